/- The document's Take, walked. -/
import Derived.Test.YtofmgijdeeikeaaHopRefIn
set_option linter.unusedVariables false
set_option linter.unusedSimpArgs false
namespace Go.Proofs.Ytofmgijdeeikeaa.Hop
open Go.RowKit Go.Proofs.Ytofmgijdeeikeaa.Mem Go.Proofs.YtofmgijdeeikeaaW.PrintWords Go.Proofs.YtofmgijdeeikeaaW.PrintLast Go.Deep
theorem RIR.below {w w1 : World} {b g : Nat} {v : Value} {x : RI} (h : RIR w b g v x) (hb : Below w.heap.size w w1) : RIR w1 b g v x := ⟨blk_below h.1 hb, Kd.R_below h.2 hb⟩
theorem RIR.drewN {w : World} {b g : Nat} {v : Value} {x : RI} (h : RIR w b g v x) (n : Nat) : RIR (w.drewN n) b g v x := ⟨h.1, Kd.R_drewN h.2 n⟩
/-- A flat row is its own block alone. -/
theorem R_ok {w : World} {b : Nat} {ok ok' : Nat → Prop} {v : Value} {xs : List U} (h : kU.R tU w b ok v xs) (h' : ∀ k, v.ownBlock = some k → ok' k) : kU.R tU w b ok' v xs := ⟨h', h.2⟩
theorem R_mine {w w1 : World} {b : Nat} {ok : Nat → Prop} {v : Value} {xs : List U} (h : kU.R tU w b ok v xs) (hk : ∀ k, v.ownBlock = some k → w1.heap[k]? = w.heap[k]?) : kU.R tU w1 b ok v xs :=
  R_ok (Kd.R_step (R_ok (ok' := fun k => v.ownBlock = some k) h (fun k hk => hk)) (fun k h1 _ => hk k h1)) h.1
def RIPost (w w0 : World) (g : Nat) (v : Value) (x' : RI) (out : List U) (r : Value) (w' : World) : Prop :=
  ∃ v', RIR w' w0.heap.size g v' x' ∧ (v'.ownBlock = v.ownBlock ∨ ∃ b, v'.ownBlock = some b ∧ w.heap.size ≤ b) ∧ kU.R tU w' w.heap.size (fun k => some k ≠ v'.ownBlock) r out ∧ Kept w w' (fun k => k = g ∨ some k = v.ownBlock) ∧ Below w0.heap.size w0 w'
def RI.setNext (x : RI) (n : Int) : RI := { x with next := n }
def RI.setHeld (x : RI) (l : List U) : RI := { x with held := l }
theorem RI.set5 {w : World} {g : Nat} {v : Value} {x : RI} (h : w.heap[g]? = some (x.obj v)) (n : Int) : (w.setCell ⟨g, 5, none⟩ (.int .i64 n)).heap[g]? = some ((x.setNext n).obj v) := by
  have := blk_set h 5 (.int .i64 n)
  simpa [RI.obj, riC, RI.setNext] using this
theorem RI.set6 {w : World} {g : Nat} {v v' : Value} {x : RI} (h : w.heap[g]? = some (x.obj v)) (l : List U) : (w.setCell ⟨g, 6, none⟩ v').heap[g]? = some ((x.setHeld l).obj v') := by
  have := blk_set h 6 v'
  simpa [RI.obj, riC, RI.setHeld] using this
set_option maxHeartbeats 1600000 in
set_option maxRecDepth 100000 in
theorem refTake_low {w w0 : World} {g : Nat} {v : Value} {x : RI} (u : U) (h : RIR w w0.heap.size g v x) (hg : w0.heap.size ≤ g) (HB : Below w0.heap.size w0 w) (hn0 : 0 ≤ x.next) (hn1 : x.next ≤ 2305843009213693952) (hw1 : 1 ≤ x.wi) (hw2 : x.wi ≤ 64) (hlen : x.held.length < 1099511627776) (hu : u.seq < x.next) :
    Calls Try.prog 35 #[.pointer (some ⟨g, 0, none⟩), u.val] w fun e w' => ∃ r, e = .returned r ∧ RIPost w w0 g v x [] r w' := by
  have H := Lib.hid h
  obtain ⟨hG, hR⟩ := h
  have hgw : g < w.heap.size := blk_lt hG
  have hws : w0.heap.size ≤ w.heap.size := HB.size
  have hpg : w.heap.size ≠ g := by omega
  have P0 := Lib.hid (blk_new w (.cells #[.int .i64 u.seq, .int .i64 u.client, .int .i64 u.number, .int .i64 u.kind, .string u.key, .string u.value, .int .i64 u.version] tU))
  have B0 := Lib.hid (below_alloc HB (.cells #[.int .i64 u.seq, .int .i64 u.client, .int .i64 u.number, .int .i64 u.kind, .string u.key, .string u.value, .int .i64 u.version] tU))
  have K0 := Lib.hid ((Kept.refl w (fun k => k = g ∨ some k = v.ownBlock)).alloc (.cells #[.int .i64 u.seq, .int .i64 u.client, .int .i64 u.number, .int .i64 u.kind, .string u.key, .string u.value, .int .i64 u.version] tU))
  have H0 := Lib.hid (H.out.below (below_alloc (Below.refl _ _) (.cells #[.int .i64 u.seq, .int .i64 u.client, .int .i64 u.number, .int .i64 u.kind, .string u.key, .string u.value, .int .i64 u.version] tU)))
  have e1 : IntKind.i64.wrap (x.next + x.wi) = x.next + x.wi := IntWalk.i64_in _ (by omega)
  have HVL := Lib.hid (Kd.R_lt hR)
  clear hG hR HB H
  have t1 : decide (u.seq < x.next) = true := by simpa using hu
  go_enter Try.func35, Try.ntmps35
  have c5 : (w.alloc (.cells #[.int .i64 u.seq, .int .i64 u.client, .int .i64 u.number, .int .i64 u.kind, .string u.key, .string u.value, .int .i64 u.version] tU)).cell? ⟨g, 5, none⟩ = some (.int .i64 x.next) := blkc H0.out.1 5
  have c1 : (w.alloc (.cells #[.int .i64 u.seq, .int .i64 u.client, .int .i64 u.number, .int .i64 u.kind, .string u.key, .string u.value, .int .i64 u.version] tU)).cell? ⟨g, 1, none⟩ = some (.int .i64 x.wi) := blkc H0.out.1 1
  have cp := blkc P0.out
  go_wp2_with fail
  go_quiet (fail)
  go_wp2
  go_ret
  exact ⟨_, rfl, v, H0.out.drewN _, .inl rfl, Kd.R_nil _ _ _ _ _, K0.out.drewN _, pw_below_drewN B0.out _⟩
set_option maxHeartbeats 1600000 in
set_option maxRecDepth 100000 in
theorem refTake_high {w w0 : World} {g : Nat} {v : Value} {x : RI} (u : U) (h : RIR w w0.heap.size g v x) (hg : w0.heap.size ≤ g) (HB : Below w0.heap.size w0 w) (hn0 : 0 ≤ x.next) (hn1 : x.next ≤ 2305843009213693952) (hw1 : 1 ≤ x.wi) (hw2 : x.wi ≤ 64) (hlen : x.held.length < 1099511627776) (hu : x.next + x.wi ≤ u.seq) :
    Calls Try.prog 35 #[.pointer (some ⟨g, 0, none⟩), u.val] w fun e w' => ∃ r, e = .returned r ∧ RIPost w w0 g v x [] r w' := by
  have H := Lib.hid h
  obtain ⟨hG, hR⟩ := h
  have hgw : g < w.heap.size := blk_lt hG
  have hws : w0.heap.size ≤ w.heap.size := HB.size
  have hpg : w.heap.size ≠ g := by omega
  have P0 := Lib.hid (blk_new w (.cells #[.int .i64 u.seq, .int .i64 u.client, .int .i64 u.number, .int .i64 u.kind, .string u.key, .string u.value, .int .i64 u.version] tU))
  have B0 := Lib.hid (below_alloc HB (.cells #[.int .i64 u.seq, .int .i64 u.client, .int .i64 u.number, .int .i64 u.kind, .string u.key, .string u.value, .int .i64 u.version] tU))
  have K0 := Lib.hid ((Kept.refl w (fun k => k = g ∨ some k = v.ownBlock)).alloc (.cells #[.int .i64 u.seq, .int .i64 u.client, .int .i64 u.number, .int .i64 u.kind, .string u.key, .string u.value, .int .i64 u.version] tU))
  have H0 := Lib.hid (H.out.below (below_alloc (Below.refl _ _) (.cells #[.int .i64 u.seq, .int .i64 u.client, .int .i64 u.number, .int .i64 u.kind, .string u.key, .string u.value, .int .i64 u.version] tU)))
  have e1 : IntKind.i64.wrap (x.next + x.wi) = x.next + x.wi := IntWalk.i64_in _ (by omega)
  have HVL := Lib.hid (Kd.R_lt hR)
  clear hG hR HB H
  have t1 : decide (u.seq < x.next) = false := by simp; omega
  have t2 : decide (x.next + x.wi ≤ u.seq) = true := by simpa using hu
  go_enter Try.func35, Try.ntmps35
  have c5 : (w.alloc (.cells #[.int .i64 u.seq, .int .i64 u.client, .int .i64 u.number, .int .i64 u.kind, .string u.key, .string u.value, .int .i64 u.version] tU)).cell? ⟨g, 5, none⟩ = some (.int .i64 x.next) := blkc H0.out.1 5
  have c1 : (w.alloc (.cells #[.int .i64 u.seq, .int .i64 u.client, .int .i64 u.number, .int .i64 u.kind, .string u.key, .string u.value, .int .i64 u.version] tU)).cell? ⟨g, 1, none⟩ = some (.int .i64 x.wi) := blkc H0.out.1 1
  have cp := blkc P0.out
  go_wp2_with fail
  go_quiet (fail)
  go_wp2
  go_ret
  exact ⟨_, rfl, v, H0.out.drewN _, .inl rfl, Kd.R_nil _ _ _ _ _, K0.out.drewN _, pw_below_drewN B0.out _⟩
set_option maxHeartbeats 1600000 in
set_option maxRecDepth 100000 in
theorem refTake_has {w w0 : World} {g : Nat} {v : Value} {x : RI} (u : U) (h : RIR w w0.heap.size g v x) (hg : w0.heap.size ≤ g) (HB : Below w0.heap.size w0 w) (hn0 : 0 ≤ x.next) (hn1 : x.next ≤ 2305843009213693952) (hw1 : 1 ≤ x.wi) (hw2 : x.wi ≤ 64) (hlen : x.held.length < 1099511627776) (hu1 : x.next < u.seq) (hu2 : u.seq < x.next + x.wi) (hh : 0 ≤ hidx x.held u.seq) :
    Calls Try.prog 35 #[.pointer (some ⟨g, 0, none⟩), u.val] w fun e w' => ∃ r, e = .returned r ∧ RIPost w w0 g v x [] r w' := by
  have H := Lib.hid h
  obtain ⟨hG, hR⟩ := h
  have hgw : g < w.heap.size := blk_lt hG
  have hws : w0.heap.size ≤ w.heap.size := HB.size
  have hpg : w.heap.size ≠ g := by omega
  have P0 := Lib.hid (blk_new w (.cells #[.int .i64 u.seq, .int .i64 u.client, .int .i64 u.number, .int .i64 u.kind, .string u.key, .string u.value, .int .i64 u.version] tU))
  have B0 := Lib.hid (below_alloc HB (.cells #[.int .i64 u.seq, .int .i64 u.client, .int .i64 u.number, .int .i64 u.kind, .string u.key, .string u.value, .int .i64 u.version] tU))
  have K0 := Lib.hid ((Kept.refl w (fun k => k = g ∨ some k = v.ownBlock)).alloc (.cells #[.int .i64 u.seq, .int .i64 u.client, .int .i64 u.number, .int .i64 u.kind, .string u.key, .string u.value, .int .i64 u.version] tU))
  have H0 := Lib.hid (H.out.below (below_alloc (Below.refl _ _) (.cells #[.int .i64 u.seq, .int .i64 u.client, .int .i64 u.number, .int .i64 u.kind, .string u.key, .string u.value, .int .i64 u.version] tU)))
  have e1 : IntKind.i64.wrap (x.next + x.wi) = x.next + x.wi := IntWalk.i64_in _ (by omega)
  have HVL := Lib.hid (Kd.R_lt hR)
  clear hG hR HB H
  have t4 : decide (hidx x.held u.seq < 0) = false := by simp; omega
  clear hh
  have t1 : decide (u.seq < x.next) = false := by simp; omega
  have t2 : decide (x.next + x.wi ≤ u.seq) = false := by simp; omega
  have t3 : decide (x.next < u.seq) = true := by simpa using hu1
  go_enter Try.func35, Try.ntmps35
  have c5 : (w.alloc (.cells #[.int .i64 u.seq, .int .i64 u.client, .int .i64 u.number, .int .i64 u.kind, .string u.key, .string u.value, .int .i64 u.version] tU)).cell? ⟨g, 5, none⟩ = some (.int .i64 x.next) := blkc H0.out.1 5
  have c1 : (w.alloc (.cells #[.int .i64 u.seq, .int .i64 u.client, .int .i64 u.number, .int .i64 u.kind, .string u.key, .string u.value, .int .i64 u.version] tU)).cell? ⟨g, 1, none⟩ = some (.int .i64 x.wi) := blkc H0.out.1 1
  have cp := blkc P0.out
  go_wp2_with fail
  go_quiet (fail)
  clear c5 c1 cp
  have P1 := Lib.hid (show ((w.alloc (.cells #[.int .i64 u.seq, .int .i64 u.client, .int .i64 u.number, .int .i64 u.kind, .string u.key, .string u.value, .int .i64 u.version] tU)).drewN nq).heap[w.heap.size]? = some (.cells #[.int .i64 u.seq, .int .i64 u.client, .int .i64 u.number, .int .i64 u.kind, .string u.key, .string u.value, .int .i64 u.version] tU) from P0.out)
  have B1 := Lib.hid (pw_below_drewN B0.out nq)
  have K1 := Lib.hid (K0.out.drewN nq)
  have H1 := Lib.hid (H0.out.drewN nq)
  clear P0 B0 K0 H0
  generalize ((w.alloc _).drewN nq) = W1 at *
  have c5 : W1.cell? ⟨g, 5, none⟩ = some (.int .i64 x.next) := blkc H1.out.1 5
  have cp := blkc P1.out
  go_wp2_with fail
  go_quiet (fail)
  clear c5 cp
  have P1 := Lib.hid (show (W1.drewN nq).heap[w.heap.size]? = some (.cells #[.int .i64 u.seq, .int .i64 u.client, .int .i64 u.number, .int .i64 u.kind, .string u.key, .string u.value, .int .i64 u.version] tU) from P1.out)
  have B1 := Lib.hid (pw_below_drewN B1.out nq)
  have K1 := Lib.hid (K1.out.drewN nq)
  have H1 := Lib.hid (H1.out.drewN nq)
  generalize (W1.drewN nq) = W2 at *
  have cp := blkc P1.out
  go_wp2_with fail
  refine (refHeld_any (w0 := w0) u.seq H1.out).mono ?_
  rintro e w3 ⟨rfl, hb3⟩
  have P3 := Lib.hid (blk_below P1.out hb3)
  have B3 := Lib.hid (below_then B1.out B1.out.size hb3)
  have K3 := Lib.hid (K1.out.below hb3)
  have H3 := Lib.hid (H1.out.below hb3)
  clear cp hb3 P1 B1 K1 H1
  go_wp2
  go_ret
  exact ⟨_, rfl, v, H3.out, .inl rfl, Kd.R_nil _ _ _ _ _, K3.out, B3.out⟩
set_option maxHeartbeats 1600000 in
set_option maxRecDepth 100000 in
theorem refTake_keep {w w0 : World} {g : Nat} {v : Value} {x : RI} (u : U) (h : RIR w w0.heap.size g v x) (hg : w0.heap.size ≤ g) (HB : Below w0.heap.size w0 w) (hn0 : 0 ≤ x.next) (hn1 : x.next ≤ 2305843009213693952) (hw1 : 1 ≤ x.wi) (hw2 : x.wi ≤ 64) (hlen : x.held.length < 1099511627776) (hu1 : x.next < u.seq) (hu2 : u.seq < x.next + x.wi) (hh : hidx x.held u.seq < 0) :
    Calls Try.prog 35 #[.pointer (some ⟨g, 0, none⟩), u.val] w fun e w' => ∃ r, e = .returned r ∧ RIPost w w0 g v (x.setHeld (x.held ++ [u])) [] r w' := by
  have H := Lib.hid h
  obtain ⟨hG, hR⟩ := h
  have hgw : g < w.heap.size := blk_lt hG
  have hws : w0.heap.size ≤ w.heap.size := HB.size
  have hpg : w.heap.size ≠ g := by omega
  have P0 := Lib.hid (blk_new w (.cells #[.int .i64 u.seq, .int .i64 u.client, .int .i64 u.number, .int .i64 u.kind, .string u.key, .string u.value, .int .i64 u.version] tU))
  have B0 := Lib.hid (below_alloc HB (.cells #[.int .i64 u.seq, .int .i64 u.client, .int .i64 u.number, .int .i64 u.kind, .string u.key, .string u.value, .int .i64 u.version] tU))
  have K0 := Lib.hid ((Kept.refl w (fun k => k = g ∨ some k = v.ownBlock)).alloc (.cells #[.int .i64 u.seq, .int .i64 u.client, .int .i64 u.number, .int .i64 u.kind, .string u.key, .string u.value, .int .i64 u.version] tU))
  have H0 := Lib.hid (H.out.below (below_alloc (Below.refl _ _) (.cells #[.int .i64 u.seq, .int .i64 u.client, .int .i64 u.number, .int .i64 u.kind, .string u.key, .string u.value, .int .i64 u.version] tU)))
  have e1 : IntKind.i64.wrap (x.next + x.wi) = x.next + x.wi := IntWalk.i64_in _ (by omega)
  have HVL := Lib.hid (Kd.R_lt hR)
  clear hG hR HB H
  have t4 : decide (hidx x.held u.seq < 0) = true := by simpa using hh
  clear hh
  have t1 : decide (u.seq < x.next) = false := by simp; omega
  have t2 : decide (x.next + x.wi ≤ u.seq) = false := by simp; omega
  have t3 : decide (x.next < u.seq) = true := by simpa using hu1
  go_enter Try.func35, Try.ntmps35
  have c5 : (w.alloc (.cells #[.int .i64 u.seq, .int .i64 u.client, .int .i64 u.number, .int .i64 u.kind, .string u.key, .string u.value, .int .i64 u.version] tU)).cell? ⟨g, 5, none⟩ = some (.int .i64 x.next) := blkc H0.out.1 5
  have c1 : (w.alloc (.cells #[.int .i64 u.seq, .int .i64 u.client, .int .i64 u.number, .int .i64 u.kind, .string u.key, .string u.value, .int .i64 u.version] tU)).cell? ⟨g, 1, none⟩ = some (.int .i64 x.wi) := blkc H0.out.1 1
  have cp := blkc P0.out
  go_wp2_with fail
  go_quiet (fail)
  clear c5 c1 cp
  have P1 := Lib.hid (show ((w.alloc (.cells #[.int .i64 u.seq, .int .i64 u.client, .int .i64 u.number, .int .i64 u.kind, .string u.key, .string u.value, .int .i64 u.version] tU)).drewN nq).heap[w.heap.size]? = some (.cells #[.int .i64 u.seq, .int .i64 u.client, .int .i64 u.number, .int .i64 u.kind, .string u.key, .string u.value, .int .i64 u.version] tU) from P0.out)
  have B1 := Lib.hid (pw_below_drewN B0.out nq)
  have K1 := Lib.hid (K0.out.drewN nq)
  have H1 := Lib.hid (H0.out.drewN nq)
  clear P0 B0 K0 H0
  generalize ((w.alloc _).drewN nq) = W1 at *
  have c5 : W1.cell? ⟨g, 5, none⟩ = some (.int .i64 x.next) := blkc H1.out.1 5
  have cp := blkc P1.out
  go_wp2_with fail
  go_quiet (fail)
  clear c5 cp
  have P1 := Lib.hid (show (W1.drewN nq).heap[w.heap.size]? = some (.cells #[.int .i64 u.seq, .int .i64 u.client, .int .i64 u.number, .int .i64 u.kind, .string u.key, .string u.value, .int .i64 u.version] tU) from P1.out)
  have B1 := Lib.hid (pw_below_drewN B1.out nq)
  have K1 := Lib.hid (K1.out.drewN nq)
  have H1 := Lib.hid (H1.out.drewN nq)
  generalize (W1.drewN nq) = W2 at *
  have cp := blkc P1.out
  go_wp2_with fail
  refine (refHeld_any (w0 := w0) u.seq H1.out).mono ?_
  rintro e w3 ⟨rfl, hb3⟩
  have P3 := Lib.hid (blk_below P1.out hb3)
  have B3 := Lib.hid (below_then B1.out B1.out.size hb3)
  have K3 := Lib.hid (K1.out.below hb3)
  have H3 := Lib.hid (H1.out.below hb3)
  clear cp hb3 P1 B1 K1 H1
  obtain ⟨A, c, rfl, _⟩ := Kd.R_reads H3.out.2
  have hvt := Lib.hid (Kd.R_ne H3.out.2 H3.out.1 (show tU ≠ tRI by decide))
  have hpv : some w.heap.size ≠ (Value.slice A x.held.length c).ownBlock := fun e => Nat.lt_irrefl _ (HVL.out _ e.symm)
  go_wp2_with fail
  have P4 := Lib.hid (blk_drew P3.out)
  have B4 := Lib.hid B3.out.drew
  have K4 := Lib.hid K3.out.drew
  have G4 := Lib.hid (blk_drew H3.out.1)
  have R4 := Lib.hid (Kd.R_drew H3.out.2)
  have hsz := K4.out.1
  generalize hpq : w.heap.size = p at *
  refine start_ (n := 11) (S := fun w' => (∀ o, w'.cell? ⟨p, o, none⟩ = #[Value.int .i64 u.seq, .int .i64 u.client, .int .i64 u.number, .int .i64 u.kind, .string u.key, .string u.value, .int .i64 u.version][o]?) ∧ (w'.cell? ⟨g, 6, none⟩ = some (.slice A x.held.length c))) (ds := [10]) #[false, false, false, false, false, false, false, false, false, false, false] (by kernel_rfl) rfl rfl ⟨(blkc P4.out), (blkc G4.out 6)⟩ (fun hHeld => ?_)
  refine pure_ (i := 0) (N := some 41) (v := ?_) (a' := ?_) #[true, false, false, false, false, false, false, false, false, false, false] rfl rfl (by kernel_rfl) (fun _ _ _ h => h) (Or.inl ⟨by rfl, ?_⟩) ?_ ?_
  rotate_left
  · intro w'
    go_simp
    with_reducible rfl
  rotate_left
  · simp only [Act.put, List.setIfInBounds_toArray, List.set_cons_zero, List.set_cons_succ, i64_w, i32_w]
    rfl
  refine pure_ (i := 1) (N := some 42) (v := ?_) (a' := ?_) #[true, true, false, false, false, false, false, false, false, false, false] rfl rfl (by kernel_rfl) (fun _ _ _ h => h) (Or.inl ⟨by rfl, ?_⟩) ?_ ?_
  rotate_left
  · intro w'
    go_simp
    with_reducible rfl
  rotate_left
  · simp only [Act.put, List.setIfInBounds_toArray, List.set_cons_zero, List.set_cons_succ, i64_w, i32_w]
    rfl
  refine pure_ (i := 2) (N := some 43) (v := ?_) (a' := ?_) #[true, true, true, false, false, false, false, false, false, false, false] rfl rfl (by kernel_rfl) (fun _ _ _ h => h) (Or.inl ⟨by rfl, ?_⟩) ?_ ?_
  rotate_left
  · intro w'
    go_simp
    with_reducible rfl
  rotate_left
  · simp only [Act.put, List.setIfInBounds_toArray, List.set_cons_zero, List.set_cons_succ, i64_w, i32_w]
    rfl
  refine pure_ (i := 3) (N := some 44) (v := ?_) (a' := ?_) #[true, true, true, true, false, false, false, false, false, false, false] rfl rfl (by kernel_rfl) (fun _ _ _ h => h) (Or.inl ⟨by rfl, ?_⟩) ?_ ?_
  rotate_left
  · intro w'
    go_simp
    with_reducible rfl
  rotate_left
  · simp only [Act.put, List.setIfInBounds_toArray, List.set_cons_zero, List.set_cons_succ, i64_w, i32_w]
    rfl
  refine take_ (i := 4) (N := some 45) (v := ?_) (a' := ?_) #[true, true, true, true, true, false, false, false, false, false, false] rfl rfl (by kernel_rfl) (fun _ _ _ h => h) (Or.inl ⟨by rfl, ?_⟩) hHeld ?_ ?_
  rotate_left
  · rintro w' ⟨s0, s1⟩
    go_simp
    with_reducible rfl
  rotate_left
  · simp only [Act.put, List.setIfInBounds_toArray, List.set_cons_zero, List.set_cons_succ, i64_w, i32_w]
    rfl
  refine take_ (i := 5) (N := some 46) (v := ?_) (a' := ?_) #[true, true, true, true, true, true, false, false, false, false, false] rfl rfl (by kernel_rfl) (fun _ _ _ h => h) (Or.inl ⟨by rfl, ?_⟩) hHeld ?_ ?_
  rotate_left
  · rintro w' ⟨s0, s1⟩
    go_simp
    with_reducible rfl
  rotate_left
  · simp only [Act.put, List.setIfInBounds_toArray, List.set_cons_zero, List.set_cons_succ, i64_w, i32_w]
    rfl
  refine one_ (i := 6) (N := some 47) #[true, true, true, true, true, true, true, false, false, false, false] rfl rfl (by kernel_rfl) (by decide) (fun K hK => ?_)
  refine value_ (w1 := ?_) (v := ?_) (by rfl) rfl ?_ ?_
  rotate_left 2
  · go_simp
    constructor
    · rfl
    · rfl
  refine hK.out _ _ ⟨(blkc (blk_below P4.out (below_alloc (Below.refl _ _) _))), (blkc (blk_below G4.out (below_alloc (Below.refl _ _) _)) 6)⟩ (fun hHeld => ?_)
  clear hK K
  refine norm_ (a' := ?_) ?_ ?_
  rotate_left
  · show Act.put _ (some 47) _ = _
    simp only [Act.put, List.setIfInBounds_toArray, List.set_cons_zero, List.set_cons_succ, i64_w, i32_w]
    rfl
  refine one_ (i := 7) (N := some 48) #[true, true, true, true, true, true, true, true, false, false, false] rfl rfl (by kernel_rfl) (by decide) (fun K hK => ?_)
  refine Kd.R_append_step kU (w0 := w0) w0.heap.size (by rfl) (.tmp 45) (.tmp 47) 24 tU (.agg #[.int .i64 0, .int .i64 0, .int .i64 0, .int .i64 0, .string ⟨#[]⟩, .string ⟨#[]⟩, .int .i64 0]) 72 rfl Try.underlying24 info_U rfl (by decide) (by decide) (.slice A x.held.length c) x.held u [.int .i64 u.seq, .int .i64 u.client, .int .i64 u.number, .int .i64 u.kind, .string u.key, .string u.value, .int .i64 u.version] (fun _ => True) (fun _ => False) rfl rfl rfl (fun _ hk => hk.elim) (fun _ _ => trivial) R4.out B4.out B4.out.size (by omega) ?_
  intro v5 w5 hr5 hb5 hg5 hat5
  obtain ⟨A5, c5, rfl⟩ := Kd.R_slice hr5
  simp only [List.length_append, List.length_singleton] at hr5 hat5 ⊢
  have P5 := Lib.hid (blk_grown P4.out hg5 hpv)
  have G5 := Lib.hid (blk_grown G4.out hg5 hvt.out)
  have B5 := Lib.hid hb5
  have K5 := Lib.hid (Kept.of_grown hg5 K4.out (fun k e => .inl (.inr e.symm)))
  have R5 := Lib.hid hr5
  have HAT := Lib.hid hat5
  clear hr5 hb5 hg5 hat5
  refine hK.out _ _ ⟨(blkc P5.out), (blkc G5.out 6)⟩ (fun hHeld => ?_)
  clear hK K
  refine norm_ (a' := ?_) ?_ ?_
  rotate_left
  · show Act.put _ (some 48) _ = _
    simp only [Act.put, List.setIfInBounds_toArray, List.set_cons_zero, List.set_cons_succ, i64_w, i32_w]
    rfl
  refine pure_ (i := 8) (N := some 49) (v := ?_) (a' := ?_) #[true, true, true, true, true, true, true, true, true, false, false] rfl rfl (by kernel_rfl) (fun _ _ _ h => h) (Or.inl ⟨by rfl, ?_⟩) ?_ ?_
  rotate_left
  · intro w'
    go_simp
    with_reducible rfl
  rotate_left
  · simp only [Act.put, List.setIfInBounds_toArray, List.set_cons_zero, List.set_cons_succ, i64_w, i32_w]
    rfl
  refine pure_ (i := 9) (N := some 50) (v := ?_) (a' := ?_) #[true, true, true, true, true, true, true, true, true, true, false] rfl rfl (by kernel_rfl) (fun _ _ _ h => h) (Or.inl ⟨by rfl, ?_⟩) ?_ ?_
  rotate_left
  · intro w'
    go_simp
    with_reducible rfl
  rotate_left
  · simp only [Act.put, List.setIfInBounds_toArray, List.set_cons_zero, List.set_cons_succ, i64_w, i32_w]
    rfl
  refine last_ (i := 10) (N := none) #[true, true, true, true, true, true, true, true, true, true, true] rfl rfl (by kernel_rfl) (by decide) (fun K hK => ?_)
  have z4 := blkz G5.out 6
  have c4_ := blkc G5.out 6
  refine skip_ (w1 := ?_) (by rfl) rfl ?_ ?_
  rotate_left
  · go_simp
    rfl
  refine hK.out _ _ ?_
  clear hK K
  refine done_ (by kernel_rfl) ?_
  have G6 := Lib.hid (RI.set6 (v' := .slice A5 (x.held.length + 1) c5) G5.out (x.held ++ [u]))
  have B6 := Lib.hid (below_set (g := g) (j := 6) (v := .slice A5 (x.held.length + 1) c5) B5.out hg)
  have K6 := Lib.hid (K5.out.setCell (p := ⟨g, 6, none⟩) (.inl (.inl rfl)) (.slice A5 (x.held.length + 1) c5))
  have R6 := Lib.hid (Kd.R_set R5.out G5.out hUR 6 (.slice A5 (x.held.length + 1) c5))
  have hss := K4.out.1
  go_wp2
  go_ret
  refine ⟨_, rfl, _, ⟨G6.out, R6.out⟩, ?_, Kd.R_nil _ _ _ _ _, K6.out, B6.out⟩
  rcases HAT.out with h | ⟨b, hb, hle⟩
  · exact .inl h
  · exact .inr ⟨b, hb, Nat.le_trans hss hle⟩
end Go.Proofs.Ytofmgijdeeikeaa.Hop
