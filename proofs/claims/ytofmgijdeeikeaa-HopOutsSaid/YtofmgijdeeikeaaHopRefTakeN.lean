/- The document's Take, where the update is the next one. -/
import Derived.Test.YtofmgijdeeikeaaHopRefTake
set_option linter.unusedVariables false
set_option linter.unusedSimpArgs false
namespace Go.Proofs.Ytofmgijdeeikeaa.Hop
open Go.RowKit Go.Proofs.Ytofmgijdeeikeaa.Mem Go.Proofs.YtofmgijdeeikeaaW.PrintWords Go.Proofs.YtofmgijdeeikeaaW.PrintLast Go.Deep
theorem own_ge {v0 v1 : Value} {q s : Nat} (h : v1.ownBlock = v0.ownBlock ∨ ∃ b, v1.ownBlock = some b ∧ s ≤ b) (h0 : ∀ i, v0.ownBlock = some i → q ≤ i) (hs : q ≤ s) : ∀ i, v1.ownBlock = some i → q ≤ i := by
  intro i hi
  rcases h with h | ⟨b, hb, hle⟩
  · exact h0 i (h ▸ hi)
  · have : b = i := Option.some.inj (hb.symm.trans hi)
    omega
theorem own_ex {v0 v1 : Value} {q s : Nat} (h : v1.ownBlock = v0.ownBlock ∨ ∃ b, v1.ownBlock = some b ∧ s ≤ b) (h0 : ∃ i, v0.ownBlock = some i ∧ q ≤ i) (hs : q ≤ s) : ∃ i, v1.ownBlock = some i ∧ q ≤ i := by
  rcases h with h | ⟨b, hb, hle⟩
  · rw [h]
    exact h0
  · exact ⟨b, hb, by omega⟩
theorem Q_lim {w : World} {b q : Nat} {ok : Nat → Prop} {v : Value} {xs : List U} (h : kU.Q tU w b ok v xs) (hq : w.heap.size ≤ q) : kU.Q tU w b (fun i => i < q) v xs := Kd.Q_mono (Kd.Q_bound h) (fun i hi => by have := hi.2.2.1; omega)
theorem Q_rd {w : World} {b n c : Nat} {ok : Nat → Prop} {A : Option Addr} {xs : List U} (h : kU.Q tU w b ok (.slice A n c) xs) : kU.C w A xs.length xs := (Kd.Q_reads' h).2.2
/-- What the document's end tells one behind the other. -/
def RI.drain : Nat → RI → RI × List U
  | 0, x => (x, [])
  | n + 1, x => match x.held.findIdx? (fun u => u.seq == x.next) with
    | none => (x, [])
    | some k => ((((x.setHeld (x.held.eraseIdx k)).setNext (x.next + 1)).drain n).1, x.held.getD k U.zero :: (((x.setHeld (x.held.eraseIdx k)).setNext (x.next + 1)).drain n).2)
theorem RI.drain_no {x : RI} (h : x.held.findIdx? (fun u => u.seq == x.next) = none) : ∀ n, x.drain n = (x, [])
  | 0 => rfl
  | n + 1 => by rw [RI.drain, h]
theorem RI.drain_yes {x : RI} {k : Nat} (h : x.held.findIdx? (fun u => u.seq == x.next) = some k) (n : Nat) : x.drain (n + 1) = ((((x.setHeld (x.held.eraseIdx k)).setNext (x.next + 1)).drain n).1, x.held.getD k U.zero :: (((x.setHeld (x.held.eraseIdx k)).setNext (x.next + 1)).drain n).2) := by rw [RI.drain, h]
set_option maxHeartbeats 1600000 in
set_option maxRecDepth 100000 in
theorem refTake_next {w w0 : World} {g : Nat} {v : Value} {x : RI} (u : U) (h : RIR w w0.heap.size g v x) (hg : w0.heap.size ≤ g) (HB : Below w0.heap.size w0 w) (hn0 : 0 ≤ x.next) (hn1 : x.next ≤ 2305843009213693952) (hw1 : 1 ≤ x.wi) (hw2 : x.wi ≤ 64) (hlen : x.held.length < 1099511627776) (hu : u.seq = x.next) (hnb : x.next + 1099511627777 < 2305843009213693952) :
    Calls Try.prog 35 #[.pointer (some ⟨g, 0, none⟩), u.val] w fun e w' => ∃ r, e = .returned r ∧ RIPost w w0 g v ((x.setNext (x.next + 1)).drain x.held.length).1 (u :: ((x.setNext (x.next + 1)).drain x.held.length).2) r w' := by
  have H := Lib.hid h
  obtain ⟨hG, hR⟩ := h
  have hgw : g < w.heap.size := blk_lt hG
  have hws : w0.heap.size ≤ w.heap.size := HB.size
  have hpg : w.heap.size ≠ g := by omega
  have P0 := Lib.hid (blk_new w (.cells #[.int .i64 u.seq, .int .i64 u.client, .int .i64 u.number, .int .i64 u.kind, .string u.key, .string u.value, .int .i64 u.version] tU))
  have B0 := Lib.hid (below_alloc HB (.cells #[.int .i64 u.seq, .int .i64 u.client, .int .i64 u.number, .int .i64 u.kind, .string u.key, .string u.value, .int .i64 u.version] tU))
  have K0 := Lib.hid ((Kept.refl w (fun k => k = g ∨ some k = v.ownBlock)).alloc (.cells #[.int .i64 u.seq, .int .i64 u.client, .int .i64 u.number, .int .i64 u.kind, .string u.key, .string u.value, .int .i64 u.version] tU))
  have H0 := Lib.hid (H.out.below (below_alloc (Below.refl _ _) (.cells #[.int .i64 u.seq, .int .i64 u.client, .int .i64 u.number, .int .i64 u.kind, .string u.key, .string u.value, .int .i64 u.version] tU)))
  have e1 : IntKind.i64.wrap (x.next + x.wi) = x.next + x.wi := IntWalk.i64_in _ (by omega)
  have HVL := Lib.hid (Kd.R_lt hR)
  clear hG hR HB H
  have HU := Lib.hid hu
  have t1 : decide (u.seq < x.next) = false := by simp; omega
  have t2 : decide (x.next + x.wi ≤ u.seq) = false := by simp; omega
  have t3 : decide (x.next < u.seq) = false := by simp; omega
  clear hu
  go_enter Try.func35, Try.ntmps35
  have c5 : (w.alloc (.cells #[.int .i64 u.seq, .int .i64 u.client, .int .i64 u.number, .int .i64 u.kind, .string u.key, .string u.value, .int .i64 u.version] tU)).cell? ⟨g, 5, none⟩ = some (.int .i64 x.next) := blkc H0.out.1 5
  have c1 : (w.alloc (.cells #[.int .i64 u.seq, .int .i64 u.client, .int .i64 u.number, .int .i64 u.kind, .string u.key, .string u.value, .int .i64 u.version] tU)).cell? ⟨g, 1, none⟩ = some (.int .i64 x.wi) := blkc H0.out.1 1
  have cp := blkc P0.out
  go_wp2_with fail
  go_quiet (fail)
  clear c5 c1 cp
  have P1 := Lib.hid (show ((w.alloc (.cells #[.int .i64 u.seq, .int .i64 u.client, .int .i64 u.number, .int .i64 u.kind, .string u.key, .string u.value, .int .i64 u.version] tU)).drewN nq).heap[w.heap.size]? = some (.cells #[.int .i64 u.seq, .int .i64 u.client, .int .i64 u.number, .int .i64 u.kind, .string u.key, .string u.value, .int .i64 u.version] tU) from P0.out)
  have B1 := Lib.hid (pw_below_drewN B0.out nq)
  have K1 := Lib.hid (K0.out.drewN nq)
  have H1 := Lib.hid (H0.out.drewN nq)
  clear P0 B0 K0 H0
  generalize ((w.alloc _).drewN nq) = W1 at *
  have c5 : W1.cell? ⟨g, 5, none⟩ = some (.int .i64 x.next) := blkc H1.out.1 5
  have cp := blkc P1.out
  go_wp2_with fail
  go_quiet (fail)
  clear c5 cp
  have P1 := Lib.hid (show (W1.drewN nq).heap[w.heap.size]? = some (.cells #[.int .i64 u.seq, .int .i64 u.client, .int .i64 u.number, .int .i64 u.kind, .string u.key, .string u.value, .int .i64 u.version] tU) from P1.out)
  have B1 := Lib.hid (pw_below_drewN B1.out nq)
  have K1 := Lib.hid (K1.out.drewN nq)
  have H1 := Lib.hid (H1.out.drewN nq)
  generalize (W1.drewN nq) = W2 at *
  have cp := blkc P1.out
  have hw2 : w.heap.size ≤ W2.heap.size := K1.out.1
  have H2 := Lib.hid (H1.out.below (below_alloc (Below.refl _ _) (.cells #[.int .i64 u.seq, .int .i64 u.client, .int .i64 u.number, .int .i64 u.kind, .string u.key, .string u.value, .int .i64 u.version] tU)))
  have B2 := Lib.hid (below_alloc B1.out (.cells #[.int .i64 u.seq, .int .i64 u.client, .int .i64 u.number, .int .i64 u.kind, .string u.key, .string u.value, .int .i64 u.version] tU))
  have K2 := Lib.hid (K1.out.alloc (.cells #[.int .i64 u.seq, .int .i64 u.client, .int .i64 u.number, .int .i64 u.kind, .string u.key, .string u.value, .int .i64 u.version] tU))
  have RA2 := Lib.hid (R_one W2 w.heap.size u hw2)
  have c5 : (W2.alloc (.cells #[.int .i64 u.seq, .int .i64 u.client, .int .i64 u.number, .int .i64 u.kind, .string u.key, .string u.value, .int .i64 u.version] tU)).cell? ⟨g, 5, none⟩ = some (.int .i64 x.next) := blkc H2.out.1 5
  have z5 := blkz H2.out.1 5
  have e2 : IntKind.i64.wrap (x.next + 1) = x.next + 1 := IntWalk.i64_in _ (by omega)
  have G3 := Lib.hid (RI.set5 H2.out.1 (x.next + 1))
  have RH3 := Lib.hid (Kd.R_set H2.out.2 H2.out.1 hUR 5 (.int .i64 (x.next + 1)))
  have RA3 := Lib.hid (Kd.R_set RA2.out H2.out.1 hUR 5 (.int .i64 (x.next + 1)))
  have B3 := Lib.hid (below_set (g := g) (j := 5) (v := .int .i64 (x.next + 1)) B2.out hg)
  have K3 := Lib.hid (K2.out.setCell (p := ⟨g, 5, none⟩) (.inl (.inl rfl)) (.int .i64 (x.next + 1)))
  have hav : ∀ k, v.ownBlock = some k → k < w.heap.size := HVL.out
  have HAV := Lib.hid (show some W2.heap.size ≠ v.ownBlock from fun e => by have := hav _ e.symm; omega)
  clear hav
  go_wp2_with fail
  clear c5 z5 cp P1 B1 K1 H1 H2 B2 K2 RA2 e1 e2 t1 t2 t3
  generalize (World.setCell _ _ _) = W3 at *
  generalize hq3 : W2.heap.size = q3 at *
  clear hq3
  go_loopg [5] (x.held.length + 1) (fun kq v5 w' => ∃ (y : RI) (acc : List U) (vh : Value), Hid (y.wi = x.wi) ∧ Hid (y.held.length < kq) ∧ Hid (acc.length + kq ≤ x.held.length + 1) ∧ Hid (y.next + kq ≤ x.next + 1 + x.held.length + 1) ∧ Hid (0 ≤ y.next) ∧ Hid ((x.setNext (x.next + 1)).drain x.held.length = ((y.drain y.held.length).1, acc ++ (y.drain y.held.length).2)) ∧ Hid (w'.heap[g]? = some (y.obj vh)) ∧ Hid (kU.R tU w' w0.heap.size (fun _ => True) vh y.held) ∧ Hid (kU.R tU w' w.heap.size (fun _ => True) v5 (u :: acc)) ∧ Hid (v5.ownBlock = none ∨ v5.ownBlock ≠ vh.ownBlock) ∧ Hid (vh.ownBlock = v.ownBlock ∨ ∃ b, vh.ownBlock = some b ∧ w.heap.size ≤ b) ∧ Hid (Below w0.heap.size w0 w') ∧ Hid (Kept w w' (fun k => k = g ∨ some k = v.ownBlock)))
  case atStart => exact ⟨x.setNext (x.next + 1), [], v, rfl, Nat.lt_succ_self _, Lib.hid (by simp), Lib.hid (by simp only [RI.setNext]; omega), Lib.hid (by simp only [RI.setNext]; omega), Lib.hid (by simp [RI.setNext]), G3.out, RH3.out, RA3.out, Lib.hid (.inr HAV.out), Lib.hid (.inl rfl), B3.out, K3.out⟩
  case round =>
    clear G3 RH3 RA3 B3 K3 HAV
    obtain ⟨y0, acc, vh, HWI, HLE, HAC, HNX, HN0, HD, G3, RH3, RA3, HAP, HVF, B3, K3⟩ := hrel
    have hny : 0 ≤ y0.next := HN0.out
    have hny2 : y0.next + 1 < 2305843009213693952 := by have := HNX.out; have := HLE.out; omega
    have e1 : IntKind.i64.wrap (y0.next + 1) = y0.next + 1 := IntWalk.i64_in _ (by omega)
    have hgr : g < wr.heap.size := blk_lt G3.out
    have c5 : wr.cell? ⟨g, 5, none⟩ = some (.int .i64 y0.next) := blkc G3.out 5
    cases hfi : y0.held.findIdx? (fun u => u.seq == y0.next) with
    | none =>
      have F := Lib.hid (show (x.setNext (x.next + 1)).drain x.held.length = (y0, acc) by rw [HD.out, RI.drain_no hfi]; simp)
      have HX := Lib.hid (show hidx y0.held y0.next = -1 by rw [hidx, hfi])
      clear hfi
      go_wp2_with fail
      refine (refHeld_any (w0 := w0) y0.next ⟨G3.out, RH3.out⟩).mono ?_
      rintro e w5 ⟨rfl, hb5⟩
      rw [HX.out]
      have hfin : RIPost w w0 g v y0 (u :: acc) u5 w5 := by
        refine ⟨vh, ⟨blk_below G3.out hb5, Kd.R_below RH3.out hb5⟩, HVF.out, R_ok (Kd.R_below RA3.out hb5) (fun k hk e => ?_), K3.out.below hb5, below_then B3.out B3.out.size hb5⟩
        rcases HAP.out with h | h
        · rw [h] at hk
          cases hk
        · exact h (hk.trans e)
      have FIN := Lib.hid hfin
      clear hfin hb5
      go_wp2_with fail
      go_ret
      rw [F.out]
      exact ⟨_, rfl, FIN.out⟩
    | some k =>
      have hkl : k < y0.held.length := by
        have := List.findIdx?_eq_some_iff_getElem.1 hfi
        exact this.1
      obtain ⟨k1, rfl⟩ : ∃ k1, gk = k1 + 1 := ⟨gk - 1, by have := HLE.out; omega⟩
      have HX := Lib.hid (show hidx y0.held y0.next = k by rw [hidx, hfi])
      have hyy := List.getElem?_eq_getElem hkl
      have hgd : y0.held.getD k U.zero = y0.held[k] := by simp [List.getD_eq_getElem?_getD, hyy]
      have HDY := Lib.hid (RI.drain_yes hfi (y0.held.length - 1))
      rw [hgd, show y0.held.length - 1 + 1 = y0.held.length by omega] at HDY
      generalize y0.held[k] = y at *
      have HYY := Lib.hid hyy
      have hhl := HAC.out
      have hll := HLE.out
      clear hfi hgd
      go_wp2_with fail
      refine (refHeld_any (w0 := w0) y0.next ⟨G3.out, RH3.out⟩).mono ?_
      rintro e w5 ⟨rfl, hb5⟩
      rw [HX.out]
      have G5 := Lib.hid (blk_below G3.out hb5)
      have RH5 := Lib.hid (Kd.R_below RH3.out hb5)
      have RA5 := Lib.hid (Kd.R_below RA3.out hb5)
      have B5 := Lib.hid (below_then B3.out B3.out.size hb5)
      have K5 := Lib.hid (K3.out.below hb5)
      clear hb5 G3 RH3 RA3 B3 K3 c5
      obtain ⟨A, c, rfl, hc, hC⟩ := Kd.R_reads RH5.out
      obtain ⟨ad, hA, a0, a1, a2, a3, a4, a5, a6⟩ := at_U hC hyy
      subst hA
      have c6 : w5.cell? ⟨g, 6, none⟩ = some (.slice (some ad) y0.held.length c) := blkc G5.out 6
      have p1 := eq_true (show 0 ≤ (k : Int) by omega)
      have p2 := eq_true (show k < y0.held.length by omega)
      have t4 : decide ((k : Int) < 0) = false := by simp
      have hwr5 : w.heap.size ≤ w5.heap.size := K5.out.1
      have RAB := Lib.hid (Kd.R_base RA5.out)
      have HNE := Lib.hid (Kd.R_ne RA5.out G5.out (show tU ≠ tRI by decide))
      have HVL5 := Lib.hid (Kd.R_lt RH5.out)
      clear hC hyy
      go_wp2_with ((at_builtin; refine Kd.R_append kU (w0 := _) w.heap.size rfl (.tmp 69) (.tmp 77) 24 tU (.agg #[.int .i64 0, .int .i64 0, .int .i64 0, .int .i64 0, .string ⟨#[]⟩, .string ⟨#[]⟩, .int .i64 0]) 72 rfl Try.underlying24 info_U rfl (by decide) (by decide) u5 (u :: acc) y [.int .i64 y.seq, .int .i64 y.client, .int .i64 y.number, .int .i64 y.kind, .string y.key, .string y.value, .int .i64 y.version] (fun _ => True) (fun _ => False) rfl rfl rfl (fun _ h => h.elim) (fun _ _ => trivial) RA5.out (Below.refl _ _) hwr5 (by simp only [List.length_cons]; omega) ?_); intro v6 w6 hr6 hb6 hg6 hat6)
      have G6 := Lib.hid (blk_grown G5.out hg6 HNE.out)
      have RH6 := Lib.hid (R_mine RH5.out (fun q hq => hg6.block q (HVL5.out q hq) (fun e => by
        rcases HAP.out with h | h
        · rw [h] at e
          cases e
        · exact h (e.symm.trans hq.symm))))
      have RA6 := Lib.hid hr6
      have B6 := Lib.hid (pw_below_grown B5.out _ B5.out.size hg6 (fun q e => by have := RAB.out q e; omega))
      have K6 := Lib.hid (Kept.of_grown hg6 K5.out (fun q e => .inr (RAB.out q e)))
      have HAP6 : Hid (v6.ownBlock = none ∨ v6.ownBlock ≠ (Value.slice (some ad) y0.held.length c).ownBlock) := by
        refine Lib.hid ?_
        rcases hat6 with h | ⟨b, hb, hle⟩
        · rw [h]
          exact HAP.out
        · refine .inr (fun e => ?_)
          have := HVL5.out b (by rw [← e]; exact hb)
          omega
      have HV6 := Lib.hid (Kd.R_lt RH6.out)
      have HA6 := Lib.hid (Kd.R_lt hr6)
      clear hr6 hb6 hg6 hat6 c6 a0 a1 a2 a3 a4 a5 a6 G5 RH5 RA5 B5 K5 HAP HNE
      have hcut1 : ∀ W : World, (Instr.slice 24 (.slice (some ad) y0.held.length c) none (some (.int .i64 (k : Int))) none).run Try.prog W = .ok (.slice (some ad) k c) W := by
        obtain ⟨i, hi, hz⟩ := Option.map_eq_some_iff.1 info_U
        intro W
        exact cut_to (P := Try.prog) 24 tU .i64 Try.underlying24 hi (some ad) y0.held.length c (k : Int) (by omega) (by omega) hc W
      obtain ⟨v2, hcut2, hq2, hv2⟩ := Q_cutn ((k : Int) + 1) (by omega) (by omega) (Kd.Q_of_R RH6.out)
      rw [show ((k : Int) + 1).toNat = k + 1 by omega] at hq2
      obtain ⟨A2, c2, rfl, hc2⟩ := Kd.Q_slice hq2
      have HQ2 := Lib.hid hq2
      have e2 : IntKind.i64.wrap ((k : Int) + 1) = (k : Int) + 1 := IntWalk.i64_in _ (by omega)
      have hm2 : (y0.held.drop (k + 1)).length = y0.held.length - (k + 1) := List.length_drop
      have hlk : (y0.held.take k).length = k := by rw [List.length_take]; omega
      generalize hm3 : (y0.held.drop (k + 1)).length = m2 at *
      have HM2 := Lib.hid hm2
      clear hq2 hv2 hm2
      generalize hq : w6.heap.size = q at *
      have hgq : g ≠ q := by have := blk_lt G6.out; omega
      have hwq : w.heap.size ≤ q := by have := K6.out.1; omega
      have hw0q : w0.heap.size ≤ q := by omega
      have G7 := Lib.hid (blk_drew (blk_below G6.out (below_alloc (Below.refl _ _) (.cells #[] tU))))
      have RH7 := Lib.hid (Kd.R_drew (Kd.R_alloc RH6.out (.cells #[] tU)))
      have HQ7 := Lib.hid (Kd.Q_drew (Kd.Q_alloc HQ2.out (.cells #[] tU)))
      have RA7 := Lib.hid (Kd.R_drew (Kd.R_alloc RA6.out (.cells #[] tU)))
      have B7 := Lib.hid (below_alloc B6.out (.cells #[] tU)).drew
      have K7 := Lib.hid (K6.out.alloc (.cells #[] tU)).drew
      have hz7 : (w6.alloc (.cells #[] tU)).drew.heap[q]? = some (.cells #[] tU (0, 0)) := by have := blk_new w6 (.cells #[] tU); rw [hq] at this; exact this
      have RZ7 := Lib.hid (R_of_blk (base := w0.heap.size) (ok := fun _ => True) (xs := []) (cap := 0) trivial hw0q hz7 (Nat.le_refl _) (Nat.zero_le _) rfl ⟨Nat.zero_le _, fun i u hu => by simp at hu⟩)
      have ct := (Kd.R_reads' (Kd.R_take RH7.out (m := k) (by omega))).2.2
      rw [hlk] at ct
      have CT7 := Lib.hid ct
      clear hz7 ct
      go_wp2_with fail
      have G6d := Lib.hid (blk_drew G6.out)
      refine start_ (n := 20) (S := fun w' => (w'.cell? ⟨g, 6, none⟩ = some (.slice (some ad) y0.held.length c))) (ds := [19]) #[false, false, false, false, false, false, false, false, false, false, false, false, false, false, false, false, false, false, false, false] (by kernel_rfl) rfl rfl ((blkc G6d.out 6)) (fun hHeld => ?_)
      refine pure_ (i := 0) (N := some 79) (v := ?_) (a' := ?_) #[true, false, false, false, false, false, false, false, false, false, false, false, false, false, false, false, false, false, false, false] rfl rfl (by kernel_rfl) (fun _ _ _ h => h) (Or.inl ⟨by rfl, ?_⟩) ?_ ?_
      rotate_left
      · intro w'
        go_simp
        with_reducible rfl
      rotate_left
      · simp only [Act.put, List.setIfInBounds_toArray, List.set_cons_zero, List.set_cons_succ, i64_w, i32_w]
        rfl
      refine pure_ (i := 2) (N := some 81) (v := ?_) (a' := ?_) #[true, false, true, false, false, false, false, false, false, false, false, false, false, false, false, false, false, false, false, false] rfl rfl (by kernel_rfl) (fun _ _ _ h => h) (Or.inl ⟨by rfl, ?_⟩) ?_ ?_
      rotate_left
      · intro w'
        go_simp
        with_reducible rfl
      rotate_left
      · simp only [Act.put, List.setIfInBounds_toArray, List.set_cons_zero, List.set_cons_succ, i64_w, i32_w]
        rfl
      refine pure_ (i := 3) (N := some 82) (v := ?_) (a' := ?_) #[true, false, true, true, false, false, false, false, false, false, false, false, false, false, false, false, false, false, false, false] rfl rfl (by kernel_rfl) (fun _ _ _ h => h) (Or.inl ⟨by rfl, ?_⟩) ?_ ?_
      rotate_left
      · intro w'
        go_simp
        with_reducible rfl
      rotate_left
      · simp only [Act.put, List.setIfInBounds_toArray, List.set_cons_zero, List.set_cons_succ, i64_w, i32_w]
        rfl
      refine pure_ (i := 4) (N := some 83) (v := ?_) (a' := ?_) #[true, false, true, true, true, false, false, false, false, false, false, false, false, false, false, false, false, false, false, false] rfl rfl (by kernel_rfl) (fun _ _ _ h => h) (Or.inl ⟨by rfl, ?_⟩) ?_ ?_
      rotate_left
      · intro w'
        go_simp
        with_reducible rfl
      rotate_left
      · simp only [Act.put, List.setIfInBounds_toArray, List.set_cons_zero, List.set_cons_succ, i64_w, i32_w]
        rfl
      refine pure_ (i := 6) (N := some 85) (v := ?_) (a' := ?_) #[true, false, true, true, true, false, true, false, false, false, false, false, false, false, false, false, false, false, false, false] rfl rfl (by kernel_rfl) (fun _ _ _ h => h) (Or.inl ⟨by rfl, ?_⟩) ?_ ?_
      rotate_left
      · intro w'
        go_simp
        with_reducible rfl
      rotate_left
      · simp only [Act.put, List.setIfInBounds_toArray, List.set_cons_zero, List.set_cons_succ, i64_w, i32_w]
        rfl
      refine pure_ (i := 9) (N := some 88) (v := ?_) (a' := ?_) #[true, false, true, true, true, false, true, false, false, true, false, false, false, false, false, false, false, false, false, false] rfl rfl (by kernel_rfl) (fun _ _ _ h => h) (Or.inl ⟨by rfl, ?_⟩) ?_ ?_
      rotate_left
      · intro w'
        go_simp
        with_reducible rfl
      rotate_left
      · simp only [Act.put, List.setIfInBounds_toArray, List.set_cons_zero, List.set_cons_succ, i64_w, i32_w]
        rfl
      refine pure_ (i := 10) (N := some 89) (v := ?_) (a' := ?_) #[true, false, true, true, true, false, true, false, false, true, true, false, false, false, false, false, false, false, false, false] rfl rfl (by kernel_rfl) (fun _ _ _ h => h) (Or.inl ⟨by rfl, ?_⟩) ?_ ?_
      rotate_left
      · intro w'
        go_simp
        with_reducible rfl
      rotate_left
      · simp only [Act.put, List.setIfInBounds_toArray, List.set_cons_zero, List.set_cons_succ, i64_w, i32_w]
        rfl
      refine pure_ (i := 11) (N := some 90) (v := ?_) (a' := ?_) #[true, false, true, true, true, false, true, false, false, true, true, true, false, false, false, false, false, false, false, false] rfl rfl (by kernel_rfl) (fun _ _ _ h => h) (Or.inl ⟨by rfl, ?_⟩) ?_ ?_
      rotate_left
      · intro w'
        go_simp
        with_reducible rfl
      rotate_left
      · simp only [Act.put, List.setIfInBounds_toArray, List.set_cons_zero, List.set_cons_succ, i64_w, i32_w]
        rfl
      refine pure_ (i := 13) (N := some 92) (v := ?_) (a' := ?_) #[true, false, true, true, true, false, true, false, false, true, true, true, false, true, false, false, false, false, false, false] rfl rfl (by kernel_rfl) (fun _ _ _ h => h) (Or.inl ⟨by rfl, ?_⟩) ?_ ?_
      rotate_left
      · intro w'
        go_simp
        with_reducible rfl
      rotate_left
      · simp only [Act.put, List.setIfInBounds_toArray, List.set_cons_zero, List.set_cons_succ, i64_w, i32_w]
        rfl
      refine pure_ (i := 14) (N := some 93) (v := ?_) (a' := ?_) #[true, false, true, true, true, false, true, false, false, true, true, true, false, true, true, false, false, false, false, false] rfl rfl (by kernel_rfl) (fun _ _ _ h => h) (Or.inl ⟨by rfl, ?_⟩) ?_ ?_
      rotate_left
      · intro w'
        go_simp
        with_reducible rfl
      rotate_left
      · simp only [Act.put, List.setIfInBounds_toArray, List.set_cons_zero, List.set_cons_succ, i64_w, i32_w]
        rfl
      refine take_ (i := 5) (N := some 84) (v := ?_) (a' := ?_) #[true, false, true, true, true, true, true, false, false, true, true, true, false, true, true, false, false, false, false, false] rfl rfl (by kernel_rfl) (fun _ _ _ h => h) (Or.inl ⟨by rfl, ?_⟩) hHeld ?_ ?_
      rotate_left
      · intro w' s0
        go_simp
        with_reducible rfl
      rotate_left
      · simp only [Act.put, List.setIfInBounds_toArray, List.set_cons_zero, List.set_cons_succ, i64_w, i32_w]
        rfl
      refine pure_ (i := 7) (N := some 86) (v := ?_) (a' := ?_) #[true, false, true, true, true, true, true, true, false, true, true, true, false, true, true, false, false, false, false, false] rfl rfl (by kernel_rfl) (fun _ _ _ h => h) (Or.inl ⟨by rfl, ?_⟩) ?_ ?_
      rotate_left
      · intro w'
        go_simp
        with_reducible rfl
      rotate_left
      · simp only [Act.put, List.setIfInBounds_toArray, List.set_cons_zero, List.set_cons_succ, i64_w, i32_w]
        rfl
      refine take_ (i := 12) (N := some 91) (v := ?_) (a' := ?_) #[true, false, true, true, true, true, true, true, false, true, true, true, true, true, true, false, false, false, false, false] rfl rfl (by kernel_rfl) (fun _ _ _ h => h) (Or.inl ⟨by rfl, ?_⟩) hHeld ?_ ?_
      rotate_left
      · intro w' s0
        go_simp
        with_reducible rfl
      rotate_left
      · simp only [Act.put, List.setIfInBounds_toArray, List.set_cons_zero, List.set_cons_succ, i64_w, i32_w]
        rfl
      refine pure_ (i := 15) (N := some 94) (v := ?_) (a' := ?_) #[true, false, true, true, true, true, true, true, false, true, true, true, true, true, true, true, false, false, false, false] rfl rfl (by kernel_rfl) (fun _ _ _ h => h) (Or.inl ⟨by rfl, ?_⟩) ?_ ?_
      rotate_left
      · intro w'
        go_simp
        with_reducible rfl
      rotate_left
      · simp only [Act.put, List.setIfInBounds_toArray, List.set_cons_zero, List.set_cons_succ, i64_w, i32_w]
        rfl
      refine one_ (i := 1) (N := some 80) #[true, true, true, true, true, true, true, true, false, true, true, true, true, true, true, true, false, false, false, false] rfl rfl (by kernel_rfl) (by decide) (fun K hK => ?_)
      refine value_ (w1 := ?_) (v := ?_) (by rfl) rfl ?_ ?_
      rotate_left 2
      · go_simp
        constructor
        · rfl
        · rfl
      refine hK.out _ _ ((blkc G7.out 6)) (fun hHeld => ?_)
      clear hK K
      refine norm_ (a' := ?_) ?_ ?_
      rotate_left
      · show Act.put _ (some 80) _ = _
        simp only [Act.put, List.setIfInBounds_toArray, List.set_cons_zero, List.set_cons_succ, i64_w, i32_w]
        rfl
      refine one_ (i := 8) (N := some 87) #[true, true, true, true, true, true, true, true, true, true, true, true, true, true, true, true, false, false, false, false] rfl rfl (by kernel_rfl) (by decide) (fun K hK => ?_)
      refine Kd.R_append_rows_step kU (Rr := fun u cs => cs = u.cells) (w0 := w0) w0.heap.size (by rfl) (.tmp 80) (.tmp 86) 24 tU (.agg #[.int .i64 0, .int .i64 0, .int .i64 0, .int .i64 0, .string ⟨#[]⟩, .string ⟨#[]⟩, .int .i64 0]) 72 rfl Try.underlying24 info_U rfl (by decide) (by decide) (.slice (some ⟨q, 0, none⟩) 0 0) [] (y0.held.take k) (some ad) k c (fun _ => True) (fun _ => False) rfl rfl RZ7.out CT7.out (fun _ _ h => h) (fun _ h => h.elim) (fun _ _ => trivial) B7.out B7.out.size (by simp only [List.length_nil]; omega) ?_
      intro v8 w8 hr8 hb8 hg8 hat8
      rw [List.nil_append] at hr8
      obtain ⟨A8, c8, rfl⟩ := Kd.R_slice hr8
      rw [hlk] at hr8 hat8 ⊢
      have hqg8 : some g ≠ some q := fun e => hgq (Option.some.inj e)
      have G8 := Lib.hid (blk_grown G7.out hg8 hqg8)
      have RH8 := Lib.hid (R_mine RH7.out (fun i hi => hg8.block i (Kd.R_lt RH7.out i hi) (fun e => by have := HV6.out i hi; have e2 : i = q := Option.some.inj e; omega)))
      have RA8 := Lib.hid (R_mine RA7.out (fun i hi => hg8.block i (Kd.R_lt RA7.out i hi) (fun e => by have := HA6.out i hi; have e2 : i = q := Option.some.inj e; omega)))
      have HQ8 := Lib.hid (Kd.Q_step (Q_lim HQ2.out (q := q) (by omega)) (w1 := w8) (fun i hi _ => (hg8.block i (by simp; omega) (fun e => by have e2 : i = q := Option.some.inj e; omega)).trans (Below.heap_alloc w6 _ i (by omega))))
      have RV8 := Lib.hid hr8
      have B8 := Lib.hid hb8
      have K8 := Lib.hid (Kept.of_grown hg8 K7.out (fun i e => .inr (by have e2 : q = i := Option.some.inj e; omega)))
      have HX8 := Lib.hid (own_ex (q := q) hat8 ⟨q, rfl, Nat.le_refl _⟩ (by simp; omega))
      have HV8 := Lib.hid (own_ge (q := q) hat8 (fun i hi => Nat.le_of_eq (Option.some.inj hi)) (by simp; omega))
      have cd := (Q_rd HQ8.out)
      rw [hm3] at cd
      have CD8 := Lib.hid cd
      have HSZ8 := Lib.hid (show q ≤ w8.heap.size from by have := hg8.size; simp at this; omega)
      clear cd hr8 hb8 hg8 hat8
      refine hK.out _ _ ((blkc G8.out 6)) (fun hHeld => ?_)
      clear hK K
      refine norm_ (a' := ?_) ?_ ?_
      rotate_left
      · show Act.put _ (some 87) _ = _
        simp only [Act.put, List.setIfInBounds_toArray, List.set_cons_zero, List.set_cons_succ, i64_w, i32_w]
        rfl
      refine one_ (i := 16) (N := some 95) #[true, true, true, true, true, true, true, true, true, true, true, true, true, true, true, true, true, false, false, false] rfl rfl (by kernel_rfl) (by decide) (fun K hK => ?_)
      refine Kd.R_append_rows_step kU (Rr := fun u cs => cs = u.cells) (w0 := w0) w0.heap.size (by rfl) (.tmp 87) (.tmp 94) 24 tU (.agg #[.int .i64 0, .int .i64 0, .int .i64 0, .int .i64 0, .string ⟨#[]⟩, .string ⟨#[]⟩, .int .i64 0]) 72 rfl Try.underlying24 info_U rfl (by decide) (by decide) (.slice A8 k c8) (y0.held.take k) (y0.held.drop (k + 1)) A2 m2 c2 (fun _ => True) (fun _ => False) rfl rfl RV8.out CD8.out (fun _ _ h => h) (fun _ h => h.elim) (fun _ _ => trivial) B8.out B8.out.size (by have := HM2.out; rw [hlk]; omega) ?_
      intro v9 w9 hr9 hb9 hg9 hat9
      obtain ⟨A9, c9, rfl⟩ := Kd.R_slice hr9
      rw [List.length_append, hlk, hm3] at hr9 hat9 ⊢
      have G9 := Lib.hid (blk_grown G8.out hg9 (fun e => by have := HV8.out g e.symm; have := blk_lt G6.out; omega))
      have RH9 := Lib.hid (R_mine RH8.out (fun i hi => hg9.block i (Kd.R_lt RH8.out i hi) (fun e => by have := HV6.out i hi; have := HV8.out i e.symm; omega)))
      have RA9 := Lib.hid (R_mine RA8.out (fun i hi => hg9.block i (Kd.R_lt RA8.out i hi) (fun e => by have := HA6.out i hi; have := HV8.out i e.symm; omega)))
      have RV9 := Lib.hid hr9
      have B9 := Lib.hid hb9
      have K9 := Lib.hid (Kept.of_grown hg9 K8.out (fun i e => .inr (by have := HV8.out i e; omega)))
      have hw8q := K8.out.1
      have HX9 := Lib.hid (own_ex (q := q) hat9 HX8.out HSZ8.out)
      have HV9 := Lib.hid (own_ge (q := q) hat9 HV8.out HSZ8.out)
      clear hr9 hb9 hg9 hat9
      refine hK.out _ _ ((blkc G9.out 6)) (fun hHeld => ?_)
      clear hK K
      refine norm_ (a' := ?_) ?_ ?_
      rotate_left
      · show Act.put _ (some 95) _ = _
        simp only [Act.put, List.setIfInBounds_toArray, List.set_cons_zero, List.set_cons_succ, i64_w, i32_w]
        rfl
      refine pure_ (i := 17) (N := some 96) (v := ?_) (a' := ?_) #[true, true, true, true, true, true, true, true, true, true, true, true, true, true, true, true, true, true, false, false] rfl rfl (by kernel_rfl) (fun _ _ _ h => h) (Or.inl ⟨by rfl, ?_⟩) ?_ ?_
      rotate_left
      · intro w'
        go_simp
        with_reducible rfl
      rotate_left
      · simp only [Act.put, List.setIfInBounds_toArray, List.set_cons_zero, List.set_cons_succ, i64_w, i32_w]
        rfl
      refine pure_ (i := 18) (N := some 97) (v := ?_) (a' := ?_) #[true, true, true, true, true, true, true, true, true, true, true, true, true, true, true, true, true, true, true, false] rfl rfl (by kernel_rfl) (fun _ _ _ h => h) (Or.inl ⟨by rfl, ?_⟩) ?_ ?_
      rotate_left
      · intro w'
        go_simp
        with_reducible rfl
      rotate_left
      · simp only [Act.put, List.setIfInBounds_toArray, List.set_cons_zero, List.set_cons_succ, i64_w, i32_w]
        rfl
      refine last_ (i := 19) (N := none) #[true, true, true, true, true, true, true, true, true, true, true, true, true, true, true, true, true, true, true, true] rfl rfl (by kernel_rfl) (by decide) (fun K hK => ?_)
      have z4 := blkz G9.out 6
      have c4_ := blkc G9.out 6
      refine skip_ (w1 := ?_) (by rfl) rfl ?_ ?_
      rotate_left
      · go_simp
        rfl
      refine hK.out _ _ ?_
      clear hK K
      refine done_ (by kernel_rfl) ?_
      have G10 := Lib.hid (RI.set6 (v' := (.slice A9 (k + m2) c9)) G9.out (y0.held.take k ++ y0.held.drop (k + 1)))
      have B10 := Lib.hid (below_set (g := g) (j := 6) (v := (.slice A9 (k + m2) c9)) B9.out hg)
      have K10 := Lib.hid (K9.out.setCell (p := ⟨g, 6, none⟩) (.inl (.inl rfl)) (.slice A9 (k + m2) c9))
      have R10 := Lib.hid (Kd.R_set RV9.out G9.out hUR 6 (.slice A9 (k + m2) c9))
      have RA10 := Lib.hid (Kd.R_set RA9.out G9.out hUR 6 (.slice A9 (k + m2) c9))
      clear G9 B9 K9 RV9 RA9 RH9
      generalize (World.setCell w9 _ _) = W10 at *
      have d5 : W10.cell? ⟨g, 5, none⟩ = some (.int .i64 y0.next) := blkc G10.out 5
      have z5 := blkz G10.out 5
      have G11 := Lib.hid (RI.set5 G10.out (y0.next + 1))
      have B11 := Lib.hid (below_set (g := g) (j := 5) (v := .int .i64 (y0.next + 1)) B10.out hg)
      have K11 := Lib.hid (K10.out.setCell (p := ⟨g, 5, none⟩) (.inl (.inl rfl)) (.int .i64 (y0.next + 1)))
      have R11 := Lib.hid (Kd.R_set R10.out G10.out hUR 5 (.int .i64 (y0.next + 1)))
      have RA11 := Lib.hid (Kd.R_set RA10.out G10.out hUR 5 (.int .i64 (y0.next + 1)))
      have hers : y0.held.eraseIdx k = y0.held.take k ++ y0.held.drop (k + 1) := List.eraseIdx_eq_take_drop_succ _ _
      have HER := Lib.hid hers
      have hlen2 : (y0.held.take k ++ y0.held.drop (k + 1)).length + 1 = y0.held.length := by rw [List.length_append, hlk, hm3]; have := HM2.out; omega
      have HL2 := Lib.hid hlen2
      clear hers hlen2
      go_wp2_with fail
      go_roundg k1
      case measure => exact Nat.lt_succ_self _
      case rel =>
        refine ⟨(y0.setHeld (y0.held.take k ++ y0.held.drop (k + 1))).setNext (y0.next + 1), acc ++ [y], (.slice A9 (k + m2) c9), HWI.out, ?_, ?_, ?_, ?_, ?_, G11.out, R11.out, RA11.out, ?_, ?_, B11.out, K11.out⟩
        · exact Lib.hid (by have := HLE.out; have := HL2.out; simp only [RI.setNext, RI.setHeld]; omega)
        · exact Lib.hid (by have := HAC.out; simp only [List.length_append, List.length_singleton]; omega)
        · exact Lib.hid (by have := HNX.out; simp only [RI.setNext]; omega)
        · exact Lib.hid (by simp only [RI.setNext]; omega)
        · refine Lib.hid ?_
          rw [HD.out, HDY.out, HER.out]
          have e : ((y0.setHeld (y0.held.take k ++ y0.held.drop (k + 1))).setNext (y0.next + 1)).held.length = y0.held.length - 1 := by
            have := HL2.out
            simp only [RI.setNext, RI.setHeld]
            omega
          rw [e]
          simp
        · refine Lib.hid ?_
          cases hv : v6.ownBlock with
          | none => exact .inl rfl
          | some b =>
            refine .inr (fun e => ?_)
            have h1 := HA6.out b hv
            have h2 := HV9.out b e.symm
            omega
        · refine Lib.hid (.inr ?_)
          obtain ⟨b, hb, hle⟩ := HX9.out
          exact ⟨b, hb, Nat.le_trans hwq hle⟩
/-- What the document's end does with an update. -/
def RI.take (x : RI) (u : U) : RI × List U :=
  if u.seq < x.next ∨ x.next + x.wi ≤ u.seq then (x, [])
  else if x.next < u.seq then (if hidx x.held u.seq < 0 then (x.setHeld (x.held ++ [u]), []) else (x, []))
  else (((x.setNext (x.next + 1)).drain x.held.length).1, u :: ((x.setNext (x.next + 1)).drain x.held.length).2)
theorem refTake_any {w w0 : World} {g : Nat} {v : Value} {x : RI} (u : U) (h : RIR w w0.heap.size g v x) (hg : w0.heap.size ≤ g) (HB : Below w0.heap.size w0 w) (hn0 : 0 ≤ x.next) (hnb : x.next + 1099511627777 < 2305843009213693952) (hw1 : 1 ≤ x.wi) (hw2 : x.wi ≤ 64) (hlen : x.held.length < 1099511627776) :
    Calls Try.prog 35 #[.pointer (some ⟨g, 0, none⟩), u.val] w fun e w' => ∃ r, e = .returned r ∧ RIPost w w0 g v (x.take u).1 (x.take u).2 r w' := by
  unfold RI.take
  by_cases h1 : u.seq < x.next
  · rw [if_pos (.inl h1)]
    exact (by have H := refTake_low (x := x) u h hg HB hn0 (by omega) hw1 hw2 hlen h1; exact H)
  · by_cases h2 : x.next + x.wi ≤ u.seq
    · rw [if_pos (.inr h2)]
      exact (by have H := refTake_high (x := x) u h hg HB hn0 (by omega) hw1 hw2 hlen h2; exact H)
    · rw [if_neg (by omega)]
      by_cases h3 : x.next < u.seq
      · rw [if_pos h3]
        by_cases h4 : hidx x.held u.seq < 0
        · rw [if_pos h4]
          exact (by have H := refTake_keep (x := x) u h hg HB hn0 (by omega) hw1 hw2 hlen h3 (by omega) h4; exact H)
        · rw [if_neg h4]
          exact (by have H := refTake_has (x := x) u h hg HB hn0 (by omega) hw1 hw2 hlen h3 (by omega) (by omega); exact H)
      · rw [if_neg h3]
        exact (by have H := refTake_next (x := x) u h hg HB hn0 (by omega) hw1 hw2 hlen (by omega) hnb; exact H)
end Go.Proofs.Ytofmgijdeeikeaa.Hop
