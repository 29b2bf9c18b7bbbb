/- Ack. -/
import Derived.Test.YtofmgijdeeikeaaHopOffer
set_option linter.unusedVariables false
set_option linter.unusedSimpArgs false
namespace Go.Proofs.Ytofmgijdeeikeaa.Hop
open Go.RowKit Go.Proofs.Ytofmgijdeeikeaa.Mem Go.Proofs.YtofmgijdeeikeaaW.PrintWords Go.Proofs.YtofmgijdeeikeaaW.PrintLast Go.Deep
/-- The update of a number is kept no more. -/
def L.drop (l : L) (n : Int) : L := l.set (n.tmod l.window).toNat U.zero false
def L.drops (l : L) (n : Int) : Nat → L
  | 0 => l
  | k + 1 => (l.drops n k).drop (n + k)
theorem L.drops_window (l : L) (n : Int) : ∀ k, (l.drops n k).window = l.window
  | 0 => rfl
  | k + 1 => L.drops_window l n k
theorem L.drops_from (l : L) (n : Int) : ∀ k, (l.drops n k).from_ = l.from_
  | 0 => rfl
  | k + 1 => L.drops_from l n k
theorem L.drops_made (l : L) (n : Int) : ∀ k, (l.drops n k).made = l.made
  | 0 => rfl
  | k + 1 => L.drops_made l n k
/-- How many are dropped. -/
def St.ackN (s : St) (q : Int) : Nat := (min q s.sent - s.line.from_).toNat
/-- All up to q is there (from < q ≤ last). -/
def St.acked (s : St) (q : Int) : St := { s with line := { s.line.drops (s.line.from_ + 1) (s.ackN q) with from_ := q }, sent := max s.sent q, wait := s.wait.drop (q - s.sent).toNat, clock := 0 }
theorem St.Ok.acked {s : St} (h : s.Ok) {q : Int} (h1 : s.line.from_ ≤ q) (h2 : q ≤ s.last) : (s.acked q).Ok where
  made := (L.drops_made _ _ _).trans h.made
  w1 := by rw [show (s.acked q).line.window = s.line.window from L.drops_window _ _ _]; exact h.w1
  w2 := by rw [show (s.acked q).line.window = s.line.window from L.drops_window _ _ _]; exact h.w2
  f0 := by have := h.f0; simp only [St.acked]; omega
  fs := by simp only [St.acked]; omega
  sw := by
    rw [show (s.acked q).line.window = s.line.window from L.drops_window _ _ _]
    have := h.sw
    have := h.w1
    simp only [St.acked]
    omega
  sl := by have := h.sl; simp only [St.acked]; omega
  l2 := h.l2
  len := by have := h.len; have := h.sl; simp only [St.acked, List.length_drop]; omega
  num := fun i u hu => by
    simp only [St.acked, List.getElem?_drop] at hu ⊢
    have := h.num _ _ hu
    omega
  c0 := by simp only [St.acked]; omega
  c1 := by have := h.p1; simp only [St.acked]; omega
  p1 := h.p1
  p2 := h.p2
set_option maxHeartbeats 1600000 in
set_option maxRecDepth 100000 in
theorem ack_no {w w0 : World} {g : Nat} {v : Value} {s : St} (q : Int) (hok : s.Ok) (h : OutR w w0.heap.size g v s) (hg : w0.heap.size ≤ g) (HB : Below w0.heap.size w0 w) (hq : q ≤ s.line.from_) :
    Calls Try.prog 30 #[.pointer (some ⟨g, 0, none⟩), .int .i64 q] w fun e w' => ∃ r, e = .returned r ∧ OutPost w w0 g v s [] r w' := by
  have H := Lib.hid h
  obtain ⟨cs, G, C, Q⟩ := h
  have G0 := Lib.hid G
  have CC := Lib.hid C
  have HM := Lib.hid hok.made
  have B0 := Lib.hid HB
  have c0 := (blkc G 0).trans C.line.from_
  have t1 : decide (q ≤ s.line.from_) = true := by simpa using hq
  clear G C Q hok HB hq
  go_enter Try.func30, Try.ntmps30
  go_wp2_with (go_at_call 40; refine (is_any ((blkc G0.out 514).trans (by rw [CC.out.line.made, HM.out]))).mono ?_; rintro e w' ⟨rfl, rfl⟩)
  go_ret
  exact ⟨_, rfl, v, H.out, .inl rfl, Kd.R_nil _ _ _ _ _, Kept.refl _ _, B0.out⟩
theorem outR_mk {w : World} {b g : Nat} {cs : Array Value} {v : Value} {s s' : St} {xs : List U} (G : w.heap[g]? = some (.cells cs tOut (0, 0))) (C : OutC cs v s) (Q : kU.Q tU w b (fun _ => True) v xs) (hs : s = s') (hx : xs = s'.wait) : OutR w b g v s' := by
  subst hs
  rw [hx] at Q
  exact ⟨cs, G, C, Q⟩
theorem Q_cutn {w : World} {base : Nat} {ok : Nat → Prop} {xs : List U} {A : Option Addr} {n c : Nat} (j : Int) (h0 : 0 ≤ j) (hj : j ≤ xs.length) (h : kU.Q tU w base ok (.slice A n c) xs) : ∃ v2, (∀ W : World, (Instr.slice 24 (.slice A n c) (some (.int .i64 j)) none none).run Try.prog W = .ok v2 W) ∧ kU.Q tU w base ok v2 (xs.drop j.toNat) ∧ v2.ownBlock = (Value.slice A n c).ownBlock := by
  obtain ⟨i, hi, hz⟩ := Option.map_eq_some_iff.1 info_U
  simp only [Prod.mk.injEq] at hz
  obtain ⟨hn, hc, _⟩ := Kd.Q_reads' h
  refine ⟨_, cut_from (P := Try.prog) 24 tU .i64 Try.underlying24 hi kU.sz hz.2.1 A n c j h0 (by omega), ?_, ?_⟩
  · exact Kd.Q_drop (k := j.toNat) h (by omega)
  · split
    · cases A <;> rfl
    · cases A with
      | none => rfl
      | some a => simp [Value.ownBlock]; unfold Addr.add; split <;> rfl
set_option maxHeartbeats 1600000 in
set_option maxRecDepth 100000 in
theorem ack_ok {w w0 : World} {g : Nat} {v : Value} {s : St} (q : Int) (hok : s.Ok) (h : OutR w w0.heap.size g v s) (hg : w0.heap.size ≤ g) (HB : Below w0.heap.size w0 w) (hq : s.line.from_ < q) (hql : s.line.from_ ≤ s.last) (hlen : s.wait.length < 1649267441664) :
    Calls Try.prog 30 #[.pointer (some ⟨g, 0, none⟩), .int .i64 q] w fun e w' => ∃ r, e = .returned r ∧ OutPost w w0 g v (s.acked (min q s.last)).on (s.acked (min q s.last)).onL r w' := by
  have H := Lib.hid h
  obtain ⟨cs, G, C, Q⟩ := h
  have OK := Lib.hid hok
  have hl2 := hok.l2
  have hsl := hok.sl
  have hfs := hok.fs
  have hf0 := hok.f0
  have hw1 := hok.w1
  have hw2 := hok.w2
  have G0 := Lib.hid G
  have CC := Lib.hid C
  have HM := Lib.hid hok.made
  have B0 := Lib.hid HB
  have hgw : g < w.heap.size := blk_lt G
  have hws : w0.heap.size ≤ w.heap.size := HB.size
  have hvb := Lib.hid (Kd.Q_lt Q)
  have hvt := Lib.hid (Kd.Q_ne Q G (show tU ≠ tOut by decide))
  obtain ⟨A, c, rfl, hcap⟩ := Kd.Q_slice Q
  have Q0 := Lib.hid Q
  have c0 := (blkc G 0).trans C.line.from_
  have c516 := (blkc G 516).trans C.last
  have t1 : decide (q ≤ s.line.from_) = false := by simp; omega
  obtain ⟨q1, hq1⟩ : ∃ q1, q1 = min q s.last := ⟨_, rfl⟩
  obtain ⟨m, hm⟩ : ∃ m, m = min q1 s.sent := ⟨_, rfl⟩
  have m1 : (if s.last < q then s.last else q) = q1 := by rw [hq1]; split <;> omega
  have m2 : (if s.sent < q1 then s.sent else q1) = m := by rw [hm]; split <;> omega
  have hqb : q1 ≤ s.last := by omega
  have hqc : s.line.from_ ≤ q1 := by omega
  have HQ1 := Lib.hid hq1
  have HMM := Lib.hid hm
  have HLN := Lib.hid hok.len
  have HK := Lib.hid (show (s.ackN q1 : Int) = m - s.line.from_ by unfold St.ackN; omega)
  have hml : m ≤ s.sent := by omega
  have hmf : s.line.from_ ≤ m := by omega
  have e1 : IntKind.i64.wrap (s.line.from_ + 1) = s.line.from_ + 1 := IntWalk.i64_in _ (by omega)
  clear G C Q hok HB hq1 hm
  go_enter Try.func30, Try.ntmps30
  go_wp2_with (go_at_call 40; refine (is_any ((blkc G0.out 514).trans (by rw [CC.out.line.made, HM.out]))).mono ?_; rintro e w' ⟨rfl, rfl⟩)
  have c0' := c0
  clear c516 c0' t1 m1
  go_loopg [5] (s.ackN q1) (fun kq v5 w' => ∃ (j : Nat) (cs : Array Value), v5 = .int .i64 (s.line.from_ + 1 + (j : Int)) ∧ Hid (j + kq = s.ackN q1) ∧ Hid (w'.heap[g]? = some (.cells cs tOut (0, 0))) ∧ Hid (OutC cs (.slice A s.wait.length c) (s.setLine (s.line.drops (s.line.from_ + 1) j))) ∧ Hid (kU.Q tU w' w0.heap.size (fun _ => True) (.slice A s.wait.length c) s.wait) ∧ Hid (Below w0.heap.size w0 w') ∧ Hid (Kept w w' (fun k => k = g ∨ some k = (Value.slice A s.wait.length c).ownBlock)))
  case atStart => exact ⟨0, cs, by simp, (show _ + _ = _ by omega), G0.out, CC.out, Q0.out, B0.out, Kept.refl _ _⟩
  case round =>
    obtain ⟨j, cs1, rfl, HJ, G1, C1, Q1, B1, K1⟩ := hrel
    clear c0
    have c515 := (blkc G1.out 515).trans C1.out.sent
    simp only [St.setLine] at c515
    cases gk with
    | zero =>
      have hjm : (j : Int) = m - s.line.from_ := by have := HJ.out; have := HK.out; omega
      have t2 : decide (s.line.from_ + 1 + (j : Int) ≤ m) = false := by simp; omega
      have HJJ := Lib.hid (show j = s.ackN q1 from HJ.out)
      have OKA := Lib.hid (OK.out.acked (q := q1) hqc hqb)
      clear hjm
      by_cases hqs : s.sent < q1
      · have t3 : decide (s.sent < q1) = true := by simpa using hqs
        have hqm : m = s.sent := by have := HMM.out; omega
        have t4 : decide (s.line.from_ + 1 + (j : Int) ≤ s.sent) = false := by rw [← hqm]; exact t2
        clear m2 t2
        have e3 : IntKind.i64.wrap (q1 - s.sent) = q1 - s.sent := IntWalk.i64_in _ (by omega)
        obtain ⟨v2, hcut, hq2, hv2⟩ := Q_cutn (q1 - s.sent) (by omega) (by have := HLN.out; omega) Q1.out
        obtain ⟨A2, k2, rfl, _⟩ := Kd.Q_slice hq2
        have HVV := Lib.hid hv2
        have HWL := Lib.hid (show (s.acked q1).wait.length = (s.wait.drop (q1 - s.sent).toNat).length from rfl)
        have HWQ := Lib.hid (show (s.wait.drop (q1 - s.sent).toNat) = (s.acked q1).wait from rfl)
        have HSEQ := Lib.hid (show ((((s.setLine (s.line.drops (s.line.from_ + 1) j)).setWait (s.wait.drop (q1 - s.sent).toNat)).setSent q1).setLine ((s.line.drops (s.line.from_ + 1) j).setFrom q1)).setClock 0 = s.acked q1 by rw [HJJ.out]; simp only [St.acked, St.setLine, St.setWait, St.setSent, St.setClock, L.setFrom]; rw [show max s.sent q1 = q1 by omega])
        have hdl : (s.wait.drop (q1 - s.sent).toNat).length ≤ s.wait.length := by rw [List.length_drop]; omega
        generalize hwl : (s.wait.drop (q1 - s.sent).toNat).length = n2 at *
        clear hwl hv2
        have Q2 := Lib.hid hq2
        clear hq2 hqm
        go_wp2_with fail
        have G2 := Lib.hid (blk_drew G1.out)
        have B2 := Lib.hid B1.out.drew
        have K2 := Lib.hid K1.out.drew
        refine start_ (n := 15) (S := fun w' => (w'.cell? ⟨g, 517, none⟩ = some (.slice A s.wait.length c)) ∧ (w'.cell? ⟨g, 515, none⟩ = some (.int .i64 s.sent))) (ds := [14]) #[false, false, false, false, false, false, false, false, false, false, false, false, false, false, false] (by kernel_rfl) rfl rfl ⟨((blkc G2.out 517).trans C1.out.wait), ((blkc G2.out 515).trans C1.out.sent)⟩ (fun hHeld => ?_)
        refine pure_ (i := 0) (N := some 51) (v := ?_) (a' := ?_) #[true, false, false, false, false, false, false, false, false, false, false, false, false, false, false] rfl rfl (by kernel_rfl) (fun _ _ _ h => h) (Or.inl ⟨by rfl, ?_⟩) ?_ ?_
        rotate_left
        · intro w'
          go_simp
          with_reducible rfl
        rotate_left
        · simp only [Act.put, List.setIfInBounds_toArray, List.set_cons_zero, List.set_cons_succ, i64_w, i32_w]
          rfl
        refine pure_ (i := 1) (N := some 52) (v := ?_) (a' := ?_) #[true, true, false, false, false, false, false, false, false, false, false, false, false, false, false] rfl rfl (by kernel_rfl) (fun _ _ _ h => h) (Or.inl ⟨by rfl, ?_⟩) ?_ ?_
        rotate_left
        · intro w'
          go_simp
          with_reducible rfl
        rotate_left
        · simp only [Act.put, List.setIfInBounds_toArray, List.set_cons_zero, List.set_cons_succ, i64_w, i32_w]
          rfl
        refine pure_ (i := 2) (N := some 53) (v := ?_) (a' := ?_) #[true, true, true, false, false, false, false, false, false, false, false, false, false, false, false] rfl rfl (by kernel_rfl) (fun _ _ _ h => h) (Or.inl ⟨by rfl, ?_⟩) ?_ ?_
        rotate_left
        · intro w'
          go_simp
          with_reducible rfl
        rotate_left
        · simp only [Act.put, List.setIfInBounds_toArray, List.set_cons_zero, List.set_cons_succ, i64_w, i32_w]
          rfl
        refine pure_ (i := 3) (N := some 54) (v := ?_) (a' := ?_) #[true, true, true, true, false, false, false, false, false, false, false, false, false, false, false] rfl rfl (by kernel_rfl) (fun _ _ _ h => h) (Or.inl ⟨by rfl, ?_⟩) ?_ ?_
        rotate_left
        · intro w'
          go_simp
          with_reducible rfl
        rotate_left
        · simp only [Act.put, List.setIfInBounds_toArray, List.set_cons_zero, List.set_cons_succ, i64_w, i32_w]
          rfl
        refine pure_ (i := 5) (N := some 56) (v := ?_) (a' := ?_) #[true, true, true, true, false, true, false, false, false, false, false, false, false, false, false] rfl rfl (by kernel_rfl) (fun _ _ _ h => h) (Or.inl ⟨by rfl, ?_⟩) ?_ ?_
        rotate_left
        · intro w'
          go_simp
          with_reducible rfl
        rotate_left
        · simp only [Act.put, List.setIfInBounds_toArray, List.set_cons_zero, List.set_cons_succ, i64_w, i32_w]
          rfl
        refine pure_ (i := 6) (N := some 57) (v := ?_) (a' := ?_) #[true, true, true, true, false, true, true, false, false, false, false, false, false, false, false] rfl rfl (by kernel_rfl) (fun _ _ _ h => h) (Or.inl ⟨by rfl, ?_⟩) ?_ ?_
        rotate_left
        · intro w'
          go_simp
          with_reducible rfl
        rotate_left
        · simp only [Act.put, List.setIfInBounds_toArray, List.set_cons_zero, List.set_cons_succ, i64_w, i32_w]
          rfl
        refine pure_ (i := 7) (N := some 58) (v := ?_) (a' := ?_) #[true, true, true, true, false, true, true, true, false, false, false, false, false, false, false] rfl rfl (by kernel_rfl) (fun _ _ _ h => h) (Or.inl ⟨by rfl, ?_⟩) ?_ ?_
        rotate_left
        · intro w'
          go_simp
          with_reducible rfl
        rotate_left
        · simp only [Act.put, List.setIfInBounds_toArray, List.set_cons_zero, List.set_cons_succ, i64_w, i32_w]
          rfl
        refine pure_ (i := 8) (N := some 59) (v := ?_) (a' := ?_) #[true, true, true, true, false, true, true, true, true, false, false, false, false, false, false] rfl rfl (by kernel_rfl) (fun _ _ _ h => h) (Or.inl ⟨by rfl, ?_⟩) ?_ ?_
        rotate_left
        · intro w'
          go_simp
          with_reducible rfl
        rotate_left
        · simp only [Act.put, List.setIfInBounds_toArray, List.set_cons_zero, List.set_cons_succ, i64_w, i32_w]
          rfl
        refine take_ (i := 4) (N := some 55) (v := ?_) (a' := ?_) #[true, true, true, true, true, true, true, true, true, false, false, false, false, false, false] rfl rfl (by kernel_rfl) (fun _ _ _ h => h) (Or.inl ⟨by rfl, ?_⟩) hHeld ?_ ?_
        rotate_left
        · rintro w' ⟨s0, s1⟩
          go_simp
          with_reducible rfl
        rotate_left
        · simp only [Act.put, List.setIfInBounds_toArray, List.set_cons_zero, List.set_cons_succ, i64_w, i32_w]
          rfl
        refine take_ (i := 9) (N := some 60) (v := ?_) (a' := ?_) #[true, true, true, true, true, true, true, true, true, true, false, false, false, false, false] rfl rfl (by kernel_rfl) (fun _ _ _ h => h) (Or.inl ⟨by rfl, ?_⟩) hHeld ?_ ?_
        rotate_left
        · rintro w' ⟨s0, s1⟩
          go_simp
          with_reducible rfl
        rotate_left
        · simp only [Act.put, List.setIfInBounds_toArray, List.set_cons_zero, List.set_cons_succ, i64_w, i32_w]
          rfl
        refine pure_ (i := 10) (N := some 61) (v := ?_) (a' := ?_) #[true, true, true, true, true, true, true, true, true, true, true, false, false, false, false] rfl rfl (by kernel_rfl) (fun _ _ _ h => h) (Or.inl ⟨by rfl, ?_⟩) ?_ ?_
        rotate_left
        · intro w'
          go_simp
          with_reducible rfl
        rotate_left
        · simp only [Act.put, List.setIfInBounds_toArray, List.set_cons_zero, List.set_cons_succ, i64_w, i32_w]
          rfl
        refine pure_ (i := 11) (N := some 62) (v := ?_) (a' := ?_) #[true, true, true, true, true, true, true, true, true, true, true, true, false, false, false] rfl rfl (by kernel_rfl) (fun _ _ _ h => h) (Or.inl ⟨by rfl, ?_⟩) ?_ ?_
        rotate_left
        · intro w'
          go_simp
          with_reducible rfl
        rotate_left
        · simp only [Act.put, List.setIfInBounds_toArray, List.set_cons_zero, List.set_cons_succ, i64_w, i32_w]
          rfl
        refine pure_ (i := 12) (N := some 63) (v := ?_) (a' := ?_) #[true, true, true, true, true, true, true, true, true, true, true, true, true, false, false] rfl rfl (by kernel_rfl) (fun _ _ _ h => h) (Or.inl ⟨by rfl, ?_⟩) ?_ ?_
        rotate_left
        · intro w'
          go_simp
          with_reducible rfl
        rotate_left
        · simp only [Act.put, List.setIfInBounds_toArray, List.set_cons_zero, List.set_cons_succ, i64_w, i32_w]
          rfl
        refine pure_ (i := 13) (N := some 64) (v := ?_) (a' := ?_) #[true, true, true, true, true, true, true, true, true, true, true, true, true, true, false] rfl rfl (by kernel_rfl) (fun _ _ _ h => h) (Or.inl ⟨by rfl, ?_⟩) ?_ ?_
        rotate_left
        · intro w'
          go_simp
          with_reducible rfl
        rotate_left
        · simp only [Act.put, List.setIfInBounds_toArray, List.set_cons_zero, List.set_cons_succ, i64_w, i32_w]
          rfl
        refine last_ (i := 14) (N := none) #[true, true, true, true, true, true, true, true, true, true, true, true, true, true, true] rfl rfl (by kernel_rfl) (by decide) (fun K hK => ?_)
        have z4 := blkz G2.out 517
        have c4_ := (blkc G2.out 517).trans C1.out.wait
        refine skip_ (w1 := ?_) (by rfl) rfl ?_ ?_
        rotate_left
        · go_simp
          rfl
        refine hK.out _ _ ?_
        clear hK K
        refine done_ (by kernel_rfl) ?_
        have G3 := Lib.hid (blk_drew (blk_set G1.out 517 (.slice A2 n2 k2)))
        have B3 := Lib.hid (below_set (g := g) (j := 517) (v := .slice A2 n2 k2) B1.out hg).drew
        have K3 := Lib.hid (K1.out.setCell (p := ⟨g, 517, none⟩) (.inl (.inl rfl)) (.slice A2 n2 k2)).drew
        have Q3 := Lib.hid (Kd.Q_drew (Kd.Q_set Q2.out G1.out hUO 517 (.slice A2 n2 k2)))
        have C3 := Lib.hid (C1.out.set_wait (.slice A2 n2 k2) (s.wait.drop (q1 - s.sent).toNat))
        clear G2 B2 K2 Q2
        generalize (World.drew (World.setCell wr _ _)) = W3 at *
        have d5 := (blkc G3.out 515).trans C3.out.sent
        have y5 := blkz G3.out 515
        have G5 := Lib.hid (blk_set G3.out 515 (.int .i64 q1))
        have B5 := Lib.hid (below_set (g := g) (j := 515) (v := .int .i64 q1) B3.out hg)
        have K5 := Lib.hid (K3.out.setCell (p := ⟨g, 515, none⟩) (.inl (.inl rfl)) (.int .i64 q1))
        have Q5 := Lib.hid (Kd.Q_set Q3.out G3.out hUO 515 (.int .i64 q1))
        have C5 := Lib.hid (C3.out.set_sent q1)
        have d0 := (blkc G5.out 0).trans C5.out.line.from_
        have y0 := blkz G5.out 0
        have G8 := Lib.hid (blk_set G5.out 0 (.int .i64 q1))
        have B8 := Lib.hid (below_set (g := g) (j := 0) (v := .int .i64 q1) B5.out hg)
        have K8 := Lib.hid (K5.out.setCell (p := ⟨g, 0, none⟩) (.inl (.inl rfl)) (.int .i64 q1))
        have Q8 := Lib.hid (Kd.Q_set Q5.out G5.out hUO 0 (.int .i64 q1))
        have C8 := Lib.hid (C5.out.set_from q1)
        have d8 := (blkc G8.out 518).trans C8.out.clock
        have y8 := blkz G8.out 518
        have G9 := Lib.hid (blk_set G8.out 518 (.int .i64 0))
        have B9 := Lib.hid (below_set (g := g) (j := 518) (v := .int .i64 0) B8.out hg)
        have K9 := Lib.hid (K8.out.setCell (p := ⟨g, 518, none⟩) (.inl (.inl rfl)) (.int .i64 0))
        have Q9 := Lib.hid (Kd.Q_set Q8.out G8.out hUO 518 (.int .i64 0))
        have C9 := Lib.hid (C8.out.set_clock 0)
        have O10 := Lib.hid (outR_mk G9.out C9.out Q9.out HSEQ.out HWQ.out)
        go_wp2_with fail
        refine (on_any (w0 := w0) OKA.out O10.out hg (by rw [HWL.out]; omega) B9.out).mono ?_
        rintro e w9 ⟨v9, r9, rfl, hr9, hv9, hR9, hK9, hB9⟩
        have hfin : OutPost w w0 g (.slice A s.wait.length c) (s.acked q1).on (s.acked q1).onL r9 w9 := by
          refine ⟨v9, hr9, .inl (hv9.trans HVV.out), ?_, K9.out.then_ hK9 (fun k h => .inl (.inl h)), hB9⟩
          refine Kd.R_lower (Kd.R_mono (Kd.R_bound hR9) (fun k hk => ?_)) K9.out.1
          rw [hv9, HVV.out]
          intro e
          have h1 := hvb.out k e.symm
          have h3 := hk.2.1
          have h4 := K9.out.1
          omega
        have FIN := Lib.hid hfin
        clear hfin hr9 hv9 hR9 hK9 hB9
        go_wp2_with fail
        go_ret
        rw [← HQ1.out]
        exact ⟨_, rfl, FIN.out⟩
      · have t3 : decide (s.sent < q1) = false := by simpa using hqs
        have hqm : m = q1 := by have := HMM.out; omega
        have t4 : decide (s.line.from_ + 1 + (j : Int) ≤ q1) = false := by rw [← hqm]; exact t2
        clear m2 t2 hqm
        have hz : (q1 - s.sent).toNat = 0 := by omega
        have HWL := Lib.hid (show (s.acked q1).wait.length = s.wait.length by simp only [St.acked, hz, List.drop_zero])
        have HWQ := Lib.hid (show s.wait = (s.acked q1).wait by simp only [St.acked, hz, List.drop_zero])
        have HSEQ := Lib.hid (show ((s.setLine (s.line.drops (s.line.from_ + 1) j)).setLine ((s.line.drops (s.line.from_ + 1) j).setFrom q1)).setClock 0 = s.acked q1 by rw [HJJ.out]; simp only [St.acked, hz, List.drop_zero, St.setLine, St.setClock, L.setFrom]; rw [show max s.sent q1 = s.sent by omega])
        clear hz
        have d0 := (blkc G1.out 0).trans C1.out.line.from_
        have y0 := blkz G1.out 0
        have G8 := Lib.hid (blk_set G1.out 0 (.int .i64 q1))
        have B8 := Lib.hid (below_set (g := g) (j := 0) (v := .int .i64 q1) B1.out hg)
        have K8 := Lib.hid (K1.out.setCell (p := ⟨g, 0, none⟩) (.inl (.inl rfl)) (.int .i64 q1))
        have Q8 := Lib.hid (Kd.Q_set Q1.out G1.out hUO 0 (.int .i64 q1))
        have C8 := Lib.hid (C1.out.set_from q1)
        have d8 := (blkc G8.out 518).trans C8.out.clock
        have y8 := blkz G8.out 518
        have G9 := Lib.hid (blk_set G8.out 518 (.int .i64 0))
        have B9 := Lib.hid (below_set (g := g) (j := 518) (v := .int .i64 0) B8.out hg)
        have K9 := Lib.hid (K8.out.setCell (p := ⟨g, 518, none⟩) (.inl (.inl rfl)) (.int .i64 0))
        have Q9 := Lib.hid (Kd.Q_set Q8.out G8.out hUO 518 (.int .i64 0))
        have C9 := Lib.hid (C8.out.set_clock 0)
        have O10 := Lib.hid (outR_mk G9.out C9.out Q9.out HSEQ.out HWQ.out)
        go_wp2_with fail
        refine (on_any (w0 := w0) OKA.out O10.out hg (by rw [HWL.out]; omega) B9.out).mono ?_
        rintro e w9 ⟨v9, r9, rfl, hr9, hv9, hR9, hK9, hB9⟩
        have hfin : OutPost w w0 g (.slice A s.wait.length c) (s.acked q1).on (s.acked q1).onL r9 w9 := by
          refine ⟨v9, hr9, .inl hv9, ?_, K9.out.then_ hK9 (fun k h => .inl (.inl h)), hB9⟩
          refine Kd.R_lower (Kd.R_mono (Kd.R_bound hR9) (fun k hk => ?_)) K9.out.1
          rw [hv9]
          intro e
          have h1 := hvb.out k e.symm
          have h3 := hk.2.1
          have h4 := K9.out.1
          omega
        have FIN := Lib.hid hfin
        clear hfin hr9 hv9 hR9 hK9 hB9
        go_wp2_with fail
        go_ret
        rw [← HQ1.out]
        exact ⟨_, rfl, FIN.out⟩
    | succ k1 =>
      have hjm : (j : Int) < m - s.line.from_ := by have := HJ.out; have := HK.out; omega
      have t2 : decide (s.line.from_ + 1 + (j : Int) ≤ m) = true := by simp; omega
      have e2 : IntKind.i64.wrap (s.line.from_ + 1 + (j : Int) + 1) = s.line.from_ + 1 + (j : Int) + 1 := IntWalk.i64_in _ (by omega)
      obtain ⟨kk, hkk, hk64⟩ : ∃ kk : Nat, (s.line.from_ + 1 + (j : Int)).tmod (s.line.drops (s.line.from_ + 1) j).window = (kk : Int) ∧ kk < 64 := by
        rw [L.drops_window]
        have h1 := Int.tmod_nonneg s.line.window (show 0 ≤ s.line.from_ + 1 + (j : Int) by omega)
        have h2 := Int.tmod_lt_of_pos (s.line.from_ + 1 + (j : Int)) (show 0 < s.line.window by omega)
        exact ⟨((s.line.from_ + 1 + (j : Int)).tmod s.line.window).toNat, by omega, by omega⟩
      have HKK := Lib.hid hkk
      clear hkk
      go_wp2_with fail
      refine (drop_any (w0 := w0) (l := s.line.drops (s.line.from_ + 1) j) (s.line.from_ + 1 + (j : Int)) kk G1.out (show LineR _ (s.line.drops (s.line.from_ + 1) j) from C1.out.line) (by rw [C1.out.size]; omega) hk64 HKK.out (by simp only [L.drops_window]; exact hw1) hg B1.out).mono ?_
      rintro e w2 ⟨rfl, hg2, hk2, hb2⟩
      have G2 := Lib.hid hg2
      have B2 := Lib.hid hb2
      have K2 := Lib.hid (K1.out.then_ hk2 (fun k h => .inl (.inl h)))
      have Q2 := Lib.hid (Kd.Q_mono (Kd.Q_kept (Kd.Q_types Q1.out G1.out hUO) hk2 (fun _ h => h.2)) (fun _ _ => trivial))
      have C2 := Lib.hid (C1.out.put hk64 U.zero false)
      clear hg2 hk2 hb2
      go_wp2_with fail
      go_roundg k1
      case measure => exact Nat.lt_succ_self _
      case rel =>
        refine ⟨j + 1, _, ?_, ?_, G2.out, ?_, Q2.out, B2.out, K2.out⟩
        · congr 1; omega
        · exact Lib.hid (by have := HJ.out; omega)
        · refine Lib.hid ?_
          have h := C2.out
          have e : L.set (s.line.drops (s.line.from_ + 1) j) kk U.zero false = s.line.drops (s.line.from_ + 1) (j + 1) := by
            rw [L.drops, L.drop, HKK.out, Int.toNat_natCast]
          rw [show (s.setLine (s.line.drops (s.line.from_ + 1) j)).line = s.line.drops (s.line.from_ + 1) j from rfl, e] at h
          exact h
end Go.Proofs.Ytofmgijdeeikeaa.Hop
