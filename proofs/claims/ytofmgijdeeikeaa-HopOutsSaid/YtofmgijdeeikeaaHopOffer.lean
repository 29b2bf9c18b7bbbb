/- Offer. -/
import Derived.Test.YtofmgijdeeikeaaHopOn
set_option linter.unusedVariables false
set_option linter.unusedSimpArgs false
namespace Go.Proofs.Ytofmgijdeeikeaa.Hop
open Go.RowKit Go.Proofs.Ytofmgijdeeikeaa.Mem Go.Proofs.YtofmgijdeeikeaaW.PrintWords Go.Proofs.YtofmgijdeeikeaaW.PrintLast Go.Deep
/-- One more is offered. -/
def St.more (s : St) (u : U) : St := { s with last := s.last + 1, wait := s.wait ++ [u] }
theorem St.Ok.more {s : St} (h : s.Ok) {u : U} (hu : u.seq = s.last + 1) (hl : s.last < 2305843009213693952) : (s.more u).Ok where
  made := h.made
  w1 := h.w1
  w2 := h.w2
  f0 := h.f0
  fs := h.fs
  sw := h.sw
  sl := by have := h.sl; simp only [St.more]; omega
  l2 := by simp only [St.more]; omega
  len := by have := h.len; simp only [St.more, List.length_append, List.length_singleton]; omega
  num := fun i x hx => by
    simp only [St.more] at hx ⊢
    by_cases hi : i < s.wait.length
    · rw [List.getElem?_append_left hi] at hx
      exact h.num i x hx
    · have h1 := (List.getElem?_eq_some_iff.1 hx).1
      simp only [List.length_append, List.length_singleton] at h1
      obtain rfl : i = s.wait.length := by omega
      simp at hx
      subst hx
      have := h.len
      omega
  c0 := h.c0
  c1 := h.c1
  p1 := h.p1
  p2 := h.p2
/-- What a call on a nearer end leaves: its new state, and an answer of its own. -/
def OutPost (w w0 : World) (g : Nat) (v : Value) (s' : St) (out : List U) (r : Value) (w' : World) : Prop :=
  ∃ v', OutR w' w0.heap.size g v' s' ∧ (v'.ownBlock = v.ownBlock ∨ ∃ b, v'.ownBlock = some b ∧ w.heap.size ≤ b) ∧ kU.R tU w' w.heap.size (fun k => some k ≠ v'.ownBlock) r out ∧ Kept w w' (fun k => k = g ∨ some k = v.ownBlock) ∧ Below w0.heap.size w0 w'
set_option maxHeartbeats 1600000 in
set_option maxRecDepth 100000 in
theorem offer_no {w w0 : World} {g : Nat} {v : Value} {s : St} (u : U) (hok : s.Ok) (h : OutR w w0.heap.size g v s) (hg : w0.heap.size ≤ g) (HB : Below w0.heap.size w0 w) (hu : u.seq ≠ s.last + 1) :
    Calls Try.prog 26 #[.pointer (some ⟨g, 0, none⟩), u.val] w fun e w' => ∃ r, e = .returned (.tuple #[r, .int .i64 190]) ∧ OutPost w w0 g v s [] r w' := by
  obtain ⟨cs, G, C, Q⟩ := h
  have OK := Lib.hid hok
  have hl2 := hok.l2
  have hsl := hok.sl
  have hfs := hok.fs
  have hf0 := hok.f0
  have P0 := Lib.hid (blk_new w (.cells #[.int .i64 u.seq, .int .i64 u.client, .int .i64 u.number, .int .i64 u.kind, .string u.key, .string u.value, .int .i64 u.version] tU))
  have G0 := Lib.hid (blk_below G (below_alloc (Below.refl _ _) (.cells #[.int .i64 u.seq, .int .i64 u.client, .int .i64 u.number, .int .i64 u.kind, .string u.key, .string u.value, .int .i64 u.version] tU)))
  have B0 := Lib.hid (below_alloc HB (.cells #[.int .i64 u.seq, .int .i64 u.client, .int .i64 u.number, .int .i64 u.kind, .string u.key, .string u.value, .int .i64 u.version] tU))
  have K0 := Lib.hid ((Kept.refl w (fun k => k = g ∨ some k = v.ownBlock)).alloc (.cells #[.int .i64 u.seq, .int .i64 u.client, .int .i64 u.number, .int .i64 u.kind, .string u.key, .string u.value, .int .i64 u.version] tU))
  have Q0 := Lib.hid (Kd.Q_alloc Q (.cells #[.int .i64 u.seq, .int .i64 u.client, .int .i64 u.number, .int .i64 u.kind, .string u.key, .string u.value, .int .i64 u.version] tU))
  have CC := Lib.hid C
  have HM := Lib.hid hok.made
  have HUS := Lib.hid hu
  clear G C Q HB hok hu
  go_enter Try.func26, Try.ntmps26
  go_wp2_with (go_at_call 40; refine (is_any ((blkc G0.out 514).trans (by rw [CC.out.line.made, HM.out]))).mono ?_; rintro e w' ⟨rfl, rfl⟩)
  have c516 := (blkc G0.out 516).trans CC.out.last
  have cp := blkc P0.out
  have e1 : IntKind.i64.wrap (s.last + 1) = s.last + 1 := IntWalk.i64_in _ (by omega)
  have t1 : (u.seq != s.last + 1) = true := by simpa using HUS.out
  go_quiet (fail)
  go_wp2
  go_ret2
  exact ⟨_, rfl, v, ⟨cs, G0.out, CC.out, Kd.Q_drewN Q0.out _⟩, .inl rfl, Kd.R_nil _ _ _ _ _, K0.out, pw_below_drewN B0.out _⟩
set_option maxHeartbeats 1600000 in
set_option maxRecDepth 100000 in
theorem offer_ok {w w0 : World} {g : Nat} {v : Value} {s : St} (u : U) (hok : s.Ok) (h : OutR w w0.heap.size g v s) (hg : w0.heap.size ≤ g) (HB : Below w0.heap.size w0 w) (hu : u.seq = s.last + 1) (hlen : s.wait.length < 1649267441664) (hll : s.last < 2305843009213693952) :
    Calls Try.prog 26 #[.pointer (some ⟨g, 0, none⟩), u.val] w fun e w' => ∃ r, e = .returned (.tuple #[r, .int .i64 0]) ∧ OutPost w w0 g v (s.more u).on (s.more u).onL r w' := by
  obtain ⟨cs, G, C, Q⟩ := h
  have OK := Lib.hid hok
  have hl2 := hok.l2
  have hsl := hok.sl
  have hfs := hok.fs
  have hf0 := hok.f0
  have hgw : g < w.heap.size := blk_lt G
  have hws : w0.heap.size ≤ w.heap.size := HB.size
  have hvb := Lib.hid (Kd.Q_lt Q)
  have hvb0 := Lib.hid (Kd.Q_base Q)
  have hvt := Lib.hid (Kd.Q_ne Q G (show tU ≠ tOut by decide))
  obtain ⟨A, c, rfl, _⟩ := Kd.Q_slice Q
  have P0 := Lib.hid (blk_new w (.cells #[.int .i64 u.seq, .int .i64 u.client, .int .i64 u.number, .int .i64 u.kind, .string u.key, .string u.value, .int .i64 u.version] tU))
  have G0 := Lib.hid (blk_below G (below_alloc (Below.refl _ _) (.cells #[.int .i64 u.seq, .int .i64 u.client, .int .i64 u.number, .int .i64 u.kind, .string u.key, .string u.value, .int .i64 u.version] tU)))
  have B0 := Lib.hid (below_alloc HB (.cells #[.int .i64 u.seq, .int .i64 u.client, .int .i64 u.number, .int .i64 u.kind, .string u.key, .string u.value, .int .i64 u.version] tU))
  have K0 := Lib.hid ((Kept.refl w (fun k => k = g ∨ some k = (Value.slice A s.wait.length c).ownBlock)).alloc (.cells #[.int .i64 u.seq, .int .i64 u.client, .int .i64 u.number, .int .i64 u.kind, .string u.key, .string u.value, .int .i64 u.version] tU))
  have Q0 := Lib.hid (Kd.Q_alloc Q (.cells #[.int .i64 u.seq, .int .i64 u.client, .int .i64 u.number, .int .i64 u.kind, .string u.key, .string u.value, .int .i64 u.version] tU))
  have CC := Lib.hid C
  have HM := Lib.hid hok.made
  have hpg : w.heap.size ≠ g := by omega
  have HUS := Lib.hid hu
  clear G C Q HB hok hu
  go_enter Try.func26, Try.ntmps26
  go_wp2_with (go_at_call 40; refine (is_any ((blkc G0.out 514).trans (by rw [CC.out.line.made, HM.out]))).mono ?_; rintro e w' ⟨rfl, rfl⟩)
  have c516 := (blkc G0.out 516).trans CC.out.last
  have cp := blkc P0.out
  have e1 : IntKind.i64.wrap (s.last + 1) = s.last + 1 := IntWalk.i64_in _ (by omega)
  have t1 : (u.seq != s.last + 1) = false := by simpa using HUS.out
  go_quiet (fail)
  have G0 := Lib.hid (show ((w.alloc (.cells #[.int .i64 u.seq, .int .i64 u.client, .int .i64 u.number, .int .i64 u.kind, .string u.key, .string u.value, .int .i64 u.version] tU)).drewN nq).heap[g]? = some (.cells cs tOut (0, 0)) from G0.out)
  have P0 := Lib.hid (show ((w.alloc (.cells #[.int .i64 u.seq, .int .i64 u.client, .int .i64 u.number, .int .i64 u.kind, .string u.key, .string u.value, .int .i64 u.version] tU)).drewN nq).heap[w.heap.size]? = some (.cells #[.int .i64 u.seq, .int .i64 u.client, .int .i64 u.number, .int .i64 u.kind, .string u.key, .string u.value, .int .i64 u.version] tU) from P0.out)
  have B0 := Lib.hid (pw_below_drewN B0.out nq)
  have K0 := Lib.hid (K0.out.drewN nq)
  have Q0 := Lib.hid (Kd.Q_drewN Q0.out nq)
  clear c516 cp
  generalize ((w.alloc _).drewN nq) = W at *
  generalize hpq : w.heap.size = p at *
  have c516 := (blkc G0.out 516).trans CC.out.last
  have z516 := blkz G0.out 516
  have G1 := Lib.hid (blk_set G0.out 516 (.int .i64 (s.last + 1)))
  have P1 := Lib.hid (blk_far (p := ⟨g, 516, none⟩) P0.out hpg (.int .i64 (s.last + 1)))
  have B1 := Lib.hid (below_set (g := g) (j := 516) (v := .int .i64 (s.last + 1)) B0.out hg)
  have K1 := Lib.hid (K0.out.setCell (p := ⟨g, 516, none⟩) (.inl (.inl rfl)) (.int .i64 (s.last + 1)))
  have Q1 := Lib.hid (Kd.Q_set Q0.out G0.out hUO 516 (.int .i64 (s.last + 1)))
  have C1 := Lib.hid (CC.out.set_last (s.last + 1))
  go_wp2_with fail
  clear c516 z516 G0 P0 B0 K0 Q0 CC
  generalize (World.setCell _ _ _) = W1 at *
  have G2 := Lib.hid (blk_drew G1.out)
  have P2 := Lib.hid (blk_drew P1.out)
  have B2 := Lib.hid B1.out.drew
  have Q2 := Lib.hid (Kd.Q_drew Q1.out)
  have K2 := Lib.hid K1.out.drew
  refine start_ (n := 11) (S := fun w' => (∀ o, w'.cell? ⟨p, o, none⟩ = #[Value.int .i64 u.seq, .int .i64 u.client, .int .i64 u.number, .int .i64 u.kind, .string u.key, .string u.value, .int .i64 u.version][o]?) ∧ (w'.cell? ⟨g, 517, none⟩ = some (.slice A s.wait.length c))) (ds := [10]) #[false, false, false, false, false, false, false, false, false, false, false] (by kernel_rfl) rfl rfl ⟨(blkc P2.out), ((blkc G2.out 517).trans C1.out.wait)⟩ (fun hHeld => ?_)
  refine pure_ (i := 0) (N := some 24) (v := ?_) (a' := ?_) #[true, false, false, false, false, false, false, false, false, false, false] rfl rfl (by kernel_rfl) (fun _ _ _ h => h) (Or.inl ⟨by rfl, ?_⟩) ?_ ?_
  rotate_left
  · intro w'
    go_simp
    with_reducible rfl
  rotate_left
  · simp only [Act.put, List.setIfInBounds_toArray, List.set_cons_zero, List.set_cons_succ, i64_w, i32_w]
    rfl
  refine pure_ (i := 1) (N := some 25) (v := ?_) (a' := ?_) #[true, true, false, false, false, false, false, false, false, false, false] rfl rfl (by kernel_rfl) (fun _ _ _ h => h) (Or.inl ⟨by rfl, ?_⟩) ?_ ?_
  rotate_left
  · intro w'
    go_simp
    with_reducible rfl
  rotate_left
  · simp only [Act.put, List.setIfInBounds_toArray, List.set_cons_zero, List.set_cons_succ, i64_w, i32_w]
    rfl
  refine pure_ (i := 2) (N := some 26) (v := ?_) (a' := ?_) #[true, true, true, false, false, false, false, false, false, false, false] rfl rfl (by kernel_rfl) (fun _ _ _ h => h) (Or.inl ⟨by rfl, ?_⟩) ?_ ?_
  rotate_left
  · intro w'
    go_simp
    with_reducible rfl
  rotate_left
  · simp only [Act.put, List.setIfInBounds_toArray, List.set_cons_zero, List.set_cons_succ, i64_w, i32_w]
    rfl
  refine pure_ (i := 3) (N := some 27) (v := ?_) (a' := ?_) #[true, true, true, true, false, false, false, false, false, false, false] rfl rfl (by kernel_rfl) (fun _ _ _ h => h) (Or.inl ⟨by rfl, ?_⟩) ?_ ?_
  rotate_left
  · intro w'
    go_simp
    with_reducible rfl
  rotate_left
  · simp only [Act.put, List.setIfInBounds_toArray, List.set_cons_zero, List.set_cons_succ, i64_w, i32_w]
    rfl
  refine take_ (i := 4) (N := some 28) (v := ?_) (a' := ?_) #[true, true, true, true, true, false, false, false, false, false, false] rfl rfl (by kernel_rfl) (fun _ _ _ h => h) (Or.inl ⟨by rfl, ?_⟩) hHeld ?_ ?_
  rotate_left
  · rintro w' ⟨s0, s1⟩
    go_simp
    with_reducible rfl
  rotate_left
  · simp only [Act.put, List.setIfInBounds_toArray, List.set_cons_zero, List.set_cons_succ, i64_w, i32_w]
    rfl
  refine take_ (i := 5) (N := some 29) (v := ?_) (a' := ?_) #[true, true, true, true, true, true, false, false, false, false, false] rfl rfl (by kernel_rfl) (fun _ _ _ h => h) (Or.inl ⟨by rfl, ?_⟩) hHeld ?_ ?_
  rotate_left
  · rintro w' ⟨s0, s1⟩
    go_simp
    with_reducible rfl
  rotate_left
  · simp only [Act.put, List.setIfInBounds_toArray, List.set_cons_zero, List.set_cons_succ, i64_w, i32_w]
    rfl
  refine one_ (i := 6) (N := some 30) #[true, true, true, true, true, true, true, false, false, false, false] rfl rfl (by kernel_rfl) (by decide) (fun K hK => ?_)
  refine value_ (w1 := ?_) (v := ?_) (by rfl) rfl ?_ ?_
  rotate_left 2
  · go_simp
    constructor
    · rfl
    · rfl
  refine hK.out _ _ ⟨(blkc (blk_below P2.out (below_alloc (Below.refl _ _) _))), ((blkc (blk_below G2.out (below_alloc (Below.refl _ _) _)) 517).trans C1.out.wait)⟩ (fun hHeld => ?_)
  clear hK K
  refine norm_ (a' := ?_) ?_ ?_
  rotate_left
  · show Act.put _ (some 30) _ = _
    simp only [Act.put, List.setIfInBounds_toArray, List.set_cons_zero, List.set_cons_succ, i64_w, i32_w]
    rfl
  refine one_ (i := 7) (N := some 31) #[true, true, true, true, true, true, true, true, false, false, false] rfl rfl (by kernel_rfl) (by decide) (fun K hK => ?_)
  refine Kd.Q_append_step kU (w0 := w0) w0.heap.size (by rfl) (.tmp 28) (.tmp 30) 24 tU (.agg #[.int .i64 0, .int .i64 0, .int .i64 0, .int .i64 0, .string ⟨#[]⟩, .string ⟨#[]⟩, .int .i64 0]) 72 rfl Try.underlying24 info_U rfl (by decide) (by decide) (.slice A s.wait.length c) s.wait u [.int .i64 u.seq, .int .i64 u.client, .int .i64 u.number, .int .i64 u.kind, .string u.key, .string u.value, .int .i64 u.version] (fun _ => True) (fun _ => False) rfl rfl rfl (fun _ hk => hk.elim) (fun _ _ => trivial) Q2.out B2.out B2.out.size (by omega) ?_
  intro v4 w4 hq4 hb4 hg4 hat4
  obtain ⟨A4, c4, rfl, _⟩ := Kd.Q_slice hq4
  simp only [List.length_append, List.length_singleton] at hq4 hat4 ⊢
  have P4 := Lib.hid (blk_grown P2.out hg4 (fun e => by have := hvb.out p e.symm; omega))
  have G4 := Lib.hid (blk_grown G2.out hg4 hvt.out)
  have B4 := Lib.hid hb4
  have K4 := Lib.hid (Kept.of_grown hg4 K2.out (fun k e => .inl (.inr e.symm)))
  have Q4 := Lib.hid hq4
  have HAT := Lib.hid hat4
  clear hq4 hb4 hg4 hat4
  refine hK.out _ _ ⟨(blkc P4.out), ((blkc G4.out 517).trans C1.out.wait)⟩ (fun hHeld => ?_)
  clear hK K
  refine norm_ (a' := ?_) ?_ ?_
  rotate_left
  · show Act.put _ (some 31) _ = _
    simp only [Act.put, List.setIfInBounds_toArray, List.set_cons_zero, List.set_cons_succ, i64_w, i32_w]
    rfl
  refine pure_ (i := 8) (N := some 32) (v := ?_) (a' := ?_) #[true, true, true, true, true, true, true, true, true, false, false] rfl rfl (by kernel_rfl) (fun _ _ _ h => h) (Or.inl ⟨by rfl, ?_⟩) ?_ ?_
  rotate_left
  · intro w'
    go_simp
    with_reducible rfl
  rotate_left
  · simp only [Act.put, List.setIfInBounds_toArray, List.set_cons_zero, List.set_cons_succ, i64_w, i32_w]
    rfl
  refine pure_ (i := 9) (N := some 33) (v := ?_) (a' := ?_) #[true, true, true, true, true, true, true, true, true, true, false] rfl rfl (by kernel_rfl) (fun _ _ _ h => h) (Or.inl ⟨by rfl, ?_⟩) ?_ ?_
  rotate_left
  · intro w'
    go_simp
    with_reducible rfl
  rotate_left
  · simp only [Act.put, List.setIfInBounds_toArray, List.set_cons_zero, List.set_cons_succ, i64_w, i32_w]
    rfl
  refine last_ (i := 10) (N := none) #[true, true, true, true, true, true, true, true, true, true, true] rfl rfl (by kernel_rfl) (by decide) (fun K hK => ?_)
  have z4 := blkz G4.out 517
  have c4_ := (blkc G4.out 517).trans C1.out.wait
  refine skip_ (w1 := ?_) (by rfl) rfl ?_ ?_
  rotate_left
  · go_simp
    rfl
  refine hK.out _ _ ?_
  clear hK K
  refine done_ (by kernel_rfl) ?_
  have G5 := Lib.hid (blk_set G4.out 517 (.slice A4 (s.wait.length + 1) c4))
  have B5 := Lib.hid (below_set (g := g) (j := 517) (v := .slice A4 (s.wait.length + 1) c4) B4.out hg)
  have K5 := Lib.hid (K4.out.setCell (p := ⟨g, 517, none⟩) (.inl (.inl rfl)) (.slice A4 (s.wait.length + 1) c4))
  have Q5 := Lib.hid (Kd.Q_set Q4.out G4.out hUO 517 (.slice A4 (s.wait.length + 1) c4))
  have C5 := Lib.hid (C1.out.set_wait (.slice A4 (s.wait.length + 1) c4) (s.wait ++ [u]))
  go_wp2_with fail
  refine (on_any (w0 := w0) (OK.out.more HUS.out hll) ⟨_, G5.out, C5.out, Q5.out⟩ hg (by simp only [St.more, List.length_append, List.length_singleton]; omega) B5.out).mono ?_
  rintro e w6 ⟨v6, r6, rfl, hr6, hv6, hR6, hK6, hB6⟩
  have hsz : (World.setCell w4 ⟨g, 517, none⟩ (.slice A4 (s.wait.length + 1) c4)).heap.size = w4.heap.size := World.size_setCell ..
  have h2 : w.heap.size ≤ W1.drew.heap.size := K2.out.1
  have h5 : w.heap.size ≤ w4.heap.size := K4.out.1
  have hlt := Kd.Q_lt Q4.out
  have fin : OutPost w w0 g (.slice A s.wait.length c) (s.more u).on (s.more u).onL r6 w6 := by
    refine ⟨v6, hr6, ?_, ?_, K5.out.then_ hK6 (fun k h => .inl (.inl h)), hB6⟩
    · rw [hv6]
      rcases HAT.out with h | ⟨b, hb, hle⟩
      · exact .inl h
      · exact .inr ⟨b, hb, Nat.le_trans h2 hle⟩
    · refine Kd.R_lower (Kd.R_mono (Kd.R_bound hR6) (fun k hk => ?_)) (by rw [hsz]; exact h5)
      rw [hv6]
      intro e
      have h1 := hlt k e.symm
      have h3 := hk.2.1
      rw [hsz] at h3
      omega
  have FIN := Lib.hid fin
  clear fin hr6 hv6 hR6 hK6 hB6 hlt h5 h2 hsz
  go_wp2_with fail
  go_ret2
  exact ⟨_, rfl, FIN.out⟩
end Go.Proofs.Ytofmgijdeeikeaa.Hop
