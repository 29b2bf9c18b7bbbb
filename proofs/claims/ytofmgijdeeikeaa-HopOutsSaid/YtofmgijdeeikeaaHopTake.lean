/- Take. -/
import Derived.Test.YtofmgijdeeikeaaHopIn
set_option linter.unusedVariables false
set_option linter.unusedSimpArgs false
namespace Go.Proofs.Ytofmgijdeeikeaa.Hop
open Go.RowKit Go.Proofs.Ytofmgijdeeikeaa.Mem Go.Proofs.YtofmgijdeeikeaaW.PrintWords Go.Proofs.YtofmgijdeeikeaaW.PrintLast Go.Deep
theorem at_has {w : World} {g : Nat} {t : TypeId} {cs : Array Value} {l : L} (n : Int) (b : Bool) (hb : l.has n = b) (h : w.heap[g]? = some (.cells cs t (0, 0))) (hl : LineR cs l) (h1 : 1 ≤ l.window) (h2 : l.window ≤ 64) (hn : 0 ≤ n) :
    Calls Try.prog 37 #[.pointer (some ⟨g, 0, none⟩), .int .i64 n] w fun e w' => e = .returned (.tuple #[(l.held (l.key n)).val, .bool b]) ∧ Below w.heap.size w w' := by
  obtain ⟨k1, k2, k3, k4⟩ := key_spec h1 h2 hn
  subst hb
  exact at_any (w0 := w) n (l.key n) h hl k2 k1 h1
/-- What a call on a farther end leaves. -/
def InPost (w w0 : World) (g : Nat) (s' : InSt) (out : List U) (r : Value) (w' : World) : Prop :=
  InR w' g s' ∧ kU.R tU w' w.heap.size (fun _ => True) r out ∧ Kept w w' (fun k => k = g) ∧ Below w0.heap.size w0 w'
set_option maxHeartbeats 800000 in
set_option maxRecDepth 100000 in
theorem take_old {w w0 : World} {g : Nat} {s : InSt} (u : U) (hok : s.Ok) (h : InR w g s) (hg : w0.heap.size ≤ g) (HB : Below w0.heap.size w0 w) (hu : u.seq ≠ s.line.from_ + 1) (hu2 : ¬ (s.line.from_ + 1 < u.seq ∧ u.seq < s.line.from_ + 1 + s.line.window)) :
    Calls Try.prog 14 #[.pointer (some ⟨g, 0, none⟩), u.val] w fun e w' => ∃ r, e = .returned r ∧ InPost w w0 g s [] r w' := by
  obtain ⟨cs, G, C⟩ := h
  have hf0 := hok.mid.f0
  have hf2 := hok.mid.f2
  have hw1 := hok.mid.w1
  have hw2 := hok.mid.w2
  have hgw : g < w.heap.size := blk_lt G
  have hws : w0.heap.size ≤ w.heap.size := HB.size
  have hpg : w.heap.size ≠ g := by omega
  have P0 := Lib.hid (blk_new w (.cells #[.int .i64 u.seq, .int .i64 u.client, .int .i64 u.number, .int .i64 u.kind, .string u.key, .string u.value, .int .i64 u.version] tU))
  have G0 := Lib.hid (blk_below G (below_alloc (Below.refl _ _) (.cells #[.int .i64 u.seq, .int .i64 u.client, .int .i64 u.number, .int .i64 u.kind, .string u.key, .string u.value, .int .i64 u.version] tU)))
  have B0 := Lib.hid (below_alloc HB (.cells #[.int .i64 u.seq, .int .i64 u.client, .int .i64 u.number, .int .i64 u.kind, .string u.key, .string u.value, .int .i64 u.version] tU))
  have K0 := Lib.hid ((Kept.refl w (fun k => k = g)).alloc (.cells #[.int .i64 u.seq, .int .i64 u.client, .int .i64 u.number, .int .i64 u.kind, .string u.key, .string u.value, .int .i64 u.version] tU))
  have CC := Lib.hid C
  have OK := Lib.hid hok
  have HU := Lib.hid hu
  have HU2 := Lib.hid hu2
  clear G C HB hok hu hu2
  go_enter Try.func14, Try.ntmps14
  have c514 := (blkc G0.out 514).trans CC.out.line.made
  rw [OK.out.mid.made] at c514
  have c0 := (blkc G0.out 0).trans CC.out.line.from_
  have c1 := (blkc G0.out 1).trans CC.out.line.window
  have cp := blkc P0.out
  have e1 : IntKind.i64.wrap (s.line.from_ + 1) = s.line.from_ + 1 := IntWalk.i64_in _ (by omega)
  have e2 : IntKind.i64.wrap (s.line.from_ + 1 + s.line.window) = s.line.from_ + 1 + s.line.window := IntWalk.i64_in _ (by omega)
  have t3 : (u.seq != s.line.from_ + 1) = true := by simpa using HU.out
  have fin : ∀ nq, InPost w w0 g s [] (.slice none 0 0) ((w.alloc (.cells #[.int .i64 u.seq, .int .i64 u.client, .int .i64 u.number, .int .i64 u.kind, .string u.key, .string u.value, .int .i64 u.version] tU)).drewN nq) := fun nq => ⟨⟨cs, G0.out, CC.out⟩, Kd.R_nil _ _ _ _ _, K0.out.drewN nq, pw_below_drewN B0.out nq⟩
  have FIN := Lib.hid fin
  clear fin
  by_cases hlt : s.line.from_ + 1 < u.seq
  · have t1 : decide (s.line.from_ + 1 < u.seq) = true := by simpa using hlt
    have t2 : decide (u.seq < s.line.from_ + 1 + s.line.window) = false := by have := HU2.out; simp; omega
    clear hlt
    go_wp2_with fail
    go_quiet (fail)
    go_wp2
    go_ret
    exact ⟨_, rfl, FIN.out _⟩
  · have t1 : decide (s.line.from_ + 1 < u.seq) = false := by simpa using hlt
    clear hlt
    go_wp2_with fail
    go_quiet (fail)
    go_wp2
    go_ret
    exact ⟨_, rfl, FIN.out _⟩
set_option maxHeartbeats 800000 in
set_option maxRecDepth 100000 in
theorem take_has {w w0 : World} {g : Nat} {s : InSt} (u : U) (hok : s.Ok) (h : InR w g s) (hg : w0.heap.size ≤ g) (HB : Below w0.heap.size w0 w) (hu1 : s.line.from_ + 1 < u.seq) (hu2 : u.seq < s.line.from_ + 1 + s.line.window) (hh : s.line.has u.seq = true) :
    Calls Try.prog 14 #[.pointer (some ⟨g, 0, none⟩), u.val] w fun e w' => ∃ r, e = .returned r ∧ InPost w w0 g s [] r w' := by
  obtain ⟨cs, G, C⟩ := h
  have hf0 := hok.mid.f0
  have hf2 := hok.mid.f2
  have hw1 := hok.mid.w1
  have hw2 := hok.mid.w2
  have hgw : g < w.heap.size := blk_lt G
  have hws : w0.heap.size ≤ w.heap.size := HB.size
  have hpg : w.heap.size ≠ g := by omega
  have P0 := Lib.hid (blk_new w (.cells #[.int .i64 u.seq, .int .i64 u.client, .int .i64 u.number, .int .i64 u.kind, .string u.key, .string u.value, .int .i64 u.version] tU))
  have G0 := Lib.hid (blk_below G (below_alloc (Below.refl _ _) (.cells #[.int .i64 u.seq, .int .i64 u.client, .int .i64 u.number, .int .i64 u.kind, .string u.key, .string u.value, .int .i64 u.version] tU)))
  have B0 := Lib.hid (below_alloc HB (.cells #[.int .i64 u.seq, .int .i64 u.client, .int .i64 u.number, .int .i64 u.kind, .string u.key, .string u.value, .int .i64 u.version] tU))
  have K0 := Lib.hid ((Kept.refl w (fun k => k = g)).alloc (.cells #[.int .i64 u.seq, .int .i64 u.client, .int .i64 u.number, .int .i64 u.kind, .string u.key, .string u.value, .int .i64 u.version] tU))
  have CC := Lib.hid C
  have OK := Lib.hid hok
  have HH := Lib.hid hh
  obtain ⟨k1, k2, k3, k4⟩ := key_spec hok.mid.w1 hok.mid.w2 (show 0 ≤ u.seq by omega)
  have KY := Lib.hid k1
  have hcn := hok.mid.cnt
  have hcl := cnt_le s.line
  have hho : 0 ≤ s.holds ∧ s.holds ≤ 64 := by omega
  have hh0 := hho.1
  have hh1 := hho.2
  clear G C HB hok hh k1 k4 hcn hcl hho
  have t1 : decide (s.line.from_ + 1 < u.seq) = true := by simpa using hu1
  have t2 : decide (u.seq < s.line.from_ + 1 + s.line.window) = true := by simpa using hu2
  go_enter Try.func14, Try.ntmps14
  have c514 := (blkc G0.out 514).trans CC.out.line.made
  rw [OK.out.mid.made] at c514
  have c0 := (blkc G0.out 0).trans CC.out.line.from_
  have c1 := (blkc G0.out 1).trans CC.out.line.window
  have cp := blkc P0.out
  have e1 : IntKind.i64.wrap (s.line.from_ + 1) = s.line.from_ + 1 := IntWalk.i64_in _ (by omega)
  have e2 : IntKind.i64.wrap (s.line.from_ + 1 + s.line.window) = s.line.from_ + 1 + s.line.window := IntWalk.i64_in _ (by omega)
  go_wp2_with fail
  go_quiet (fail)
  have G0 := Lib.hid (show ((w.alloc (.cells #[.int .i64 u.seq, .int .i64 u.client, .int .i64 u.number, .int .i64 u.kind, .string u.key, .string u.value, .int .i64 u.version] tU)).drewN nq).heap[g]? = some (.cells cs tIn (0, 0)) from G0.out)
  have P0 := Lib.hid (show ((w.alloc (.cells #[.int .i64 u.seq, .int .i64 u.client, .int .i64 u.number, .int .i64 u.kind, .string u.key, .string u.value, .int .i64 u.version] tU)).drewN nq).heap[w.heap.size]? = some (.cells #[.int .i64 u.seq, .int .i64 u.client, .int .i64 u.number, .int .i64 u.kind, .string u.key, .string u.value, .int .i64 u.version] tU) from P0.out)
  have B0 := Lib.hid (pw_below_drewN B0.out nq)
  have K0 := Lib.hid (K0.out.drewN nq)
  clear c514 c0 c1 cp
  generalize ((w.alloc _).drewN nq) = W at *
  generalize hpq : w.heap.size = p at *
  go_wp2_with fail
  have LL := Lib.hid CC.out.line
  have BW1 := Lib.hid (below_drew (Below.refl W.heap.size W))
  refine start_ (n := 12) (S := fun w' => (∀ o, w'.cell? ⟨p, o, none⟩ = #[Value.int .i64 u.seq, .int .i64 u.client, .int .i64 u.number, .int .i64 u.kind, .string u.key, .string u.value, .int .i64 u.version][o]?)) (ds := []) #[false, false, false, false, false, false, false, false, false, false, false, false] (by kernel_rfl) rfl rfl ((blkc (blk_below P0.out BW1.out))) (fun hHeld => ?_)
  refine pure_ (i := 0) (N := some 44) (v := ?_) (a' := ?_) #[true, false, false, false, false, false, false, false, false, false, false, false] rfl rfl (by kernel_rfl) (fun _ _ _ h => h) (Or.inl ⟨by rfl, ?_⟩) ?_ ?_
  rotate_left
  · intro w'
    go_simp
    with_reducible rfl
  rotate_left
  · simp only [Act.put, List.setIfInBounds_toArray, List.set_cons_zero, List.set_cons_succ, i64_w, i32_w]
    rfl
  refine pure_ (i := 1) (N := some 45) (v := ?_) (a' := ?_) #[true, true, false, false, false, false, false, false, false, false, false, false] rfl rfl (by kernel_rfl) (fun _ _ _ h => h) (Or.inl ⟨by rfl, ?_⟩) ?_ ?_
  rotate_left
  · intro w'
    go_simp
    with_reducible rfl
  rotate_left
  · simp only [Act.put, List.setIfInBounds_toArray, List.set_cons_zero, List.set_cons_succ, i64_w, i32_w]
    rfl
  refine pure_ (i := 2) (N := some 46) (v := ?_) (a' := ?_) #[true, true, true, false, false, false, false, false, false, false, false, false] rfl rfl (by kernel_rfl) (fun _ _ _ h => h) (Or.inl ⟨by rfl, ?_⟩) ?_ ?_
  rotate_left
  · intro w'
    go_simp
    with_reducible rfl
  rotate_left
  · simp only [Act.put, List.setIfInBounds_toArray, List.set_cons_zero, List.set_cons_succ, i64_w, i32_w]
    rfl
  refine pure_ (i := 3) (N := some 47) (v := ?_) (a' := ?_) #[true, true, true, true, false, false, false, false, false, false, false, false] rfl rfl (by kernel_rfl) (fun _ _ _ h => h) (Or.inl ⟨by rfl, ?_⟩) ?_ ?_
  rotate_left
  · intro w'
    go_simp
    with_reducible rfl
  rotate_left
  · simp only [Act.put, List.setIfInBounds_toArray, List.set_cons_zero, List.set_cons_succ, i64_w, i32_w]
    rfl
  refine take_ (i := 4) (N := some 48) (v := ?_) (a' := ?_) #[true, true, true, true, true, false, false, false, false, false, false, false] rfl rfl (by kernel_rfl) (fun _ _ _ h => h) (Or.inl ⟨by rfl, ?_⟩) hHeld ?_ ?_
  rotate_left
  · intro w' s0
    go_simp
    with_reducible rfl
  rotate_left
  · simp only [Act.put, List.setIfInBounds_toArray, List.set_cons_zero, List.set_cons_succ, i64_w, i32_w]
    rfl
  refine join_ (σ := Nat) 2 #[true, true, true, true, true, true, true, true, true, true, false, false] (fun q => [(49, Value.tuple #[((s.line).held (s.line.key u.seq)).val, .bool true]), (43, Value.tuple #[((s.line).held (s.line.key u.seq)).val, .bool true]), (50, ((s.line).held (s.line.key u.seq)).val), (51, Value.bool true), (6, .pointer (some ⟨q, 0, none⟩))]) (fun q w' => Below W.heap.size W w' ∧ w'.heap[q]? = some (.cells #[Value.int .i64 0, .int .i64 0, .int .i64 0, .int .i64 0, .string ⟨#[]⟩, .string ⟨#[]⟩, .int .i64 0] tU) ∧ W.heap.size ≤ q) ?_ ?_
  rotate_left
  · intro hCont
    refine two_ (i := 5) (j := 9) (Ni := some 49) (Nj := some 6) #[true, true, true, true, true, true, false, false, false, false, false, false] #[true, true, true, true, true, false, false, false, false, true, false, false] rfl rfl rfl rfl (by kernel_rfl) (by decide) (by decide) (fun K hK => ?_) (fun K hK => ?_)
    · skip
      refine goes_ Try.func37 (by kernel_rfl) rfl #[.pointer (some ⟨g, 0, none⟩), .int .i64 (u.seq)] (by rfl) rfl rfl (by simp only [List.map_toArray, List.map_cons, List.map_nil]; rfl) ?_
      with_reducible refine (at_has u.seq true HH.out (blk_below G0.out BW1.out) LL.out hw1 hw2 (by omega)).mono ?_
      rintro e w2 ⟨rfl, hb2⟩
      refine ⟨_, rfl, ?_⟩
      have BW2 := Lib.hid (below_then BW1.out (Nat.le_refl _) hb2)
      refine hK.out _ _ ((blkc (blk_below P0.out BW2.out))) (fun hHeld => ?_)
      clear hK K
      refine norm_ (a' := ?_) ?_ ?_
      rotate_left
      · show Act.put _ (some 49) _ = _
        simp only [Act.put, List.setIfInBounds_toArray, List.set_cons_zero, List.set_cons_succ, i64_w, i32_w]
        rfl
      refine pure_ (i := 6) (N := some 43) (v := ?_) (a' := ?_) #[true, true, true, true, true, true, true, false, false, false, false, false] rfl rfl (by kernel_rfl) (fun _ _ _ h => h) (Or.inl ⟨by rfl, ?_⟩) ?_ ?_
      rotate_left
      · intro w'
        go_simp
        with_reducible rfl
      rotate_left
      · simp only [Act.put, List.setIfInBounds_toArray, List.set_cons_zero, List.set_cons_succ, i64_w, i32_w]
        rfl
      refine pure_ (i := 7) (N := some 50) (v := ?_) (a' := ?_) #[true, true, true, true, true, true, true, true, false, false, false, false] rfl rfl (by kernel_rfl) (fun _ _ _ h => h) (Or.inl ⟨by rfl, ?_⟩) ?_ ?_
      rotate_left
      · intro w'
        go_simp
        with_reducible rfl
      rotate_left
      · simp only [Act.put, List.setIfInBounds_toArray, List.set_cons_zero, List.set_cons_succ, i64_w, i32_w]
        rfl
      refine pure_ (i := 8) (N := some 51) (v := ?_) (a' := ?_) #[true, true, true, true, true, true, true, true, true, false, false, false] rfl rfl (by kernel_rfl) (fun _ _ _ h => h) (Or.inl ⟨by rfl, ?_⟩) ?_ ?_
      rotate_left
      · intro w'
        go_simp
        with_reducible rfl
      rotate_left
      · simp only [Act.put, List.setIfInBounds_toArray, List.set_cons_zero, List.set_cons_succ, i64_w, i32_w]
        rfl
      refine one_ (i := 9) (N := some 6) #[true, true, true, true, true, true, true, true, true, true, false, false] rfl rfl (by kernel_rfl) (by decide) (fun K hK => ?_)
      refine value_ (w1 := ?_) (v := ?_) (by rfl) rfl ?_ ?_
      rotate_left 2
      · go_simp
        constructor
        · rfl
        · rfl
      have BW3 := Lib.hid (below_alloc BW2.out (.cells #[Value.int .i64 0, .int .i64 0, .int .i64 0, .int .i64 0, .string ⟨#[]⟩, .string ⟨#[]⟩, .int .i64 0] tU))
      refine hK.out _ _ ((blkc (blk_below P0.out BW3.out))) (fun hHeld => ?_)
      clear hK K
      refine norm_ (a' := ?_) ?_ ?_
      rotate_left
      · show Act.put _ (some 6) _ = _
        simp only [Act.put, List.setIfInBounds_toArray, List.set_cons_zero, List.set_cons_succ, i64_w, i32_w]
        rfl
      exact norm_ (by simp only [putAll, Act.put, List.setIfInBounds_toArray, List.set_cons_zero, List.set_cons_succ]) (hCont _ _ ⟨BW3.out, blk_new w2 (.cells #[Value.int .i64 0, .int .i64 0, .int .i64 0, .int .i64 0, .string ⟨#[]⟩, .string ⟨#[]⟩, .int .i64 0] tU), BW2.out.size⟩)
    · skip
      refine value_ (w1 := ?_) (v := ?_) (by rfl) rfl ?_ ?_
      rotate_left 2
      · go_simp
        constructor
        · rfl
        · rfl
      have BW4 := Lib.hid (below_alloc (Below.refl W.heap.size W) (.cells #[Value.int .i64 0, .int .i64 0, .int .i64 0, .int .i64 0, .string ⟨#[]⟩, .string ⟨#[]⟩, .int .i64 0] tU)).drew
      refine hK.out _ _ ((blkc (blk_below P0.out BW4.out))) (fun hHeld => ?_)
      clear hK K
      refine norm_ (a' := ?_) ?_ ?_
      rotate_left
      · show Act.put _ (some 6) _ = _
        simp only [Act.put, List.setIfInBounds_toArray, List.set_cons_zero, List.set_cons_succ, i64_w, i32_w]
        rfl
      refine one_ (i := 5) (N := some 49) #[true, true, true, true, true, true, false, false, false, true, false, false] rfl rfl (by kernel_rfl) (by decide) (fun K hK => ?_)
      refine goes_ Try.func37 (by kernel_rfl) rfl #[.pointer (some ⟨g, 0, none⟩), .int .i64 (u.seq)] (by rfl) rfl rfl (by simp only [List.map_toArray, List.map_cons, List.map_nil]; rfl) ?_
      with_reducible refine (at_has u.seq true HH.out (blk_below G0.out BW4.out) LL.out hw1 hw2 (by omega)).mono ?_
      rintro e w5 ⟨rfl, hb5⟩
      refine ⟨_, rfl, ?_⟩
      have BW5 := Lib.hid (below_then BW4.out BW4.out.size hb5)
      have Z5 := Lib.hid (blk_below (blk_drew (blk_new W (.cells #[Value.int .i64 0, .int .i64 0, .int .i64 0, .int .i64 0, .string ⟨#[]⟩, .string ⟨#[]⟩, .int .i64 0] tU))) hb5)
      refine hK.out _ _ ((blkc (blk_below P0.out BW5.out))) (fun hHeld => ?_)
      clear hK K
      refine norm_ (a' := ?_) ?_ ?_
      rotate_left
      · show Act.put _ (some 49) _ = _
        simp only [Act.put, List.setIfInBounds_toArray, List.set_cons_zero, List.set_cons_succ, i64_w, i32_w]
        rfl
      refine pure_ (i := 6) (N := some 43) (v := ?_) (a' := ?_) #[true, true, true, true, true, true, true, false, false, true, false, false] rfl rfl (by kernel_rfl) (fun _ _ _ h => h) (Or.inl ⟨by rfl, ?_⟩) ?_ ?_
      rotate_left
      · intro w'
        go_simp
        with_reducible rfl
      rotate_left
      · simp only [Act.put, List.setIfInBounds_toArray, List.set_cons_zero, List.set_cons_succ, i64_w, i32_w]
        rfl
      refine pure_ (i := 7) (N := some 50) (v := ?_) (a' := ?_) #[true, true, true, true, true, true, true, true, false, true, false, false] rfl rfl (by kernel_rfl) (fun _ _ _ h => h) (Or.inl ⟨by rfl, ?_⟩) ?_ ?_
      rotate_left
      · intro w'
        go_simp
        with_reducible rfl
      rotate_left
      · simp only [Act.put, List.setIfInBounds_toArray, List.set_cons_zero, List.set_cons_succ, i64_w, i32_w]
        rfl
      refine pure_ (i := 8) (N := some 51) (v := ?_) (a' := ?_) #[true, true, true, true, true, true, true, true, true, true, false, false] rfl rfl (by kernel_rfl) (fun _ _ _ h => h) (Or.inl ⟨by rfl, ?_⟩) ?_ ?_
      rotate_left
      · intro w'
        go_simp
        with_reducible rfl
      rotate_left
      · simp only [Act.put, List.setIfInBounds_toArray, List.set_cons_zero, List.set_cons_succ, i64_w, i32_w]
        rfl
      exact norm_ (by simp only [putAll, Act.put, List.setIfInBounds_toArray, List.set_cons_zero, List.set_cons_succ]) (hCont _ _ ⟨BW5.out, Z5.out, Nat.le_refl _⟩)
  rintro q w6 ⟨BW6_, Z6_, hq6⟩
  have BW6 := Lib.hid BW6_
  have Z6 := Lib.hid Z6_
  clear BW6_ Z6_
  have hHeld := (blkc (blk_below P0.out BW6.out))
  refine norm_ (a' := ?_) ?_ ?_
  rotate_left
  · simp only [putAll, Act.put, List.setIfInBounds_toArray, List.set_cons_zero, List.set_cons_succ]
    rfl
  refine one_ (i := 10) (N := none) #[true, true, true, true, true, true, true, true, true, true, true, false] rfl rfl (by kernel_rfl) (by decide) (fun K hK => ?_)
  refine store_stepU (by rfl) (by rfl) tU (.tmp 6) (.tmp 50) rfl q 0 ((s.line).held (s.line.key u.seq)) rfl rfl (there_U Z6.out (by simp)) (by kernel_rfl) ?_
  have Z7 := Lib.hid (blk_lay ((s.line).held (s.line.key u.seq)) 0 Z6.out)
  have BW7 := Lib.hid (below_setCells hq6 ((s.line).held (s.line.key u.seq)).cells 0 BW6.out)
  generalize (World.setCells _ _ _ _) = W7 at *
  refine hK.out _ _ ((blkc (blk_below P0.out BW7.out))) (fun hHeld => ?_)
  clear hK K
  refine pure_ (i := 11) (N := some 7) (v := ?_) (a' := ?_) #[true, true, true, true, true, true, true, true, true, true, true, true] rfl rfl (by kernel_rfl) (fun _ _ _ h => h) (Or.inl ⟨by rfl, ?_⟩) ?_ ?_
  rotate_left
  · intro w'
    go_simp
    with_reducible rfl
  rotate_left
  · simp only [Act.put, List.setIfInBounds_toArray, List.set_cons_zero, List.set_cons_succ, i64_w, i32_w]
    rfl
  refine done_ (by kernel_rfl) ?_
  have G7 := Lib.hid (blk_below G0.out BW7.out)
  have P7 := Lib.hid (blk_below P0.out BW7.out)
  have B7 := Lib.hid (below_then B0.out B0.out.size BW7.out)
  have K7 := Lib.hid (K0.out.below BW7.out)
  go_wp2
  go_ret
  exact ⟨_, rfl, ⟨cs, G7.out, CC.out⟩, Kd.R_nil _ _ _ _ _, K7.out, B7.out⟩
set_option maxHeartbeats 800000 in
set_option maxRecDepth 100000 in
theorem take_keep {w w0 : World} {g : Nat} {s : InSt} (u : U) (hok : s.Ok) (h : InR w g s) (hg : w0.heap.size ≤ g) (HB : Below w0.heap.size w0 w) (hu1 : s.line.from_ + 1 < u.seq) (hu2 : u.seq < s.line.from_ + 1 + s.line.window) (hh : s.line.has u.seq = false) :
    Calls Try.prog 14 #[.pointer (some ⟨g, 0, none⟩), u.val] w fun e w' => ∃ r, e = .returned r ∧ InPost w w0 g (s.keep u) [] r w' := by
  obtain ⟨cs, G, C⟩ := h
  have hf0 := hok.mid.f0
  have hf2 := hok.mid.f2
  have hw1 := hok.mid.w1
  have hw2 := hok.mid.w2
  have hgw : g < w.heap.size := blk_lt G
  have hws : w0.heap.size ≤ w.heap.size := HB.size
  have hpg : w.heap.size ≠ g := by omega
  have P0 := Lib.hid (blk_new w (.cells #[.int .i64 u.seq, .int .i64 u.client, .int .i64 u.number, .int .i64 u.kind, .string u.key, .string u.value, .int .i64 u.version] tU))
  have G0 := Lib.hid (blk_below G (below_alloc (Below.refl _ _) (.cells #[.int .i64 u.seq, .int .i64 u.client, .int .i64 u.number, .int .i64 u.kind, .string u.key, .string u.value, .int .i64 u.version] tU)))
  have B0 := Lib.hid (below_alloc HB (.cells #[.int .i64 u.seq, .int .i64 u.client, .int .i64 u.number, .int .i64 u.kind, .string u.key, .string u.value, .int .i64 u.version] tU))
  have K0 := Lib.hid ((Kept.refl w (fun k => k = g)).alloc (.cells #[.int .i64 u.seq, .int .i64 u.client, .int .i64 u.number, .int .i64 u.kind, .string u.key, .string u.value, .int .i64 u.version] tU))
  have CC := Lib.hid C
  have OK := Lib.hid hok
  have HH := Lib.hid hh
  obtain ⟨k1, k2, k3, k4⟩ := key_spec hok.mid.w1 hok.mid.w2 (show 0 ≤ u.seq by omega)
  have KY := Lib.hid k1
  have hcn := hok.mid.cnt
  have hcl := cnt_le s.line
  have hho : 0 ≤ s.holds ∧ s.holds ≤ 64 := by omega
  have hh0 := hho.1
  have hh1 := hho.2
  clear G C HB hok hh k1 k4 hcn hcl hho
  have t1 : decide (s.line.from_ + 1 < u.seq) = true := by simpa using hu1
  have t2 : decide (u.seq < s.line.from_ + 1 + s.line.window) = true := by simpa using hu2
  go_enter Try.func14, Try.ntmps14
  have c514 := (blkc G0.out 514).trans CC.out.line.made
  rw [OK.out.mid.made] at c514
  have c0 := (blkc G0.out 0).trans CC.out.line.from_
  have c1 := (blkc G0.out 1).trans CC.out.line.window
  have cp := blkc P0.out
  have e1 : IntKind.i64.wrap (s.line.from_ + 1) = s.line.from_ + 1 := IntWalk.i64_in _ (by omega)
  have e2 : IntKind.i64.wrap (s.line.from_ + 1 + s.line.window) = s.line.from_ + 1 + s.line.window := IntWalk.i64_in _ (by omega)
  go_wp2_with fail
  go_quiet (fail)
  have G0 := Lib.hid (show ((w.alloc (.cells #[.int .i64 u.seq, .int .i64 u.client, .int .i64 u.number, .int .i64 u.kind, .string u.key, .string u.value, .int .i64 u.version] tU)).drewN nq).heap[g]? = some (.cells cs tIn (0, 0)) from G0.out)
  have P0 := Lib.hid (show ((w.alloc (.cells #[.int .i64 u.seq, .int .i64 u.client, .int .i64 u.number, .int .i64 u.kind, .string u.key, .string u.value, .int .i64 u.version] tU)).drewN nq).heap[w.heap.size]? = some (.cells #[.int .i64 u.seq, .int .i64 u.client, .int .i64 u.number, .int .i64 u.kind, .string u.key, .string u.value, .int .i64 u.version] tU) from P0.out)
  have B0 := Lib.hid (pw_below_drewN B0.out nq)
  have K0 := Lib.hid (K0.out.drewN nq)
  clear c514 c0 c1 cp
  generalize ((w.alloc _).drewN nq) = W at *
  generalize hpq : w.heap.size = p at *
  go_wp2_with fail
  have LL := Lib.hid CC.out.line
  have BW1 := Lib.hid (below_drew (Below.refl W.heap.size W))
  refine start_ (n := 12) (S := fun w' => (∀ o, w'.cell? ⟨p, o, none⟩ = #[Value.int .i64 u.seq, .int .i64 u.client, .int .i64 u.number, .int .i64 u.kind, .string u.key, .string u.value, .int .i64 u.version][o]?)) (ds := []) #[false, false, false, false, false, false, false, false, false, false, false, false] (by kernel_rfl) rfl rfl ((blkc (blk_below P0.out BW1.out))) (fun hHeld => ?_)
  refine pure_ (i := 0) (N := some 44) (v := ?_) (a' := ?_) #[true, false, false, false, false, false, false, false, false, false, false, false] rfl rfl (by kernel_rfl) (fun _ _ _ h => h) (Or.inl ⟨by rfl, ?_⟩) ?_ ?_
  rotate_left
  · intro w'
    go_simp
    with_reducible rfl
  rotate_left
  · simp only [Act.put, List.setIfInBounds_toArray, List.set_cons_zero, List.set_cons_succ, i64_w, i32_w]
    rfl
  refine pure_ (i := 1) (N := some 45) (v := ?_) (a' := ?_) #[true, true, false, false, false, false, false, false, false, false, false, false] rfl rfl (by kernel_rfl) (fun _ _ _ h => h) (Or.inl ⟨by rfl, ?_⟩) ?_ ?_
  rotate_left
  · intro w'
    go_simp
    with_reducible rfl
  rotate_left
  · simp only [Act.put, List.setIfInBounds_toArray, List.set_cons_zero, List.set_cons_succ, i64_w, i32_w]
    rfl
  refine pure_ (i := 2) (N := some 46) (v := ?_) (a' := ?_) #[true, true, true, false, false, false, false, false, false, false, false, false] rfl rfl (by kernel_rfl) (fun _ _ _ h => h) (Or.inl ⟨by rfl, ?_⟩) ?_ ?_
  rotate_left
  · intro w'
    go_simp
    with_reducible rfl
  rotate_left
  · simp only [Act.put, List.setIfInBounds_toArray, List.set_cons_zero, List.set_cons_succ, i64_w, i32_w]
    rfl
  refine pure_ (i := 3) (N := some 47) (v := ?_) (a' := ?_) #[true, true, true, true, false, false, false, false, false, false, false, false] rfl rfl (by kernel_rfl) (fun _ _ _ h => h) (Or.inl ⟨by rfl, ?_⟩) ?_ ?_
  rotate_left
  · intro w'
    go_simp
    with_reducible rfl
  rotate_left
  · simp only [Act.put, List.setIfInBounds_toArray, List.set_cons_zero, List.set_cons_succ, i64_w, i32_w]
    rfl
  refine take_ (i := 4) (N := some 48) (v := ?_) (a' := ?_) #[true, true, true, true, true, false, false, false, false, false, false, false] rfl rfl (by kernel_rfl) (fun _ _ _ h => h) (Or.inl ⟨by rfl, ?_⟩) hHeld ?_ ?_
  rotate_left
  · intro w' s0
    go_simp
    with_reducible rfl
  rotate_left
  · simp only [Act.put, List.setIfInBounds_toArray, List.set_cons_zero, List.set_cons_succ, i64_w, i32_w]
    rfl
  refine join_ (σ := Nat) 2 #[true, true, true, true, true, true, true, true, true, true, false, false] (fun q => [(49, Value.tuple #[((s.line).held (s.line.key u.seq)).val, .bool false]), (43, Value.tuple #[((s.line).held (s.line.key u.seq)).val, .bool false]), (50, ((s.line).held (s.line.key u.seq)).val), (51, Value.bool false), (6, .pointer (some ⟨q, 0, none⟩))]) (fun q w' => Below W.heap.size W w' ∧ w'.heap[q]? = some (.cells #[Value.int .i64 0, .int .i64 0, .int .i64 0, .int .i64 0, .string ⟨#[]⟩, .string ⟨#[]⟩, .int .i64 0] tU) ∧ W.heap.size ≤ q) ?_ ?_
  rotate_left
  · intro hCont
    refine two_ (i := 5) (j := 9) (Ni := some 49) (Nj := some 6) #[true, true, true, true, true, true, false, false, false, false, false, false] #[true, true, true, true, true, false, false, false, false, true, false, false] rfl rfl rfl rfl (by kernel_rfl) (by decide) (by decide) (fun K hK => ?_) (fun K hK => ?_)
    · skip
      refine goes_ Try.func37 (by kernel_rfl) rfl #[.pointer (some ⟨g, 0, none⟩), .int .i64 (u.seq)] (by rfl) rfl rfl (by simp only [List.map_toArray, List.map_cons, List.map_nil]; rfl) ?_
      with_reducible refine (at_has u.seq false HH.out (blk_below G0.out BW1.out) LL.out hw1 hw2 (by omega)).mono ?_
      rintro e w2 ⟨rfl, hb2⟩
      refine ⟨_, rfl, ?_⟩
      have BW2 := Lib.hid (below_then BW1.out (Nat.le_refl _) hb2)
      refine hK.out _ _ ((blkc (blk_below P0.out BW2.out))) (fun hHeld => ?_)
      clear hK K
      refine norm_ (a' := ?_) ?_ ?_
      rotate_left
      · show Act.put _ (some 49) _ = _
        simp only [Act.put, List.setIfInBounds_toArray, List.set_cons_zero, List.set_cons_succ, i64_w, i32_w]
        rfl
      refine pure_ (i := 6) (N := some 43) (v := ?_) (a' := ?_) #[true, true, true, true, true, true, true, false, false, false, false, false] rfl rfl (by kernel_rfl) (fun _ _ _ h => h) (Or.inl ⟨by rfl, ?_⟩) ?_ ?_
      rotate_left
      · intro w'
        go_simp
        with_reducible rfl
      rotate_left
      · simp only [Act.put, List.setIfInBounds_toArray, List.set_cons_zero, List.set_cons_succ, i64_w, i32_w]
        rfl
      refine pure_ (i := 7) (N := some 50) (v := ?_) (a' := ?_) #[true, true, true, true, true, true, true, true, false, false, false, false] rfl rfl (by kernel_rfl) (fun _ _ _ h => h) (Or.inl ⟨by rfl, ?_⟩) ?_ ?_
      rotate_left
      · intro w'
        go_simp
        with_reducible rfl
      rotate_left
      · simp only [Act.put, List.setIfInBounds_toArray, List.set_cons_zero, List.set_cons_succ, i64_w, i32_w]
        rfl
      refine pure_ (i := 8) (N := some 51) (v := ?_) (a' := ?_) #[true, true, true, true, true, true, true, true, true, false, false, false] rfl rfl (by kernel_rfl) (fun _ _ _ h => h) (Or.inl ⟨by rfl, ?_⟩) ?_ ?_
      rotate_left
      · intro w'
        go_simp
        with_reducible rfl
      rotate_left
      · simp only [Act.put, List.setIfInBounds_toArray, List.set_cons_zero, List.set_cons_succ, i64_w, i32_w]
        rfl
      refine one_ (i := 9) (N := some 6) #[true, true, true, true, true, true, true, true, true, true, false, false] rfl rfl (by kernel_rfl) (by decide) (fun K hK => ?_)
      refine value_ (w1 := ?_) (v := ?_) (by rfl) rfl ?_ ?_
      rotate_left 2
      · go_simp
        constructor
        · rfl
        · rfl
      have BW3 := Lib.hid (below_alloc BW2.out (.cells #[Value.int .i64 0, .int .i64 0, .int .i64 0, .int .i64 0, .string ⟨#[]⟩, .string ⟨#[]⟩, .int .i64 0] tU))
      refine hK.out _ _ ((blkc (blk_below P0.out BW3.out))) (fun hHeld => ?_)
      clear hK K
      refine norm_ (a' := ?_) ?_ ?_
      rotate_left
      · show Act.put _ (some 6) _ = _
        simp only [Act.put, List.setIfInBounds_toArray, List.set_cons_zero, List.set_cons_succ, i64_w, i32_w]
        rfl
      exact norm_ (by simp only [putAll, Act.put, List.setIfInBounds_toArray, List.set_cons_zero, List.set_cons_succ]) (hCont _ _ ⟨BW3.out, blk_new w2 (.cells #[Value.int .i64 0, .int .i64 0, .int .i64 0, .int .i64 0, .string ⟨#[]⟩, .string ⟨#[]⟩, .int .i64 0] tU), BW2.out.size⟩)
    · skip
      refine value_ (w1 := ?_) (v := ?_) (by rfl) rfl ?_ ?_
      rotate_left 2
      · go_simp
        constructor
        · rfl
        · rfl
      have BW4 := Lib.hid (below_alloc (Below.refl W.heap.size W) (.cells #[Value.int .i64 0, .int .i64 0, .int .i64 0, .int .i64 0, .string ⟨#[]⟩, .string ⟨#[]⟩, .int .i64 0] tU)).drew
      refine hK.out _ _ ((blkc (blk_below P0.out BW4.out))) (fun hHeld => ?_)
      clear hK K
      refine norm_ (a' := ?_) ?_ ?_
      rotate_left
      · show Act.put _ (some 6) _ = _
        simp only [Act.put, List.setIfInBounds_toArray, List.set_cons_zero, List.set_cons_succ, i64_w, i32_w]
        rfl
      refine one_ (i := 5) (N := some 49) #[true, true, true, true, true, true, false, false, false, true, false, false] rfl rfl (by kernel_rfl) (by decide) (fun K hK => ?_)
      refine goes_ Try.func37 (by kernel_rfl) rfl #[.pointer (some ⟨g, 0, none⟩), .int .i64 (u.seq)] (by rfl) rfl rfl (by simp only [List.map_toArray, List.map_cons, List.map_nil]; rfl) ?_
      with_reducible refine (at_has u.seq false HH.out (blk_below G0.out BW4.out) LL.out hw1 hw2 (by omega)).mono ?_
      rintro e w5 ⟨rfl, hb5⟩
      refine ⟨_, rfl, ?_⟩
      have BW5 := Lib.hid (below_then BW4.out BW4.out.size hb5)
      have Z5 := Lib.hid (blk_below (blk_drew (blk_new W (.cells #[Value.int .i64 0, .int .i64 0, .int .i64 0, .int .i64 0, .string ⟨#[]⟩, .string ⟨#[]⟩, .int .i64 0] tU))) hb5)
      refine hK.out _ _ ((blkc (blk_below P0.out BW5.out))) (fun hHeld => ?_)
      clear hK K
      refine norm_ (a' := ?_) ?_ ?_
      rotate_left
      · show Act.put _ (some 49) _ = _
        simp only [Act.put, List.setIfInBounds_toArray, List.set_cons_zero, List.set_cons_succ, i64_w, i32_w]
        rfl
      refine pure_ (i := 6) (N := some 43) (v := ?_) (a' := ?_) #[true, true, true, true, true, true, true, false, false, true, false, false] rfl rfl (by kernel_rfl) (fun _ _ _ h => h) (Or.inl ⟨by rfl, ?_⟩) ?_ ?_
      rotate_left
      · intro w'
        go_simp
        with_reducible rfl
      rotate_left
      · simp only [Act.put, List.setIfInBounds_toArray, List.set_cons_zero, List.set_cons_succ, i64_w, i32_w]
        rfl
      refine pure_ (i := 7) (N := some 50) (v := ?_) (a' := ?_) #[true, true, true, true, true, true, true, true, false, true, false, false] rfl rfl (by kernel_rfl) (fun _ _ _ h => h) (Or.inl ⟨by rfl, ?_⟩) ?_ ?_
      rotate_left
      · intro w'
        go_simp
        with_reducible rfl
      rotate_left
      · simp only [Act.put, List.setIfInBounds_toArray, List.set_cons_zero, List.set_cons_succ, i64_w, i32_w]
        rfl
      refine pure_ (i := 8) (N := some 51) (v := ?_) (a' := ?_) #[true, true, true, true, true, true, true, true, true, true, false, false] rfl rfl (by kernel_rfl) (fun _ _ _ h => h) (Or.inl ⟨by rfl, ?_⟩) ?_ ?_
      rotate_left
      · intro w'
        go_simp
        with_reducible rfl
      rotate_left
      · simp only [Act.put, List.setIfInBounds_toArray, List.set_cons_zero, List.set_cons_succ, i64_w, i32_w]
        rfl
      exact norm_ (by simp only [putAll, Act.put, List.setIfInBounds_toArray, List.set_cons_zero, List.set_cons_succ]) (hCont _ _ ⟨BW5.out, Z5.out, Nat.le_refl _⟩)
  rintro q w6 ⟨BW6_, Z6_, hq6⟩
  have BW6 := Lib.hid BW6_
  have Z6 := Lib.hid Z6_
  clear BW6_ Z6_
  have hHeld := (blkc (blk_below P0.out BW6.out))
  refine norm_ (a' := ?_) ?_ ?_
  rotate_left
  · simp only [putAll, Act.put, List.setIfInBounds_toArray, List.set_cons_zero, List.set_cons_succ]
    rfl
  refine one_ (i := 10) (N := none) #[true, true, true, true, true, true, true, true, true, true, true, false] rfl rfl (by kernel_rfl) (by decide) (fun K hK => ?_)
  refine store_stepU (by rfl) (by rfl) tU (.tmp 6) (.tmp 50) rfl q 0 ((s.line).held (s.line.key u.seq)) rfl rfl (there_U Z6.out (by simp)) (by kernel_rfl) ?_
  have Z7 := Lib.hid (blk_lay ((s.line).held (s.line.key u.seq)) 0 Z6.out)
  have BW7 := Lib.hid (below_setCells hq6 ((s.line).held (s.line.key u.seq)).cells 0 BW6.out)
  generalize (World.setCells _ _ _ _) = W7 at *
  refine hK.out _ _ ((blkc (blk_below P0.out BW7.out))) (fun hHeld => ?_)
  clear hK K
  refine pure_ (i := 11) (N := some 7) (v := ?_) (a' := ?_) #[true, true, true, true, true, true, true, true, true, true, true, true] rfl rfl (by kernel_rfl) (fun _ _ _ h => h) (Or.inl ⟨by rfl, ?_⟩) ?_ ?_
  rotate_left
  · intro w'
    go_simp
    with_reducible rfl
  rotate_left
  · simp only [Act.put, List.setIfInBounds_toArray, List.set_cons_zero, List.set_cons_succ, i64_w, i32_w]
    rfl
  refine done_ (by kernel_rfl) ?_
  have G7 := Lib.hid (blk_below G0.out BW7.out)
  have P7 := Lib.hid (blk_below P0.out BW7.out)
  have B7 := Lib.hid (below_then B0.out B0.out.size BW7.out)
  have K7 := Lib.hid (K0.out.below BW7.out)
  go_wp2_with fail
  have G8 := Lib.hid (blk_drew G7.out)
  have P8 := Lib.hid (blk_drew P7.out)
  have B8 := Lib.hid B7.out.drew
  have K8 := Lib.hid K7.out.drew
  have hcs : 515 ≤ cs.size := by rw [CC.out.size]; omega
  have PC := Lib.hid (CC.out.put k2 u true)
  refine start_ (n := 5) (S := fun w' => (∀ o, w'.cell? ⟨p, o, none⟩ = #[Value.int .i64 u.seq, .int .i64 u.client, .int .i64 u.number, .int .i64 u.kind, .string u.key, .string u.value, .int .i64 u.version][o]?)) (ds := []) #[false, false, false, false, false] (by kernel_rfl) rfl rfl ((blkc P8.out)) (fun hHeld => ?_)
  refine pure_ (i := 0) (N := some 54) (v := ?_) (a' := ?_) #[true, false, false, false, false] rfl rfl (by kernel_rfl) (fun _ _ _ h => h) (Or.inl ⟨by rfl, ?_⟩) ?_ ?_
  rotate_left
  · intro w'
    go_simp
    with_reducible rfl
  rotate_left
  · simp only [Act.put, List.setIfInBounds_toArray, List.set_cons_zero, List.set_cons_succ, i64_w, i32_w]
    rfl
  refine pure_ (i := 1) (N := some 55) (v := ?_) (a' := ?_) #[true, true, false, false, false] rfl rfl (by kernel_rfl) (fun _ _ _ h => h) (Or.inl ⟨by rfl, ?_⟩) ?_ ?_
  rotate_left
  · intro w'
    go_simp
    with_reducible rfl
  rotate_left
  · simp only [Act.put, List.setIfInBounds_toArray, List.set_cons_zero, List.set_cons_succ, i64_w, i32_w]
    rfl
  refine pure_ (i := 2) (N := some 56) (v := ?_) (a' := ?_) #[true, true, true, false, false] rfl rfl (by kernel_rfl) (fun _ _ _ h => h) (Or.inl ⟨by rfl, ?_⟩) ?_ ?_
  rotate_left
  · intro w'
    go_simp
    with_reducible rfl
  rotate_left
  · simp only [Act.put, List.setIfInBounds_toArray, List.set_cons_zero, List.set_cons_succ, i64_w, i32_w]
    rfl
  refine take_ (i := 3) (N := some 57) (v := ?_) (a' := ?_) #[true, true, true, true, false] rfl rfl (by kernel_rfl) (fun _ _ _ h => h) (Or.inl ⟨by rfl, ?_⟩) hHeld ?_ ?_
  rotate_left
  · intro w' s0
    go_simp
    with_reducible rfl
  rotate_left
  · simp only [Act.put, List.setIfInBounds_toArray, List.set_cons_zero, List.set_cons_succ, i64_w, i32_w]
    rfl
  refine one_ (i := 4) (N := some 58) #[true, true, true, true, true] rfl rfl (by kernel_rfl) (by decide) (fun K hK => ?_)
  refine goes_ Try.func38 (by kernel_rfl) rfl #[.pointer (some ⟨g, 0, none⟩), u.val] (by rfl) rfl rfl (by simp only [List.map_toArray, List.map_cons, List.map_nil]; rfl) ?_
  with_reducible refine (put_any (w0 := w0) u (s.line.key u.seq) G8.out LL.out hcs k2 KY.out hw1 hg B8.out).mono ?_
  rintro e w9 ⟨rfl, hg9, hk9, hb9⟩
  refine ⟨_, rfl, ?_⟩
  have P9 := Lib.hid (Kept.blk_ne P8.out hk9 hpg)
  have K9 := Lib.hid (K8.out.then_ hk9 (fun _ h => .inl h))
  have G9 := Lib.hid hg9
  have B9 := Lib.hid hb9
  clear hk9 hg9 hb9
  refine hK.out _ _ ((blkc P9.out)) (fun hHeld => ?_)
  clear hK K
  refine norm_ (a' := ?_) ?_ ?_
  rotate_left
  · show Act.put _ (some 58) _ = _
    simp only [Act.put, List.setIfInBounds_toArray, List.set_cons_zero, List.set_cons_succ, i64_w, i32_w]
    rfl
  refine done_ (by kernel_rfl) ?_
  have c515 : w9.cell? ⟨g, 515, none⟩ = some (.int .i64 s.holds) := (blkc G9.out 515).trans PC.out.holds
  have z515 := blkz G9.out 515
  have e3 : IntKind.i64.wrap (s.holds + 1) = s.holds + 1 := IntWalk.i64_in _ (by omega)
  have C10 := Lib.hid (show InC _ (s.keep u) from PC.out.set_holds (s.holds + 1))
  have G10 := Lib.hid (blk_set G9.out 515 (.int .i64 (s.holds + 1)))
  have B10 := Lib.hid (below_set (g := g) (j := 515) (v := .int .i64 (s.holds + 1)) B9.out hg)
  have K10 := Lib.hid (K9.out.setCell (p := ⟨g, 515, none⟩) (.inl rfl) (.int .i64 (s.holds + 1)))
  go_wp2
  go_ret
  exact ⟨_, rfl, ⟨_, G10.out, C10.out⟩, Kd.R_nil _ _ _ _ _, K10.out, B10.out⟩
end Go.Proofs.Ytofmgijdeeikeaa.Hop
