/- Tick. -/
import Derived.Test.YtofmgijdeeikeaaHopAck
import Derived.Test.YtofmgijdeeikeaaHopIn
import Derived.Test.YtofmgijdeeikeaaHopRefTake
set_option linter.unusedVariables false
set_option linter.unusedSimpArgs false
namespace Go.Proofs.Ytofmgijdeeikeaa.Hop
open Go.RowKit Go.Proofs.Ytofmgijdeeikeaa.Mem Go.Proofs.YtofmgijdeeikeaaW.PrintWords Go.Proofs.YtofmgijdeeikeaaW.PrintLast Go.Deep
theorem Q_ok {w : World} {b : Nat} {ok ok' : Nat → Prop} {v : Value} {xs : List U} (h : kU.Q tU w b ok v xs) (h' : ∀ k, v.ownBlock = some k → ok' k) : kU.Q tU w b ok' v xs := ⟨h', h.2⟩
/-- What is under way. -/
def St.under (s : St) : List U := (List.range (s.sent - s.line.from_).toNat).map (fun i : Nat => s.line.held (s.line.key (s.line.from_ + 1 + (i : Int))))
theorem under_len (s : St) : s.under.length = (s.sent - s.line.from_).toNat := by simp [St.under]
theorem under_get (s : St) {i : Nat} (h : i < (s.sent - s.line.from_).toNat) : s.under[i]? = some (s.line.held (s.line.key (s.line.from_ + 1 + (i : Int)))) := by
  simp [St.under, h]
/-- What a nearer end does with the clock. -/
def St.tick (s : St) : St × List U := if s.sent = s.line.from_ then (s, []) else if s.clock + 1 < s.patience then (s.setClock (s.clock + 1), []) else (s.setClock 0, s.under)
theorem St.Ok.setClock {s : St} (h : s.Ok) {c : Int} (h0 : 0 ≤ c) (h1 : c < s.patience) : (s.setClock c).Ok := ⟨h.made, h.w1, h.w2, h.f0, h.fs, h.sw, h.sl, h.l2, h.len, h.num, h0, h1, h.p1, h.p2⟩
theorem St.Ok.tick {s : St} (h : s.Ok) : s.tick.1.Ok := by
  unfold St.tick
  split
  · exact h
  · split
    · exact h.setClock (by have := h.c0; omega) (by assumption)
    · exact h.setClock (by omega) (by have := h.p1; omega)
set_option maxHeartbeats 1600000 in
set_option maxRecDepth 100000 in
theorem tick_no {w w0 : World} {g : Nat} {v : Value} {s : St} (hok : s.Ok) (h : OutR w w0.heap.size g v s) (hg : w0.heap.size ≤ g) (HB : Below w0.heap.size w0 w) (hn : s.sent = s.line.from_) :
    Calls Try.prog 32 #[.pointer (some ⟨g, 0, none⟩)] w fun e w' => ∃ r, e = .returned r ∧ OutPost w w0 g v s [] r w' := by
  obtain ⟨cs, G, C, Q⟩ := h
  have OK := Lib.hid hok
  have hl2 := hok.l2
  have hsl := hok.sl
  have hfs := hok.fs
  have hf0 := hok.f0
  have hw1 := hok.w1
  have hw2 := hok.w2
  have hc0 := hok.c0
  have hc1 := hok.c1
  have hp2 := hok.p2
  have hgw : g < w.heap.size := blk_lt G
  have hws : w0.heap.size ≤ w.heap.size := HB.size
  have HVL := Lib.hid (Kd.Q_lt Q)
  have CC := Lib.hid C
  have G0 := Lib.hid G
  have Q0 := Lib.hid Q
  have B0 := Lib.hid HB
  have K0 := Lib.hid (Kept.refl w (fun k => k = g ∨ some k = v.ownBlock))
  have Gd := Lib.hid (blk_drew G)
  have e1 : IntKind.i64.wrap (s.clock + 1) = s.clock + 1 := IntWalk.i64_in _ (by omega)
  have e2 : IntKind.i64.wrap (s.line.from_ + 1) = s.line.from_ + 1 := IntWalk.i64_in _ (by omega)
  clear G C Q HB hok
  have t1 : (s.sent == s.line.from_) = true := by simpa using hn
  clear hn
  go_enter Try.func32, Try.ntmps32
  go_wp2_with fail
  refine start_ (n := 15) (S := fun w' => (w'.cell? ⟨g, 515, none⟩ = some (.int .i64 s.sent)) ∧ (w'.cell? ⟨g, 0, none⟩ = some (.int .i64 s.line.from_))) (ds := []) #[false, false, false, false, false, false, false, false, false, false, false, false, false, false, false] (by kernel_rfl) rfl rfl ⟨((blkc Gd.out 515).trans CC.out.sent), ((blkc Gd.out 0).trans CC.out.line.from_)⟩ (fun hHeld => ?_)
  refine pure_ (i := 0) (N := some 7) (v := ?_) (a' := ?_) #[true, false, false, false, false, false, false, false, false, false, false, false, false, false, false] rfl rfl (by kernel_rfl) (fun _ _ _ h => h) (Or.inl ⟨by rfl, ?_⟩) ?_ ?_
  rotate_left
  · intro w'
    go_simp
    with_reducible rfl
  rotate_left
  · simp only [Act.put, List.setIfInBounds_toArray, List.set_cons_zero, List.set_cons_succ, i64_w, i32_w]
    rfl
  refine one_ (i := 1) (N := some 8) #[true, true, false, false, false, false, false, false, false, false, false, false, false, false, false] rfl rfl (by kernel_rfl) (by decide) (fun K hK => ?_)
  refine goes_ Try.func40 (by kernel_rfl) rfl #[.pointer (some ⟨g, 0, none⟩)] (by rfl) rfl rfl (by simp only [List.map_toArray, List.map_cons, List.map_nil]; rfl) ?_
  with_reducible refine (is_any ((blkc Gd.out 514).trans (by rw [CC.out.line.made, OK.out.made]))).mono ?_
  rintro e w1 ⟨rfl, rfl⟩
  refine ⟨_, rfl, ?_⟩
  refine hK.out _ _ ⟨hHeld.1, hHeld.2⟩ (fun hHeld => ?_)
  clear hK K
  refine norm_ (a' := ?_) ?_ ?_
  rotate_left
  · show Act.put _ (some 8) _ = _
    simp only [Act.put, List.setIfInBounds_toArray, List.set_cons_zero, List.set_cons_succ, i64_w, i32_w]
    rfl
  refine pure_ (i := 2) (N := some 9) (v := ?_) (a' := ?_) #[true, true, true, false, false, false, false, false, false, false, false, false, false, false, false] rfl rfl (by kernel_rfl) (fun _ _ _ h => h) (Or.inl ⟨by rfl, ?_⟩) ?_ ?_
  rotate_left
  · intro w'
    go_simp
    with_reducible rfl
  rotate_left
  · simp only [Act.put, List.setIfInBounds_toArray, List.set_cons_zero, List.set_cons_succ, i64_w, i32_w]
    rfl
  refine pure_ (i := 3) (N := some 10) (v := ?_) (a' := ?_) #[true, true, true, true, false, false, false, false, false, false, false, false, false, false, false] rfl rfl (by kernel_rfl) (fun _ _ _ h => h) (Or.inl ⟨by rfl, ?_⟩) ?_ ?_
  rotate_left
  · intro w'
    go_simp
    with_reducible rfl
  rotate_left
  · simp only [Act.put, List.setIfInBounds_toArray, List.set_cons_zero, List.set_cons_succ, i64_w, i32_w]
    rfl
  refine pure_ (i := 4) (N := some 11) (v := ?_) (a' := ?_) #[true, true, true, true, true, false, false, false, false, false, false, false, false, false, false] rfl rfl (by kernel_rfl) (fun _ _ _ h => h) (Or.inl ⟨by rfl, ?_⟩) ?_ ?_
  rotate_left
  · intro w'
    go_simp
    with_reducible rfl
  rotate_left
  · simp only [Act.put, List.setIfInBounds_toArray, List.set_cons_zero, List.set_cons_succ, i64_w, i32_w]
    rfl
  refine pure_ (i := 5) (N := some 12) (v := ?_) (a' := ?_) #[true, true, true, true, true, true, false, false, false, false, false, false, false, false, false] rfl rfl (by kernel_rfl) (fun _ _ _ h => h) (Or.inl ⟨by rfl, ?_⟩) ?_ ?_
  rotate_left
  · intro w'
    go_simp
    with_reducible rfl
  rotate_left
  · simp only [Act.put, List.setIfInBounds_toArray, List.set_cons_zero, List.set_cons_succ, i64_w, i32_w]
    rfl
  refine pure_ (i := 6) (N := some 13) (v := ?_) (a' := ?_) #[true, true, true, true, true, true, true, false, false, false, false, false, false, false, false] rfl rfl (by kernel_rfl) (fun _ _ _ h => h) (Or.inl ⟨by rfl, ?_⟩) ?_ ?_
  rotate_left
  · intro w'
    go_simp
    with_reducible rfl
  rotate_left
  · simp only [Act.put, List.setIfInBounds_toArray, List.set_cons_zero, List.set_cons_succ, i64_w, i32_w]
    rfl
  refine pure_ (i := 8) (N := some 15) (v := ?_) (a' := ?_) #[true, true, true, true, true, true, true, false, true, false, false, false, false, false, false] rfl rfl (by kernel_rfl) (fun _ _ _ h => h) (Or.inl ⟨by rfl, ?_⟩) ?_ ?_
  rotate_left
  · intro w'
    go_simp
    with_reducible rfl
  rotate_left
  · simp only [Act.put, List.setIfInBounds_toArray, List.set_cons_zero, List.set_cons_succ, i64_w, i32_w]
    rfl
  refine pure_ (i := 9) (N := some 16) (v := ?_) (a' := ?_) #[true, true, true, true, true, true, true, false, true, true, false, false, false, false, false] rfl rfl (by kernel_rfl) (fun _ _ _ h => h) (Or.inl ⟨by rfl, ?_⟩) ?_ ?_
  rotate_left
  · intro w'
    go_simp
    with_reducible rfl
  rotate_left
  · simp only [Act.put, List.setIfInBounds_toArray, List.set_cons_zero, List.set_cons_succ, i64_w, i32_w]
    rfl
  refine pure_ (i := 10) (N := some 17) (v := ?_) (a' := ?_) #[true, true, true, true, true, true, true, false, true, true, true, false, false, false, false] rfl rfl (by kernel_rfl) (fun _ _ _ h => h) (Or.inl ⟨by rfl, ?_⟩) ?_ ?_
  rotate_left
  · intro w'
    go_simp
    with_reducible rfl
  rotate_left
  · simp only [Act.put, List.setIfInBounds_toArray, List.set_cons_zero, List.set_cons_succ, i64_w, i32_w]
    rfl
  refine pure_ (i := 11) (N := some 18) (v := ?_) (a' := ?_) #[true, true, true, true, true, true, true, false, true, true, true, true, false, false, false] rfl rfl (by kernel_rfl) (fun _ _ _ h => h) (Or.inl ⟨by rfl, ?_⟩) ?_ ?_
  rotate_left
  · intro w'
    go_simp
    with_reducible rfl
  rotate_left
  · simp only [Act.put, List.setIfInBounds_toArray, List.set_cons_zero, List.set_cons_succ, i64_w, i32_w]
    rfl
  refine take_ (i := 7) (N := some 14) (v := ?_) (a' := ?_) #[true, true, true, true, true, true, true, true, true, true, true, true, false, false, false] rfl rfl (by kernel_rfl) (fun _ _ _ h => h) (Or.inl ⟨by rfl, ?_⟩) hHeld ?_ ?_
  rotate_left
  · rintro w' ⟨s0, s1⟩
    go_simp
    with_reducible rfl
  rotate_left
  · simp only [Act.put, List.setIfInBounds_toArray, List.set_cons_zero, List.set_cons_succ, i64_w, i32_w]
    rfl
  refine take_ (i := 12) (N := some 19) (v := ?_) (a' := ?_) #[true, true, true, true, true, true, true, true, true, true, true, true, true, false, false] rfl rfl (by kernel_rfl) (fun _ _ _ h => h) (Or.inl ⟨by rfl, ?_⟩) hHeld ?_ ?_
  rotate_left
  · rintro w' ⟨s0, s1⟩
    go_simp
    with_reducible rfl
  rotate_left
  · simp only [Act.put, List.setIfInBounds_toArray, List.set_cons_zero, List.set_cons_succ, i64_w, i32_w]
    rfl
  refine pure_ (i := 13) (N := some 20) (v := ?_) (a' := ?_) #[true, true, true, true, true, true, true, true, true, true, true, true, true, true, false] rfl rfl (by kernel_rfl) (fun _ _ _ h => h) (Or.inl ⟨by rfl, ?_⟩) ?_ ?_
  rotate_left
  · intro w'
    go_simp
    with_reducible rfl
  rotate_left
  · simp only [Act.put, List.setIfInBounds_toArray, List.set_cons_zero, List.set_cons_succ, i64_w, i32_w]
    rfl
  refine pure_ (i := 14) (N := some 21) (v := ?_) (a' := ?_) #[true, true, true, true, true, true, true, true, true, true, true, true, true, true, true] rfl rfl (by kernel_rfl) (fun _ _ _ h => h) (Or.inl ⟨by rfl, ?_⟩) ?_ ?_
  rotate_left
  · intro w'
    go_simp
    with_reducible rfl
  rotate_left
  · simp only [Act.put, List.setIfInBounds_toArray, List.set_cons_zero, List.set_cons_succ, i64_w, i32_w]
    rfl
  refine done_ (by kernel_rfl) ?_
  have Q1 := Lib.hid (Kd.Q_drew Q0.out)
  have B1 := Lib.hid B0.out.drew
  have K1 := Lib.hid K0.out.drew
  clear Q0 B0 K0 G0
  generalize (World.drew w) = Wd at *
  go_wp2
  go_ret
  exact ⟨_, rfl, v, ⟨cs, Gd.out, CC.out, Q1.out⟩, .inl rfl, Kd.R_nil _ _ _ _ _, K1.out, B1.out⟩
set_option maxHeartbeats 1600000 in
set_option maxRecDepth 100000 in
theorem tick_wait {w w0 : World} {g : Nat} {v : Value} {s : St} (hok : s.Ok) (h : OutR w w0.heap.size g v s) (hg : w0.heap.size ≤ g) (HB : Below w0.heap.size w0 w) (hn : s.sent ≠ s.line.from_) (hc : s.clock + 1 < s.patience) :
    Calls Try.prog 32 #[.pointer (some ⟨g, 0, none⟩)] w fun e w' => ∃ r, e = .returned r ∧ OutPost w w0 g v (s.setClock (s.clock + 1)) [] r w' := by
  obtain ⟨cs, G, C, Q⟩ := h
  have OK := Lib.hid hok
  have hl2 := hok.l2
  have hsl := hok.sl
  have hfs := hok.fs
  have hf0 := hok.f0
  have hw1 := hok.w1
  have hw2 := hok.w2
  have hc0 := hok.c0
  have hc1 := hok.c1
  have hp2 := hok.p2
  have hgw : g < w.heap.size := blk_lt G
  have hws : w0.heap.size ≤ w.heap.size := HB.size
  have HVL := Lib.hid (Kd.Q_lt Q)
  have CC := Lib.hid C
  have G0 := Lib.hid G
  have Q0 := Lib.hid Q
  have B0 := Lib.hid HB
  have K0 := Lib.hid (Kept.refl w (fun k => k = g ∨ some k = v.ownBlock))
  have Gd := Lib.hid (blk_drew G)
  have e1 : IntKind.i64.wrap (s.clock + 1) = s.clock + 1 := IntWalk.i64_in _ (by omega)
  have e2 : IntKind.i64.wrap (s.line.from_ + 1) = s.line.from_ + 1 := IntWalk.i64_in _ (by omega)
  clear G C Q HB hok
  have t1 : (s.sent == s.line.from_) = false := by simpa using hn
  have t2 : decide (s.clock + 1 < s.patience) = true := by simpa using hc
  have HNE := Lib.hid hn
  clear hn
  go_enter Try.func32, Try.ntmps32
  go_wp2_with fail
  refine start_ (n := 15) (S := fun w' => (w'.cell? ⟨g, 515, none⟩ = some (.int .i64 s.sent)) ∧ (w'.cell? ⟨g, 0, none⟩ = some (.int .i64 s.line.from_))) (ds := []) #[false, false, false, false, false, false, false, false, false, false, false, false, false, false, false] (by kernel_rfl) rfl rfl ⟨((blkc Gd.out 515).trans CC.out.sent), ((blkc Gd.out 0).trans CC.out.line.from_)⟩ (fun hHeld => ?_)
  refine pure_ (i := 0) (N := some 7) (v := ?_) (a' := ?_) #[true, false, false, false, false, false, false, false, false, false, false, false, false, false, false] rfl rfl (by kernel_rfl) (fun _ _ _ h => h) (Or.inl ⟨by rfl, ?_⟩) ?_ ?_
  rotate_left
  · intro w'
    go_simp
    with_reducible rfl
  rotate_left
  · simp only [Act.put, List.setIfInBounds_toArray, List.set_cons_zero, List.set_cons_succ, i64_w, i32_w]
    rfl
  refine one_ (i := 1) (N := some 8) #[true, true, false, false, false, false, false, false, false, false, false, false, false, false, false] rfl rfl (by kernel_rfl) (by decide) (fun K hK => ?_)
  refine goes_ Try.func40 (by kernel_rfl) rfl #[.pointer (some ⟨g, 0, none⟩)] (by rfl) rfl rfl (by simp only [List.map_toArray, List.map_cons, List.map_nil]; rfl) ?_
  with_reducible refine (is_any ((blkc Gd.out 514).trans (by rw [CC.out.line.made, OK.out.made]))).mono ?_
  rintro e w1 ⟨rfl, rfl⟩
  refine ⟨_, rfl, ?_⟩
  refine hK.out _ _ ⟨hHeld.1, hHeld.2⟩ (fun hHeld => ?_)
  clear hK K
  refine norm_ (a' := ?_) ?_ ?_
  rotate_left
  · show Act.put _ (some 8) _ = _
    simp only [Act.put, List.setIfInBounds_toArray, List.set_cons_zero, List.set_cons_succ, i64_w, i32_w]
    rfl
  refine pure_ (i := 2) (N := some 9) (v := ?_) (a' := ?_) #[true, true, true, false, false, false, false, false, false, false, false, false, false, false, false] rfl rfl (by kernel_rfl) (fun _ _ _ h => h) (Or.inl ⟨by rfl, ?_⟩) ?_ ?_
  rotate_left
  · intro w'
    go_simp
    with_reducible rfl
  rotate_left
  · simp only [Act.put, List.setIfInBounds_toArray, List.set_cons_zero, List.set_cons_succ, i64_w, i32_w]
    rfl
  refine pure_ (i := 3) (N := some 10) (v := ?_) (a' := ?_) #[true, true, true, true, false, false, false, false, false, false, false, false, false, false, false] rfl rfl (by kernel_rfl) (fun _ _ _ h => h) (Or.inl ⟨by rfl, ?_⟩) ?_ ?_
  rotate_left
  · intro w'
    go_simp
    with_reducible rfl
  rotate_left
  · simp only [Act.put, List.setIfInBounds_toArray, List.set_cons_zero, List.set_cons_succ, i64_w, i32_w]
    rfl
  refine pure_ (i := 4) (N := some 11) (v := ?_) (a' := ?_) #[true, true, true, true, true, false, false, false, false, false, false, false, false, false, false] rfl rfl (by kernel_rfl) (fun _ _ _ h => h) (Or.inl ⟨by rfl, ?_⟩) ?_ ?_
  rotate_left
  · intro w'
    go_simp
    with_reducible rfl
  rotate_left
  · simp only [Act.put, List.setIfInBounds_toArray, List.set_cons_zero, List.set_cons_succ, i64_w, i32_w]
    rfl
  refine pure_ (i := 5) (N := some 12) (v := ?_) (a' := ?_) #[true, true, true, true, true, true, false, false, false, false, false, false, false, false, false] rfl rfl (by kernel_rfl) (fun _ _ _ h => h) (Or.inl ⟨by rfl, ?_⟩) ?_ ?_
  rotate_left
  · intro w'
    go_simp
    with_reducible rfl
  rotate_left
  · simp only [Act.put, List.setIfInBounds_toArray, List.set_cons_zero, List.set_cons_succ, i64_w, i32_w]
    rfl
  refine pure_ (i := 6) (N := some 13) (v := ?_) (a' := ?_) #[true, true, true, true, true, true, true, false, false, false, false, false, false, false, false] rfl rfl (by kernel_rfl) (fun _ _ _ h => h) (Or.inl ⟨by rfl, ?_⟩) ?_ ?_
  rotate_left
  · intro w'
    go_simp
    with_reducible rfl
  rotate_left
  · simp only [Act.put, List.setIfInBounds_toArray, List.set_cons_zero, List.set_cons_succ, i64_w, i32_w]
    rfl
  refine pure_ (i := 8) (N := some 15) (v := ?_) (a' := ?_) #[true, true, true, true, true, true, true, false, true, false, false, false, false, false, false] rfl rfl (by kernel_rfl) (fun _ _ _ h => h) (Or.inl ⟨by rfl, ?_⟩) ?_ ?_
  rotate_left
  · intro w'
    go_simp
    with_reducible rfl
  rotate_left
  · simp only [Act.put, List.setIfInBounds_toArray, List.set_cons_zero, List.set_cons_succ, i64_w, i32_w]
    rfl
  refine pure_ (i := 9) (N := some 16) (v := ?_) (a' := ?_) #[true, true, true, true, true, true, true, false, true, true, false, false, false, false, false] rfl rfl (by kernel_rfl) (fun _ _ _ h => h) (Or.inl ⟨by rfl, ?_⟩) ?_ ?_
  rotate_left
  · intro w'
    go_simp
    with_reducible rfl
  rotate_left
  · simp only [Act.put, List.setIfInBounds_toArray, List.set_cons_zero, List.set_cons_succ, i64_w, i32_w]
    rfl
  refine pure_ (i := 10) (N := some 17) (v := ?_) (a' := ?_) #[true, true, true, true, true, true, true, false, true, true, true, false, false, false, false] rfl rfl (by kernel_rfl) (fun _ _ _ h => h) (Or.inl ⟨by rfl, ?_⟩) ?_ ?_
  rotate_left
  · intro w'
    go_simp
    with_reducible rfl
  rotate_left
  · simp only [Act.put, List.setIfInBounds_toArray, List.set_cons_zero, List.set_cons_succ, i64_w, i32_w]
    rfl
  refine pure_ (i := 11) (N := some 18) (v := ?_) (a' := ?_) #[true, true, true, true, true, true, true, false, true, true, true, true, false, false, false] rfl rfl (by kernel_rfl) (fun _ _ _ h => h) (Or.inl ⟨by rfl, ?_⟩) ?_ ?_
  rotate_left
  · intro w'
    go_simp
    with_reducible rfl
  rotate_left
  · simp only [Act.put, List.setIfInBounds_toArray, List.set_cons_zero, List.set_cons_succ, i64_w, i32_w]
    rfl
  refine take_ (i := 7) (N := some 14) (v := ?_) (a' := ?_) #[true, true, true, true, true, true, true, true, true, true, true, true, false, false, false] rfl rfl (by kernel_rfl) (fun _ _ _ h => h) (Or.inl ⟨by rfl, ?_⟩) hHeld ?_ ?_
  rotate_left
  · rintro w' ⟨s0, s1⟩
    go_simp
    with_reducible rfl
  rotate_left
  · simp only [Act.put, List.setIfInBounds_toArray, List.set_cons_zero, List.set_cons_succ, i64_w, i32_w]
    rfl
  refine take_ (i := 12) (N := some 19) (v := ?_) (a' := ?_) #[true, true, true, true, true, true, true, true, true, true, true, true, true, false, false] rfl rfl (by kernel_rfl) (fun _ _ _ h => h) (Or.inl ⟨by rfl, ?_⟩) hHeld ?_ ?_
  rotate_left
  · rintro w' ⟨s0, s1⟩
    go_simp
    with_reducible rfl
  rotate_left
  · simp only [Act.put, List.setIfInBounds_toArray, List.set_cons_zero, List.set_cons_succ, i64_w, i32_w]
    rfl
  refine pure_ (i := 13) (N := some 20) (v := ?_) (a' := ?_) #[true, true, true, true, true, true, true, true, true, true, true, true, true, true, false] rfl rfl (by kernel_rfl) (fun _ _ _ h => h) (Or.inl ⟨by rfl, ?_⟩) ?_ ?_
  rotate_left
  · intro w'
    go_simp
    with_reducible rfl
  rotate_left
  · simp only [Act.put, List.setIfInBounds_toArray, List.set_cons_zero, List.set_cons_succ, i64_w, i32_w]
    rfl
  refine pure_ (i := 14) (N := some 21) (v := ?_) (a' := ?_) #[true, true, true, true, true, true, true, true, true, true, true, true, true, true, true] rfl rfl (by kernel_rfl) (fun _ _ _ h => h) (Or.inl ⟨by rfl, ?_⟩) ?_ ?_
  rotate_left
  · intro w'
    go_simp
    with_reducible rfl
  rotate_left
  · simp only [Act.put, List.setIfInBounds_toArray, List.set_cons_zero, List.set_cons_succ, i64_w, i32_w]
    rfl
  refine done_ (by kernel_rfl) ?_
  have Q1 := Lib.hid (Kd.Q_drew Q0.out)
  have B1 := Lib.hid B0.out.drew
  have K1 := Lib.hid K0.out.drew
  clear Q0 B0 K0 G0
  generalize (World.drew w) = Wd at *
  have c518 := (blkc Gd.out 518).trans CC.out.clock
  have z518 := blkz Gd.out 518
  have Gn := Lib.hid (blk_set Gd.out 518 (.int .i64 (s.clock + 1)))
  have Qn := Lib.hid (Kd.Q_set Q1.out Gd.out hUO 518 (.int .i64 (s.clock + 1)))
  have Bn := Lib.hid (below_set (g := g) (j := 518) (v := .int .i64 (s.clock + 1)) B1.out hg)
  have Kn := Lib.hid (K1.out.setCell (p := ⟨g, 518, none⟩) (.inl (.inl rfl)) (.int .i64 (s.clock + 1)))
  have Cn := Lib.hid (CC.out.set_clock (s.clock + 1))
  have c518n := (blkc Gn.out 518).trans Cn.out.clock
  have c519n := (blkc Gn.out 519).trans Cn.out.patience
  simp only [St.setClock] at c518n c519n
  go_wp2_with fail
  go_quiet (fail)
  go_wp2
  go_ret
  exact ⟨_, rfl, v, ⟨_, Gn.out, Cn.out, Kd.Q_drewN (Kd.Q_mono Qn.out (fun _ _ => trivial)) _⟩, .inl rfl, Kd.R_nil _ _ _ _ _, Kn.out.drewN _, pw_below_drewN Bn.out _⟩
set_option maxHeartbeats 1600000 in
set_option maxRecDepth 100000 in
theorem tick_again {w w0 : World} {g : Nat} {v : Value} {s : St} (hok : s.Ok) (h : OutR w w0.heap.size g v s) (hg : w0.heap.size ≤ g) (HB : Below w0.heap.size w0 w) (hn : s.sent ≠ s.line.from_) (hc : ¬ s.clock + 1 < s.patience) :
    Calls Try.prog 32 #[.pointer (some ⟨g, 0, none⟩)] w fun e w' => ∃ r, e = .returned r ∧ OutPost w w0 g v (s.setClock 0) s.under r w' := by
  obtain ⟨cs, G, C, Q⟩ := h
  have OK := Lib.hid hok
  have hl2 := hok.l2
  have hsl := hok.sl
  have hfs := hok.fs
  have hf0 := hok.f0
  have hw1 := hok.w1
  have hw2 := hok.w2
  have hc0 := hok.c0
  have hc1 := hok.c1
  have hp2 := hok.p2
  have hgw : g < w.heap.size := blk_lt G
  have hws : w0.heap.size ≤ w.heap.size := HB.size
  have HVL := Lib.hid (Kd.Q_lt Q)
  have CC := Lib.hid C
  have G0 := Lib.hid G
  have Q0 := Lib.hid Q
  have B0 := Lib.hid HB
  have K0 := Lib.hid (Kept.refl w (fun k => k = g ∨ some k = v.ownBlock))
  have Gd := Lib.hid (blk_drew G)
  have e1 : IntKind.i64.wrap (s.clock + 1) = s.clock + 1 := IntWalk.i64_in _ (by omega)
  have e2 : IntKind.i64.wrap (s.line.from_ + 1) = s.line.from_ + 1 := IntWalk.i64_in _ (by omega)
  clear G C Q HB hok
  have t1 : (s.sent == s.line.from_) = false := by simpa using hn
  have t2 : decide (s.clock + 1 < s.patience) = false := by simpa using hc
  have HNE := Lib.hid hn
  clear hn
  go_enter Try.func32, Try.ntmps32
  go_wp2_with fail
  refine start_ (n := 15) (S := fun w' => (w'.cell? ⟨g, 515, none⟩ = some (.int .i64 s.sent)) ∧ (w'.cell? ⟨g, 0, none⟩ = some (.int .i64 s.line.from_))) (ds := []) #[false, false, false, false, false, false, false, false, false, false, false, false, false, false, false] (by kernel_rfl) rfl rfl ⟨((blkc Gd.out 515).trans CC.out.sent), ((blkc Gd.out 0).trans CC.out.line.from_)⟩ (fun hHeld => ?_)
  refine pure_ (i := 0) (N := some 7) (v := ?_) (a' := ?_) #[true, false, false, false, false, false, false, false, false, false, false, false, false, false, false] rfl rfl (by kernel_rfl) (fun _ _ _ h => h) (Or.inl ⟨by rfl, ?_⟩) ?_ ?_
  rotate_left
  · intro w'
    go_simp
    with_reducible rfl
  rotate_left
  · simp only [Act.put, List.setIfInBounds_toArray, List.set_cons_zero, List.set_cons_succ, i64_w, i32_w]
    rfl
  refine one_ (i := 1) (N := some 8) #[true, true, false, false, false, false, false, false, false, false, false, false, false, false, false] rfl rfl (by kernel_rfl) (by decide) (fun K hK => ?_)
  refine goes_ Try.func40 (by kernel_rfl) rfl #[.pointer (some ⟨g, 0, none⟩)] (by rfl) rfl rfl (by simp only [List.map_toArray, List.map_cons, List.map_nil]; rfl) ?_
  with_reducible refine (is_any ((blkc Gd.out 514).trans (by rw [CC.out.line.made, OK.out.made]))).mono ?_
  rintro e w1 ⟨rfl, rfl⟩
  refine ⟨_, rfl, ?_⟩
  refine hK.out _ _ ⟨hHeld.1, hHeld.2⟩ (fun hHeld => ?_)
  clear hK K
  refine norm_ (a' := ?_) ?_ ?_
  rotate_left
  · show Act.put _ (some 8) _ = _
    simp only [Act.put, List.setIfInBounds_toArray, List.set_cons_zero, List.set_cons_succ, i64_w, i32_w]
    rfl
  refine pure_ (i := 2) (N := some 9) (v := ?_) (a' := ?_) #[true, true, true, false, false, false, false, false, false, false, false, false, false, false, false] rfl rfl (by kernel_rfl) (fun _ _ _ h => h) (Or.inl ⟨by rfl, ?_⟩) ?_ ?_
  rotate_left
  · intro w'
    go_simp
    with_reducible rfl
  rotate_left
  · simp only [Act.put, List.setIfInBounds_toArray, List.set_cons_zero, List.set_cons_succ, i64_w, i32_w]
    rfl
  refine pure_ (i := 3) (N := some 10) (v := ?_) (a' := ?_) #[true, true, true, true, false, false, false, false, false, false, false, false, false, false, false] rfl rfl (by kernel_rfl) (fun _ _ _ h => h) (Or.inl ⟨by rfl, ?_⟩) ?_ ?_
  rotate_left
  · intro w'
    go_simp
    with_reducible rfl
  rotate_left
  · simp only [Act.put, List.setIfInBounds_toArray, List.set_cons_zero, List.set_cons_succ, i64_w, i32_w]
    rfl
  refine pure_ (i := 4) (N := some 11) (v := ?_) (a' := ?_) #[true, true, true, true, true, false, false, false, false, false, false, false, false, false, false] rfl rfl (by kernel_rfl) (fun _ _ _ h => h) (Or.inl ⟨by rfl, ?_⟩) ?_ ?_
  rotate_left
  · intro w'
    go_simp
    with_reducible rfl
  rotate_left
  · simp only [Act.put, List.setIfInBounds_toArray, List.set_cons_zero, List.set_cons_succ, i64_w, i32_w]
    rfl
  refine pure_ (i := 5) (N := some 12) (v := ?_) (a' := ?_) #[true, true, true, true, true, true, false, false, false, false, false, false, false, false, false] rfl rfl (by kernel_rfl) (fun _ _ _ h => h) (Or.inl ⟨by rfl, ?_⟩) ?_ ?_
  rotate_left
  · intro w'
    go_simp
    with_reducible rfl
  rotate_left
  · simp only [Act.put, List.setIfInBounds_toArray, List.set_cons_zero, List.set_cons_succ, i64_w, i32_w]
    rfl
  refine pure_ (i := 6) (N := some 13) (v := ?_) (a' := ?_) #[true, true, true, true, true, true, true, false, false, false, false, false, false, false, false] rfl rfl (by kernel_rfl) (fun _ _ _ h => h) (Or.inl ⟨by rfl, ?_⟩) ?_ ?_
  rotate_left
  · intro w'
    go_simp
    with_reducible rfl
  rotate_left
  · simp only [Act.put, List.setIfInBounds_toArray, List.set_cons_zero, List.set_cons_succ, i64_w, i32_w]
    rfl
  refine pure_ (i := 8) (N := some 15) (v := ?_) (a' := ?_) #[true, true, true, true, true, true, true, false, true, false, false, false, false, false, false] rfl rfl (by kernel_rfl) (fun _ _ _ h => h) (Or.inl ⟨by rfl, ?_⟩) ?_ ?_
  rotate_left
  · intro w'
    go_simp
    with_reducible rfl
  rotate_left
  · simp only [Act.put, List.setIfInBounds_toArray, List.set_cons_zero, List.set_cons_succ, i64_w, i32_w]
    rfl
  refine pure_ (i := 9) (N := some 16) (v := ?_) (a' := ?_) #[true, true, true, true, true, true, true, false, true, true, false, false, false, false, false] rfl rfl (by kernel_rfl) (fun _ _ _ h => h) (Or.inl ⟨by rfl, ?_⟩) ?_ ?_
  rotate_left
  · intro w'
    go_simp
    with_reducible rfl
  rotate_left
  · simp only [Act.put, List.setIfInBounds_toArray, List.set_cons_zero, List.set_cons_succ, i64_w, i32_w]
    rfl
  refine pure_ (i := 10) (N := some 17) (v := ?_) (a' := ?_) #[true, true, true, true, true, true, true, false, true, true, true, false, false, false, false] rfl rfl (by kernel_rfl) (fun _ _ _ h => h) (Or.inl ⟨by rfl, ?_⟩) ?_ ?_
  rotate_left
  · intro w'
    go_simp
    with_reducible rfl
  rotate_left
  · simp only [Act.put, List.setIfInBounds_toArray, List.set_cons_zero, List.set_cons_succ, i64_w, i32_w]
    rfl
  refine pure_ (i := 11) (N := some 18) (v := ?_) (a' := ?_) #[true, true, true, true, true, true, true, false, true, true, true, true, false, false, false] rfl rfl (by kernel_rfl) (fun _ _ _ h => h) (Or.inl ⟨by rfl, ?_⟩) ?_ ?_
  rotate_left
  · intro w'
    go_simp
    with_reducible rfl
  rotate_left
  · simp only [Act.put, List.setIfInBounds_toArray, List.set_cons_zero, List.set_cons_succ, i64_w, i32_w]
    rfl
  refine take_ (i := 7) (N := some 14) (v := ?_) (a' := ?_) #[true, true, true, true, true, true, true, true, true, true, true, true, false, false, false] rfl rfl (by kernel_rfl) (fun _ _ _ h => h) (Or.inl ⟨by rfl, ?_⟩) hHeld ?_ ?_
  rotate_left
  · rintro w' ⟨s0, s1⟩
    go_simp
    with_reducible rfl
  rotate_left
  · simp only [Act.put, List.setIfInBounds_toArray, List.set_cons_zero, List.set_cons_succ, i64_w, i32_w]
    rfl
  refine take_ (i := 12) (N := some 19) (v := ?_) (a' := ?_) #[true, true, true, true, true, true, true, true, true, true, true, true, true, false, false] rfl rfl (by kernel_rfl) (fun _ _ _ h => h) (Or.inl ⟨by rfl, ?_⟩) hHeld ?_ ?_
  rotate_left
  · rintro w' ⟨s0, s1⟩
    go_simp
    with_reducible rfl
  rotate_left
  · simp only [Act.put, List.setIfInBounds_toArray, List.set_cons_zero, List.set_cons_succ, i64_w, i32_w]
    rfl
  refine pure_ (i := 13) (N := some 20) (v := ?_) (a' := ?_) #[true, true, true, true, true, true, true, true, true, true, true, true, true, true, false] rfl rfl (by kernel_rfl) (fun _ _ _ h => h) (Or.inl ⟨by rfl, ?_⟩) ?_ ?_
  rotate_left
  · intro w'
    go_simp
    with_reducible rfl
  rotate_left
  · simp only [Act.put, List.setIfInBounds_toArray, List.set_cons_zero, List.set_cons_succ, i64_w, i32_w]
    rfl
  refine pure_ (i := 14) (N := some 21) (v := ?_) (a' := ?_) #[true, true, true, true, true, true, true, true, true, true, true, true, true, true, true] rfl rfl (by kernel_rfl) (fun _ _ _ h => h) (Or.inl ⟨by rfl, ?_⟩) ?_ ?_
  rotate_left
  · intro w'
    go_simp
    with_reducible rfl
  rotate_left
  · simp only [Act.put, List.setIfInBounds_toArray, List.set_cons_zero, List.set_cons_succ, i64_w, i32_w]
    rfl
  refine done_ (by kernel_rfl) ?_
  have Q1 := Lib.hid (Kd.Q_drew Q0.out)
  have B1 := Lib.hid B0.out.drew
  have K1 := Lib.hid K0.out.drew
  clear Q0 B0 K0 G0
  generalize (World.drew w) = Wd at *
  have c518 := (blkc Gd.out 518).trans CC.out.clock
  have z518 := blkz Gd.out 518
  have Gn := Lib.hid (blk_set Gd.out 518 (.int .i64 (s.clock + 1)))
  have Qn := Lib.hid (Kd.Q_set Q1.out Gd.out hUO 518 (.int .i64 (s.clock + 1)))
  have Bn := Lib.hid (below_set (g := g) (j := 518) (v := .int .i64 (s.clock + 1)) B1.out hg)
  have Kn := Lib.hid (K1.out.setCell (p := ⟨g, 518, none⟩) (.inl (.inl rfl)) (.int .i64 (s.clock + 1)))
  have Cn := Lib.hid (CC.out.set_clock (s.clock + 1))
  have c518n := (blkc Gn.out 518).trans Cn.out.clock
  have c519n := (blkc Gn.out 519).trans Cn.out.patience
  simp only [St.setClock] at c518n c519n
  go_wp2_with fail
  go_quiet (fail)
  clear Q1 B1 K1
  generalize hW1 : (World.drewN (Wd.setCell ⟨g, 518, none⟩ (.int .i64 (s.clock + 1))) nq) = W1 at *
  have G1 := Lib.hid (show W1.heap[g]? = some (.cells (cs.setIfInBounds 518 (.int .i64 (s.clock + 1))) tOut (0, 0)) from by rw [← hW1]; exact Gn.out)
  have Q1 := Lib.hid (show kU.Q tU W1 w0.heap.size (fun _ => True) v s.wait from by rw [← hW1]; exact Kd.Q_mono (Kd.Q_drewN Qn.out _) (fun _ _ => trivial))
  have B1 := Lib.hid (show Below w0.heap.size w0 W1 from by rw [← hW1]; exact pw_below_drewN Bn.out _)
  have K1 := Lib.hid (show Kept w W1 (fun k => k = g ∨ some k = v.ownBlock) from by rw [← hW1]; exact Kn.out.drewN _)
  clear hW1 c518n c519n c518 z518 Gn Qn Bn Kn Gd
  have z2 := blkz G1.out 518
  have c518b := (blkc G1.out 518).trans Cn.out.clock
  have c0 := (blkc G1.out 0).trans Cn.out.line.from_
  have G2 := Lib.hid (blk_set G1.out 518 (.int .i64 0))
  have Q2 := Lib.hid (Kd.Q_set Q1.out G1.out hUO 518 (.int .i64 0))
  have B2 := Lib.hid (below_set (g := g) (j := 518) (v := .int .i64 0) B1.out hg)
  have K2 := Lib.hid (K1.out.setCell (p := ⟨g, 518, none⟩) (.inl (.inl rfl)) (.int .i64 0))
  have C2 := Lib.hid (show OutC _ v (s.setClock 0) from Cn.out.set_clock 0)
  simp only [St.setClock] at c0 c518b
  go_wp2_with fail
  clear z2 c0 c518b G1 Q1 B1 K1 Cn
  generalize (World.setCell _ _ _) = W2 at *
  generalize hcs : ((cs.setIfInBounds 518 (.int .i64 (s.clock + 1))).setIfInBounds 518 (.int .i64 0)) = cs2 at *
  clear hcs
  generalize hN : (s.sent - s.line.from_).toNat = N at *
  have hNN : (N : Int) = s.sent - s.line.from_ := by omega
  have HNN := Lib.hid hN
  have hN64 : N ≤ 64 := by have := OK.out.sw; omega
  have HN3 := Lib.hid hNN
  clear hN hNN
  go_loopg [4, 3] N (fun kq v4 v3 w' => ∃ (j : Nat), v4 = .int .i64 (s.line.from_ + 1 + (j : Int)) ∧ Hid (j + kq = N) ∧ Hid (w'.heap[g]? = some (.cells cs2 tOut (0, 0))) ∧ Hid (kU.Q tU w' w0.heap.size (fun _ => True) v s.wait) ∧ Hid (kU.R tU w' w.heap.size (fun _ => True) v3 (s.under.take j)) ∧ Hid (Below w0.heap.size w0 w') ∧ Hid (Kept w w' (fun k => k = g ∨ some k = v.ownBlock)))
  case atStart => exact ⟨0, by simp, (show _ + _ = _ by omega), G2.out, Kd.Q_mono Q2.out (fun _ _ => trivial), Kd.R_nil _ _ _ _ _, B2.out, K2.out⟩
  case round =>
    clear G2 Q2 B2 K2
    obtain ⟨j, rfl, HJ, G2, Q2, R2, B2, K2⟩ := hrel
    have c515 := (blkc G2.out 515).trans C2.out.sent
    simp only [St.setClock] at c515
    cases gk with
    | zero =>
      have hj : j = N := HJ.out
      have t3 : decide (s.line.from_ + 1 + (j : Int) ≤ s.sent) = false := by have := HN3.out; simp; omega
      have HTK : Hid (s.under.take j = s.under) := Lib.hid (List.take_of_length_le (by rw [under_len, HNN.out]; omega))
      clear hj
      go_wp2_with fail
      go_ret
      refine ⟨_, rfl, v, ⟨cs2, G2.out, C2.out, Q2.out⟩, .inl rfl, ?_, K2.out, B2.out⟩
      rw [HTK.out] at R2
      exact R_ok R2.out (fun k hk e => by
        have h1 := Kd.R_base R2.out k hk
        have h2 := HVL.out k e.symm
        omega)
    | succ k1 =>
      have hj : j < N := by have := HJ.out; omega
      have t3 : decide (s.line.from_ + 1 + (j : Int) ≤ s.sent) = true := by have := HN3.out; simp; omega
      have e3 : IntKind.i64.wrap (s.line.from_ + 1 + (j : Int) + 1) = s.line.from_ + 1 + ((j + 1 : Nat) : Int) := by rw [IntWalk.i64_in _ (by have := HN3.out; omega)]; omega
      have hu := under_get s (i := j) (by rw [HNN.out]; exact hj)
      have HTK : Hid (s.under.take (j + 1) = s.under.take j ++ [s.line.held (s.line.key (s.line.from_ + 1 + (j : Int)))]) := Lib.hid (by rw [List.take_add_one, hu]; rfl)
      have hlj : (s.under.take j).length ≤ 64 := by rw [List.length_take]; omega
      clear hu
      go_wp2_with fail
      refine (at_has (l := s.line) (s.line.from_ + 1 + (j : Int)) _ rfl G2.out (show LineR cs2 s.line from C2.out.line) hw1 hw2 (by omega)).mono ?_
      rintro e w3 ⟨rfl, hb3⟩
      generalize s.line.held (s.line.key (s.line.from_ + 1 + (j : Int))) = u at *
      generalize s.line.has (s.line.from_ + 1 + (j : Int)) = bh at *
      have G4 := Lib.hid (blk_below (blk_below G2.out hb3) (below_alloc (Below.refl _ _) (.cells #[.int .i64 u.seq, .int .i64 u.client, .int .i64 u.number, .int .i64 u.kind, .string u.key, .string u.value, .int .i64 u.version] tU)))
      have Q4 := Lib.hid (Kd.Q_alloc (Kd.Q_below Q2.out hb3) (.cells #[.int .i64 u.seq, .int .i64 u.client, .int .i64 u.number, .int .i64 u.kind, .string u.key, .string u.value, .int .i64 u.version] tU))
      have R4 := Lib.hid (Kd.R_alloc (Kd.R_below R2.out hb3) (.cells #[.int .i64 u.seq, .int .i64 u.client, .int .i64 u.number, .int .i64 u.kind, .string u.key, .string u.value, .int .i64 u.version] tU))
      have B4 := Lib.hid (below_alloc (below_then B2.out B2.out.size hb3) (.cells #[.int .i64 u.seq, .int .i64 u.client, .int .i64 u.number, .int .i64 u.kind, .string u.key, .string u.value, .int .i64 u.version] tU))
      have K4 := Lib.hid ((K2.out.below hb3).alloc (.cells #[.int .i64 u.seq, .int .i64 u.client, .int .i64 u.number, .int .i64 u.kind, .string u.key, .string u.value, .int .i64 u.version] tU))
      have P4 := Lib.hid (blk_new w3 (.cells #[.int .i64 u.seq, .int .i64 u.client, .int .i64 u.number, .int .i64 u.kind, .string u.key, .string u.value, .int .i64 u.version] tU))
      have cp4 := blkc P4.out
      clear hb3 G2 Q2 R2 B2 K2 c515
      go_wp2_with ((at_builtin; refine Kd.R_append kU (w0 := _) w.heap.size rfl (.tmp 63) (.tmp 65) 24 tU (.agg #[.int .i64 0, .int .i64 0, .int .i64 0, .int .i64 0, .string ⟨#[]⟩, .string ⟨#[]⟩, .int .i64 0]) 72 rfl Try.underlying24 info_U rfl (by decide) (by decide) u3 (s.under.take j) u [.int .i64 u.seq, .int .i64 u.client, .int .i64 u.number, .int .i64 u.kind, .string u.key, .string u.value, .int .i64 u.version] (fun _ => True) (fun _ => False) rfl (by rw [show (World.alloc w3 (.cells #[.int .i64 u.seq, .int .i64 u.client, .int .i64 u.number, .int .i64 u.kind, .string u.key, .string u.value, .int .i64 u.version] tU)).heap.size = w3.heap.size + 1 from by simp]; rfl) rfl (fun _ h => h.elim) (fun _ _ => trivial) R4.out (Below.refl _ _) K4.out.1 (by omega) ?_); intro v7 w7 hr7 hb7 hg7 hat7)
      have hbase : ∀ k, u3.ownBlock = some k → w.heap.size ≤ k := Kd.R_base R4.out
      have G7 := Lib.hid (blk_grown G4.out hg7 (fun e => by have := hbase g e.symm; omega))
      have B7 := Lib.hid (pw_below_grown B4.out _ B4.out.size hg7 (fun k e => by have := hbase k e; omega))
      have K7 := Lib.hid (Kept.of_grown hg7 K4.out (fun k e => .inr (hbase k e)))
      have Q7 := Lib.hid (Kd.Q_grown (Q_ok (ok' := fun k => k < w.heap.size) Q4.out HVL.out) hg7 (fun k hk e => by have := hbase k e.symm; omega))
      have R7 := Lib.hid hr7
      go_wp2_with fail
      go_roundg k1
      case measure => exact Nat.lt_succ_self _
      case rel =>
        refine ⟨j + 1, by rfl, Lib.hid (by have := HJ.out; omega), G7.out, ?_, ?_, B7.out, K7.out⟩
        · exact Lib.hid (Kd.Q_mono Q7.out (fun _ _ => trivial))
        · rw [HTK.out]
          exact R7.out
set_option maxHeartbeats 1600000 in
set_option maxRecDepth 100000 in
theorem tick_any {w w0 : World} {g : Nat} {v : Value} {s : St} (hok : s.Ok) (h : OutR w w0.heap.size g v s) (hg : w0.heap.size ≤ g) (HB : Below w0.heap.size w0 w)  :
    Calls Try.prog 32 #[.pointer (some ⟨g, 0, none⟩)] w fun e w' => ∃ r, e = .returned r ∧ OutPost w w0 g v s.tick.1 s.tick.2 r w' := by
  unfold St.tick
  by_cases h1 : s.sent = s.line.from_
  · rw [if_pos h1]
    exact (by have H := tick_no hok h hg HB h1; exact H)
  · rw [if_neg h1]
    by_cases h2 : s.clock + 1 < s.patience
    · rw [if_pos h2]
      exact (by have H := tick_wait hok h hg HB h1 h2; exact H)
    · rw [if_neg h2]
      exact (by have H := tick_again hok h hg HB h1 h2; exact H)
end Go.Proofs.Ytofmgijdeeikeaa.Hop
