/- What is sent on. -/
import Derived.Test.YtofmgijdeeikeaaHopSt
import Derived.Deep.LoopGhost
import Derived.Outline
set_option linter.unusedVariables false
set_option linter.unusedSimpArgs false
namespace Go.Proofs.Ytofmgijdeeikeaa.Hop
open Go.RowKit Go.Proofs.Ytofmgijdeeikeaa.Mem Go.Proofs.YtofmgijdeeikeaaW.PrintWords Go.Proofs.YtofmgijdeeikeaaW.PrintLast Go.Deep
theorem info_U : (Try.prog.info? 37).map (fun i => (i.zero, i.size, i.bytes)) = some (some (.agg #[.int .i64 0, .int .i64 0, .int .i64 0, .int .i64 0, .string ⟨#[]⟩, .string ⟨#[]⟩, .int .i64 0]), kU.sz, 72) := by kernel_rfl
/-- The update is kept in its place. -/
def L.put (l : L) (u : U) : L := l.set (u.seq.tmod l.window).toNat u true
theorem L.put_window (l : L) (u : U) : (l.put u).window = l.window := rfl
theorem L.put_from (l : L) (u : U) : (l.put u).from_ = l.from_ := rfl
theorem L.put_made (l : L) (u : U) : (l.put u).made = l.made := rfl
def L.puts (l : L) (us : List U) : L := us.foldl L.put l
theorem L.puts_window (us : List U) : ∀ l : L, (l.puts us).window = l.window := by
  induction us with
  | nil => exact fun _ => rfl
  | cons u r ih => exact fun l => ih (l.put u)
theorem L.puts_from (us : List U) : ∀ l : L, (l.puts us).from_ = l.from_ := by
  induction us with
  | nil => exact fun _ => rfl
  | cons u r ih => exact fun l => ih (l.put u)
theorem L.puts_made (us : List U) : ∀ l : L, (l.puts us).made = l.made := by
  induction us with
  | nil => exact fun _ => rfl
  | cons u r ih => exact fun l => ih (l.put u)
theorem L.puts_snoc (l : L) (us : List U) (u : U) : l.puts (us ++ [u]) = (l.puts us).put u := by simp [L.puts, List.foldl_append]
/-- A nearer end as it may be. -/
structure St.Ok (s : St) : Prop where
  made : s.line.made = true
  w1 : 1 ≤ s.line.window
  w2 : s.line.window ≤ 64
  f0 : 0 ≤ s.line.from_
  fs : s.line.from_ ≤ s.sent
  sw : s.sent ≤ s.line.from_ + s.line.window
  sl : s.sent ≤ s.last
  l2 : s.last ≤ 2305843009213693952
  len : (s.wait.length : Int) = s.last - s.sent
  num : ∀ (i : Nat) (u : U), s.wait[i]? = some u → u.seq = s.sent + 1 + i
  c0 : 0 ≤ s.clock
  c1 : s.clock < s.patience
  p1 : 1 ≤ s.patience
  p2 : s.patience ≤ 100
/-- How many go on. -/
def St.n (s : St) : Nat := min s.wait.length (s.line.from_ + s.line.window - s.sent).toNat
/-- j of them have gone on. -/
def St.go (s : St) (j : Nat) : St := { s with line := s.line.puts (s.wait.take j), sent := s.sent + j, wait := s.wait.drop j }
def St.on (s : St) : St := s.go s.n
def St.onL (s : St) : List U := s.wait.take s.n
theorem Q_first {w : World} {base : Nat} {ok : Nat → Prop} {v : Value} {x : U} {xs : List U} (h : kU.Q tU w base ok v (x :: xs)) : ∃ q o c, v = .slice (some ⟨q, o, none⟩) (xs.length + 1) c ∧ xs.length + 1 ≤ c ∧ xs.length + 1 ≤ 9223372036854775807 ∧ w.rangeAt q o x.cells ∧ ∃ cells, w.heap[q]? = some (.cells cells tU (0, 0)) := by
  have h' := h
  obtain ⟨_, inner, ho, hr⟩ := h
  have hmax := q_max ho
  rcases ho.2 with ⟨h0, _⟩ | ⟨q, off, cap, cur, rfl, hg, hh, hnc, _⟩
  · simp at h0
  · refine ⟨q, off * kU.sz, cap, rfl, by simpa using hnc, by simpa using hmax, ?_, cur, hh⟩
    obtain ⟨_, _, hC⟩ := Kd.Q_reads' h'
    obtain ⟨ad, c, ha, hcl, hK, hcell⟩ := Kd.C_get hC x 0 (by omega) (by simp)
    cases ha
    intro j u hj
    have hK' : c = x.cells := by simpa [kU] using hK
    subst hK'
    have := hcell j u hj
    simpa [add_at] using this
theorem hUO : ∀ q, q ∈ tU :: kU.E → q ≠ tOut := by
  intro q hq
  simp only [kU, List.mem_cons, List.not_mem_nil, or_false] at hq
  subst hq
  decide
theorem hUI : ∀ q, q ∈ tU :: kU.E → q ≠ tIn := by
  intro q hq
  simp only [kU, List.mem_cons, List.not_mem_nil, or_false] at hq
  subst hq
  decide
theorem Q_cut {w : World} {base : Nat} {ok : Nat → Prop} {x : U} {xs : List U} {A : Option Addr} {n c : Nat} (h : kU.Q tU w base ok (.slice A n c) (x :: xs)) : ∃ v2, (∀ W : World, (Instr.slice 24 (.slice A n c) (some (.int .i64 1)) none none).run Try.prog W = .ok v2 W) ∧ kU.Q tU w base ok v2 xs ∧ v2.ownBlock = (Value.slice A n c).ownBlock := by
  obtain ⟨i, hi, hz⟩ := Option.map_eq_some_iff.1 info_U
  simp only [Prod.mk.injEq] at hz
  obtain ⟨hn, hc, _⟩ := Kd.Q_reads' h
  refine ⟨_, cut_from (P := Try.prog) 24 tU .i64 Try.underlying24 hi kU.sz hz.2.1 A n c 1 (by omega) (by simp at hn; omega), ?_, ?_⟩
  · exact Kd.Q_drop (k := 1) h (by simp)
  · split
    · cases A <;> rfl
    · cases A with
      | none => rfl
      | some a => simp [Value.ownBlock]; unfold Addr.add; split <;> rfl
theorem rangeAt_drewN {w : World} {b o : Nat} {cs : List Value} (h : w.rangeAt b o cs) (n : Nat) : (w.drewN n).rangeAt b o cs := fun j v hv => h j v hv
theorem St.go_succ (s : St) (j : Nat) (u : U) (h : s.wait[j]? = some u) : s.go (j + 1) = { s.go j with line := (s.go j).line.put u, sent := (s.go j).sent + 1, wait := s.wait.drop (j + 1) } := by
  have : s.wait.take (j + 1) = s.wait.take j ++ [u] := by rw [List.take_add_one, h]; rfl
  simp only [St.go, this, L.puts_snoc, Int.natCast_add, Int.natCast_one, Int.add_assoc]
/-- The cells behind a round. -/
def rcs (cs : Array Value) (v2 : Value) (k : Nat) (u : U) (x : Int) : Array Value := ((lay (cs.setIfInBounds 517 v2) (2 + k * 7) u).setIfInBounds (450 + k) (.bool true)).setIfInBounds 515 (.int .i64 x)
theorem OutC.round {cs : Array Value} {v : Value} {s : St} {j : Nat} {u : U} (h : OutC cs v (s.go j)) (v2 : Value) (hu : s.wait[j]? = some u) {k : Nat} (hk : k < 64) (hku : u.seq.tmod s.line.window = (k : Int)) : OutC (rcs cs v2 k u (s.sent + (j : Int) + 1)) v2 (s.go (j + 1)) := by
  have h1 := (((h.set_wait v2 (s.wait.drop (j + 1))).put hk u true).set_sent (s.sent + (j : Int) + 1))
  rw [St.go_succ s j u hu]
  have e : L.set (s.go j).line k u true = (s.go j).line.put u := by
    unfold L.put
    rw [show (s.go j).line.window = s.line.window from L.puts_window _ _, hku, Int.toNat_natCast]
  rw [show (St.setWait (s.go j) (s.wait.drop (j + 1))).line = (s.go j).line from rfl, e] at h1
  exact h1
theorem Kept.blk_ne {W : World} {g g' : Nat} {o : Obj} (h : W.heap[g']? = some o) {W' : World} (hk : Kept W W' (fun i => i = g)) (hne : g' ≠ g) : W'.heap[g']? = some o := blk_kept h hk hne
set_option maxHeartbeats 1600000 in
set_option maxRecDepth 100000 in
theorem on_any {w w0 : World} {g : Nat} {v : Value} {s : St} (hok : s.Ok) (h : OutR w w0.heap.size g v s) (hg : w0.heap.size ≤ g) (hlen : s.wait.length ≤ 1649267441664) (HB : Below w0.heap.size w0 w) :
    Calls Try.prog 41 #[.pointer (some ⟨g, 0, none⟩)] w fun e w' => ∃ v' r, e = .returned r ∧ OutR w' w0.heap.size g v' s.on ∧ v'.ownBlock = v.ownBlock ∧ kU.R tU w' w.heap.size (fun _ => True) r s.onL ∧ Kept w w' (fun k => k = g) ∧ Below w0.heap.size w0 w' := by
  have OK := Lib.hid hok
  have hw1 := hok.w1
  have hw2 := hok.w2
  have hf0 := hok.f0
  have hfs := hok.fs
  have hsw := hok.sw
  have hsl := hok.sl
  have hl2 := hok.l2
  have HWL := Lib.hid hok.len
  have hn1 : s.n ≤ s.wait.length := Nat.min_le_left _ _
  have hn2 : s.n ≤ (s.line.from_ + s.line.window - s.sent).toNat := Nat.min_le_right _ _
  have HN3 := Lib.hid (show s.n = s.wait.length ∨ s.n = (s.line.from_ + s.line.window - s.sent).toNat by unfold St.n; omega)
  obtain ⟨cs0, hb0, hc0, hq0⟩ := h
  have G0 := Lib.hid hb0
  have C0 := Lib.hid hc0
  have Q0 := Lib.hid hq0
  have B0 := Lib.hid HB
  have hgw : g < w.heap.size := blk_lt hb0
  have hws : w0.heap.size ≤ w.heap.size := HB.size
  clear hb0 hc0 hq0 HB hok
  go_enter Try.func41, Try.ntmps41
  go_wp2
  go_loopg [3] s.n (fun kq v3 w' => ∃ (j : Nat) (cs : Array Value) (vw : Value), Hid (j + kq = s.n) ∧ Hid (w'.heap[g]? = some (.cells cs tOut (0, 0))) ∧ Hid (OutC cs vw (s.go j)) ∧ Hid (vw.ownBlock = v.ownBlock) ∧ Hid (kU.Q tU w' w0.heap.size (fun k => k < w.heap.size) vw (s.wait.drop j)) ∧ Hid (kU.R tU w' w.heap.size (fun _ => True) v3 (s.wait.take j)) ∧ Hid (Below w0.heap.size w0 w') ∧ Hid (Kept w w' (fun k => k = g)))
  case atStart => exact ⟨0, cs0, v, (show _ + _ = _ by omega), G0.out, Lib.hid (by simpa [St.go, L.puts] using C0.out), rfl, Lib.hid (by simpa using Kd.Q_mono (Kd.Q_bound Q0.out) (fun _ hk => hk.2.2.1)), Kd.R_nil _ _ _ _ _, B0.out, Kept.refl _ _⟩
  case round =>
    obtain ⟨j, cs, vw, HJ, G1, C1, HV, Q1, R1, B1, K1⟩ := hrel
    have hc := C1.out
    have c515 := (blkc G1.out 515).trans hc.sent
    have c516 := (blkc G1.out 516).trans hc.last
    have c517 := (blkc G1.out 517).trans hc.wait
    have c0 := (blkc G1.out 0).trans hc.line.from_
    have c1 := (blkc G1.out 1).trans hc.line.window
    simp only [St.go, L.puts_window, L.puts_from] at c515 c516 c517 c0 c1
    clear hc
    have e1 : IntKind.i64.wrap (s.line.from_ + s.line.window) = s.line.from_ + s.line.window := IntWalk.i64_in _ (by omega)
    cases gk with
    | zero =>
      have fin : ∀ nq, ∃ v' r, Ending.returned u3 = .returned r ∧ OutR (wr.drewN nq) w0.heap.size g v' s.on ∧ v'.ownBlock = v.ownBlock ∧ kU.R tU (wr.drewN nq) w.heap.size (fun _ => True) r s.onL ∧ Kept w (wr.drewN nq) (fun k => k = g) ∧ Below w0.heap.size w0 (wr.drewN nq) := by
        intro nq
        have hj : j = s.n := HJ.out
        subst hj
        exact ⟨vw, _, rfl, ⟨cs, G1.out, C1.out, Kd.Q_mono (Kd.Q_drewN Q1.out nq) (fun _ _ => trivial)⟩, HV.out, Kd.R_drewN R1.out nq, K1.out.drewN nq, pw_below_drewN B1.out nq⟩
      have FIN := Lib.hid fin
      clear fin
      by_cases hjl : j = s.wait.length
      · have t1 : decide (s.sent + (j : Int) < s.last) = false := by have := HWL.out; simp; omega
        clear hjl
        go_wp2_with fail
        go_quiet (fail)
        go_wp2_with fail
        go_ret
        exact FIN.out _
      · have hj : j = s.n := HJ.out
        have t1 : decide (s.sent + (j : Int) < s.last) = true := by have := HWL.out; simp; omega
        have t2 : decide (s.sent + (j : Int) < s.line.from_ + s.line.window) = false := by have := HN3.out; simp; omega
        clear hjl hj
        go_wp2_with fail
        go_quiet (fail)
        go_wp2_with fail
        go_ret
        exact FIN.out _
    | succ k1 =>
      have hjn : j < s.n := by have := HJ.out; omega
      have hjw : j < s.wait.length := by omega
      have t1 : decide (s.sent + (j : Int) < s.last) = true := by have := HWL.out; simp; omega
      have t2 : decide (s.sent + (j : Int) < s.line.from_ + s.line.window) = true := by simp; omega
      have hdrop : s.wait.drop j = s.wait[j] :: s.wait.drop (j + 1) := List.drop_eq_getElem_cons hjw
      have hu : s.wait[j]? = some s.wait[j] := List.getElem?_eq_getElem hjw
      have hun := OK.out.num j _ hu
      have htk : s.wait.take (j + 1) = s.wait.take j ++ [s.wait[j]] := by rw [List.take_add_one, hu]; rfl
      have hq := Q1.out
      rw [hdrop] at hq
      generalize s.wait[j] = u at *
      have HU := Lib.hid hu
      have HTK := Lib.hid htk
      have hdl : (s.wait.drop (j + 1)).length = s.wait.length - (j + 1) := List.length_drop
      clear hdrop hu htk
      obtain ⟨q, o, cap, hvw, hcap, hmax, hrg, qcells, hqc⟩ := Q_first hq
      subst hvw
      obtain ⟨v2, hcut, hq2, hv2⟩ := Q_cut hq
      obtain ⟨A2, k2, rfl, _⟩ := Kd.Q_slice hq2
      have Q2 := Lib.hid hq2
      have HV2 := Lib.hid hv2
      generalize (s.wait.drop (j + 1)).length = m at *
      have HQC := Lib.hid hqc
      have HRG := Lib.hid hrg
      have HDL := Lib.hid hdl
      have HUN := Lib.hid hun
      obtain ⟨kk, hkk, hk64⟩ : ∃ kk : Nat, u.seq.tmod (s.go j).line.window = (kk : Int) ∧ kk < 64 := by
        rw [show (s.go j).line.window = s.line.window from L.puts_window _ _]
        have h1 := Int.tmod_nonneg s.line.window (show 0 ≤ u.seq by omega)
        have h2 := Int.tmod_lt_of_pos u.seq (show 0 < s.line.window by omega)
        exact ⟨(u.seq.tmod s.line.window).toNat, by omega, by omega⟩
      have hw1' : 1 ≤ (s.go j).line.window := by rw [show (s.go j).line.window = s.line.window from L.puts_window _ _]; exact hw1
      have HKK := Lib.hid hkk
      clear hq hq2 hv2 hqc hrg hdl hun hkk
      have hqg : q ≠ g := blk_ne HQC.out G1.out (by decide)
      go_wp2_with fail
      go_quiet (fail)
      have HRG2 := Lib.hid (rangeAt_drewN HRG.out nq)
      have G1 := Lib.hid (show (wr.drewN nq).heap[g]? = some (.cells cs tOut (0, 0)) from G1.out)
      have Q2 := Lib.hid (Kd.Q_drewN Q2.out nq)
      have R1 := Lib.hid (Kd.R_drewN R1.out nq)
      have B1 := Lib.hid (pw_below_drewN B1.out nq)
      have K1 := Lib.hid (K1.out.drewN nq)
      clear c515 c516 c517 c0 c1 HRG HQC Q1
      generalize wr.drewN nq = wq at *
      have c517 := (blkc G1.out 517).trans C1.out.wait
      have P2 := Lib.hid (blk_new wq (.cells #[.int .i64 u.seq, .int .i64 u.client, .int .i64 u.number, .int .i64 u.kind, .string u.key, .string u.value, .int .i64 u.version] tU))
      have G2 := Lib.hid (blk_below G1.out (below_alloc (Below.refl _ _) (.cells #[.int .i64 u.seq, .int .i64 u.client, .int .i64 u.number, .int .i64 u.kind, .string u.key, .string u.value, .int .i64 u.version] tU)))
      have B2 := Lib.hid (below_alloc B1.out (.cells #[.int .i64 u.seq, .int .i64 u.client, .int .i64 u.number, .int .i64 u.kind, .string u.key, .string u.value, .int .i64 u.version] tU))
      have K2 := Lib.hid (K1.out.alloc (.cells #[.int .i64 u.seq, .int .i64 u.client, .int .i64 u.number, .int .i64 u.kind, .string u.key, .string u.value, .int .i64 u.version] tU))
      have Q2 := Lib.hid (Kd.Q_alloc Q2.out (.cells #[.int .i64 u.seq, .int .i64 u.client, .int .i64 u.number, .int .i64 u.kind, .string u.key, .string u.value, .int .i64 u.version] tU))
      have R2 := Lib.hid (Kd.R_alloc R1.out (.cells #[.int .i64 u.seq, .int .i64 u.client, .int .i64 u.number, .int .i64 u.kind, .string u.key, .string u.value, .int .i64 u.version] tU))
      have c2 := (blkc G2.out 517).trans C1.out.wait
      have z2 := blkz G2.out 517
      have hpg : wq.heap.size ≠ g := by have := blk_lt G1.out; omega
      go_wp2_with (refine wpList_load_mid rfl tU (.tmp 36) rfl q o rfl [.int .i64 u.seq, .int .i64 u.client, .int .i64 u.number, .int .i64 u.kind, .string u.key, .string u.value, .int .i64 u.version] _ HRG2.out Try.underlying37 rfl (by kernel_rfl) ?_)
      have G3 := Lib.hid (blk_set G2.out 517 (.slice A2 m k2))
      have P3 := Lib.hid (blk_far (p := ⟨g, 517, none⟩) P2.out hpg (.slice A2 m k2))
      have B3 := Lib.hid (below_set (g := g) (j := 517) (v := .slice A2 m k2) B2.out hg)
      have K3 := Lib.hid (K2.out.setCell (p := ⟨g, 517, none⟩) (.inl rfl) (.slice A2 m k2))
      have Q3 := Lib.hid (Kd.Q_set Q2.out G2.out hUO 517 (.slice A2 m k2))
      have R3 := Lib.hid (Kd.R_set R2.out G2.out hUO 517 (.slice A2 m k2))
      have C3 := Lib.hid (C1.out.set_wait (.slice A2 m k2) (s.wait.drop (j + 1)))
      clear c2 z2 c517 G2 P2 B2 K2 Q2 R2 HRG2 G1 B1 K1 R1
      generalize hpq : wq.heap.size = p at *
      clear hpq
      generalize (World.setCell _ _ _) = W3 at *
      have G4 := Lib.hid (blk_drew G3.out)
      have P4 := Lib.hid (blk_drew P3.out)
      have B4 := Lib.hid B3.out.drew
      have HLL := Lib.hid (show LineR _ (s.go j).line from C3.out.line)
      refine start_ (n := 5) (S := fun w' => (∀ o, w'.cell? ⟨p, o, none⟩ = #[Value.int .i64 u.seq, .int .i64 u.client, .int .i64 u.number, .int .i64 u.kind, .string u.key, .string u.value, .int .i64 u.version][o]?)) (ds := []) #[false, false, false, false, false] (by kernel_rfl) rfl rfl ((blkc P4.out)) (fun hHeld => ?_)
      refine pure_ (i := 0) (N := some 46) (v := ?_) (a' := ?_) #[true, false, false, false, false] rfl rfl (by kernel_rfl) (fun _ _ _ h => h) (Or.inl ⟨by rfl, ?_⟩) ?_ ?_
      rotate_left
      · intro w'
        go_simp
        with_reducible rfl
      rotate_left
      · simp only [Act.put, List.setIfInBounds_toArray, List.set_cons_zero, List.set_cons_succ, i64_w, i32_w]
        rfl
      refine pure_ (i := 1) (N := some 47) (v := ?_) (a' := ?_) #[true, true, false, false, false] rfl rfl (by kernel_rfl) (fun _ _ _ h => h) (Or.inl ⟨by rfl, ?_⟩) ?_ ?_
      rotate_left
      · intro w'
        go_simp
        with_reducible rfl
      rotate_left
      · simp only [Act.put, List.setIfInBounds_toArray, List.set_cons_zero, List.set_cons_succ, i64_w, i32_w]
        rfl
      refine pure_ (i := 2) (N := some 48) (v := ?_) (a' := ?_) #[true, true, true, false, false] rfl rfl (by kernel_rfl) (fun _ _ _ h => h) (Or.inl ⟨by rfl, ?_⟩) ?_ ?_
      rotate_left
      · intro w'
        go_simp
        with_reducible rfl
      rotate_left
      · simp only [Act.put, List.setIfInBounds_toArray, List.set_cons_zero, List.set_cons_succ, i64_w, i32_w]
        rfl
      refine take_ (i := 3) (N := some 49) (v := ?_) (a' := ?_) #[true, true, true, true, false] rfl rfl (by kernel_rfl) (fun _ _ _ h => h) (Or.inl ⟨by rfl, ?_⟩) hHeld ?_ ?_
      rotate_left
      · intro w' s0
        go_simp
        with_reducible rfl
      rotate_left
      · simp only [Act.put, List.setIfInBounds_toArray, List.set_cons_zero, List.set_cons_succ, i64_w, i32_w]
        rfl
      refine one_ (i := 4) (N := some 50) #[true, true, true, true, true] rfl rfl (by kernel_rfl) (by decide) (fun K hK => ?_)
      refine goes_ Try.func38 (by kernel_rfl) rfl #[.pointer (some ⟨g, 0, none⟩), u.val] (by rfl) rfl rfl (by simp only [List.map_toArray, List.map_cons, List.map_nil]; rfl) ?_
      with_reducible refine (put_any (w0 := w0) (l := (s.go j).line) u kk G4.out HLL.out (by rw [C3.out.size]; omega) hk64 HKK.out hw1' hg B4.out).mono ?_
      rintro e w4 ⟨rfl, hg4, hk4, hb4⟩
      refine ⟨_, rfl, ?_⟩
      have P5 := Lib.hid (Kept.blk_ne P4.out hk4 hpg)
      have K5 := Lib.hid (K3.out.drew.then_ hk4 (fun _ h => .inl h))
      have G5 := Lib.hid hg4
      have B5 := Lib.hid hb4
      have Q5 := Lib.hid (Kd.Q_kept (Kd.Q_types (Kd.Q_drew Q3.out) G4.out hUO) hk4 (fun _ h => h.2))
      have R5 := Lib.hid (Kd.R_kept (Kd.R_types (Kd.R_drew R3.out) G4.out hUO) hk4 (fun _ h => h.2))
      clear hk4 hg4 hb4
      refine hK.out _ _ ((blkc P5.out)) (fun hHeld => ?_)
      clear hK K
      refine norm_ (a' := ?_) ?_ ?_
      rotate_left
      · show Act.put _ (some 50) _ = _
        simp only [Act.put, List.setIfInBounds_toArray, List.set_cons_zero, List.set_cons_succ, i64_w, i32_w]
        rfl
      refine done_ (by kernel_rfl) ?_
      have c5 := (blkc G5.out 515).trans ((C3.out.put hk64 u true).sent)
      simp only [St.go, St.setWait, St.setLine] at c5
      have z5 := blkz G5.out 515
      have e5 : IntKind.i64.wrap (s.sent + (j : Int) + 1) = s.sent + (j : Int) + 1 := IntWalk.i64_in _ (by omega)
      have C6 := Lib.hid (C1.out.round (.slice A2 m k2) HU.out hk64 (by have := HKK.out; rwa [show (s.go j).line.window = s.line.window from L.puts_window _ _] at this))
      clear G4 P4 B4 G3 P3 B3 K3 Q3 R3
      have G6 := Lib.hid (blk_set G5.out 515 (.int .i64 (s.sent + (j : Int) + 1)))
      have P6 := Lib.hid (blk_far (p := ⟨g, 515, none⟩) P5.out hpg (.int .i64 (s.sent + (j : Int) + 1)))
      have B6 := Lib.hid (below_set (g := g) (j := 515) (v := .int .i64 (s.sent + (j : Int) + 1)) B5.out hg)
      have K6 := Lib.hid (K5.out.setCell (p := ⟨g, 515, none⟩) (.inl rfl) (.int .i64 (s.sent + (j : Int) + 1)))
      have Q6 := Lib.hid (Kd.Q_set (Kd.Q_mono Q5.out (fun _ h => h.1)) G5.out hUO 515 (.int .i64 (s.sent + (j : Int) + 1)))
      have R6 := Lib.hid (Kd.R_set (Kd.R_mono R5.out (fun _ h => h.1)) G5.out hUO 515 (.int .i64 (s.sent + (j : Int) + 1)))
      have c6 := blkc P6.out
      clear G5 P5 B5 K5 Q5 R5 C3
      go_wp2_with ((at_builtin; refine Kd.R_append kU (w0 := _) w.heap.size rfl (.tmp 58) (.tmp 60) 24 tU (.agg #[.int .i64 0, .int .i64 0, .int .i64 0, .int .i64 0, .string ⟨#[]⟩, .string ⟨#[]⟩, .int .i64 0]) 72 rfl Try.underlying24 info_U rfl (by decide) (by decide) u3 (s.wait.take j) u [.int .i64 u.seq, .int .i64 u.client, .int .i64 u.number, .int .i64 u.kind, .string u.key, .string u.value, .int .i64 u.version] (fun _ => True) (fun _ => False) rfl (by rw [show (World.setCell w4 ⟨g, 515, none⟩ (.int .i64 (s.sent + (j : Int) + 1))).heap.size = w4.heap.size from by simp [World.setCell]]; rfl) rfl (fun _ h => h.elim) (fun _ _ => trivial) R6.out (Below.refl _ _) K6.out.1 (by rw [List.length_take]; omega) ?_); intro v7 w7 hr7 hb7 hg7 hat7)
      have hbase : ∀ k, u3.ownBlock = some k → w.heap.size ≤ k := Kd.R_base R6.out
      have G7 := Lib.hid (blk_grown G6.out hg7 (fun e => by have := hbase g e.symm; omega))
      have B7 := Lib.hid (pw_below_grown B6.out _ B6.out.size hg7 (fun k e => by have := hbase k e; omega))
      have K7 := Lib.hid (Kept.of_grown hg7 K6.out (fun k e => .inr (hbase k e)))
      have Q7 := Lib.hid (Kd.Q_grown Q6.out hg7 (fun k hk e => by have := hbase k e.symm; omega))
      have R7 := Lib.hid (hr7)
      go_roundg k1
      case measure => exact Nat.lt_succ_self _
      case rel =>
        refine ⟨j + 1, rcs cs (.slice A2 m k2) kk u (s.sent + (j : Int) + 1), .slice A2 m k2, ?_, G7.out, C6.out, ?_, Q7.out, ?_, B7.out, K7.out⟩
        · exact Lib.hid (by have := HJ.out; omega)
        · exact Lib.hid (HV2.out.trans HV.out)
        · rw [HTK.out]
          exact R7.out
end Go.Proofs.Ytofmgijdeeikeaa.Hop
