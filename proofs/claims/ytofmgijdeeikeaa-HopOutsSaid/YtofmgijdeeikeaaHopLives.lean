/- Do ends go as in the document's first example? -/
import Derived.Test.YtofmgijdeeikeaaHopAck
set_option linter.unusedVariables false
set_option linter.unusedSimpArgs false
namespace Go.Proofs.Ytofmgijdeeikeaa.Hop
open Go.RowKit Go.Proofs.Ytofmgijdeeikeaa.Mem Go.Proofs.YtofmgijdeeikeaaW.PrintWords Go.Proofs.YtofmgijdeeikeaaW.PrintLast Go.Deep
theorem St.Ok.go {s : St} (h : s.Ok) {j : Nat} (hj : j ≤ s.n) : (s.go j).Ok where
  made := (L.puts_made _ _).trans h.made
  w1 := by rw [show (s.go j).line.window = s.line.window from L.puts_window _ _]; exact h.w1
  w2 := by rw [show (s.go j).line.window = s.line.window from L.puts_window _ _]; exact h.w2
  f0 := by rw [show (s.go j).line.from_ = s.line.from_ from L.puts_from _ _]; exact h.f0
  fs := by
    rw [show (s.go j).line.from_ = s.line.from_ from L.puts_from _ _]
    have := h.fs
    simp only [St.go]
    omega
  sw := by
    rw [show (s.go j).line.from_ = s.line.from_ from L.puts_from _ _, show (s.go j).line.window = s.line.window from L.puts_window _ _]
    have := h.sw
    have : s.n ≤ (s.line.from_ + s.line.window - s.sent).toNat := Nat.min_le_right _ _
    simp only [St.go]
    omega
  sl := by
    have := h.len
    have : s.n ≤ s.wait.length := Nat.min_le_left _ _
    simp only [St.go]
    omega
  l2 := h.l2
  len := by
    have := h.len
    have : s.n ≤ s.wait.length := Nat.min_le_left _ _
    simp only [St.go, List.length_drop]
    omega
  num := fun i u hu => by
    simp only [St.go, List.getElem?_drop] at hu ⊢
    have := h.num _ _ hu
    omega
  c0 := h.c0
  c1 := h.c1
  p1 := h.p1
  p2 := h.p2
theorem St.Ok.on {s : St} (h : s.Ok) : s.on.Ok := h.go (Nat.le_refl _)
theorem St.Ok.new {n wi p : Int} (h0 : 0 ≤ n) (h1 : n ≤ 1152921504606846976) (w1 : 1 ≤ wi) (w2 : wi ≤ 64) (p1 : 1 ≤ p) (p2 : p ≤ 100) : (⟨lineNew n wi, n, n, [], 0, p⟩ : St).Ok where
  made := rfl
  w1 := w1
  w2 := w2
  f0 := h0
  fs := Int.le_refl _
  sw := by simp only [lineNew]; omega
  sl := Int.le_refl _
  l2 := by simp only; omega
  len := by simp
  num := fun i u hu => by simp at hu
  c0 := Int.le_refl _
  c1 := by simp only; omega
  p1 := p1
  p2 := p2
theorem ret_int {k : IntKind} {a b : Int} (h : a = b) : Ending.returned (.int k a) = .returned (.int k b) := by rw [h]
theorem place_any (k n : Int) (w : World) (hn : 1 ≤ n) (hn2 : n ≤ 1152921504606846976) :
    Calls Try.prog 11 #[.int .i64 k, .int .i64 n] w fun e w' => e = .returned (.int .i64 (k % n)) ∧ w = w' := by
  have h1 : -n < k.tmod n := by have := Int.lt_tmod_of_pos k (show 0 < n by omega); omega
  have h2 : k.tmod n < n := Int.tmod_lt_of_pos k (by omega)
  have hz : ¬ n = 0 := by omega
  have e1 : IntKind.i64.wrap (k.tmod n) = k.tmod n := IntWalk.i64_in _ (by omega)
  by_cases h : k.tmod n < 0
  · have t : decide (k.tmod n < 0) = true := by simpa using h
    have hr : k.tmod n + n = k % n := by
      have h3 := Int.tmod_eq_emod (a := k) (b := n)
      have h4 := Int.emod_nonneg k hz
      have h5 := Int.emod_lt_of_pos k (show 0 < n by omega)
      split at h3 <;> omega
    have e2 : IntKind.i64.wrap (k.tmod n + n) = k.tmod n + n := IntWalk.i64_in _ (by omega)
    have HR := Lib.hid hr
    clear hr h
    go_enter Try.func11, Try.ntmps11
    go_wp2
    go_ret
    exact ⟨by first | exact ret_int HR.out | rfl, rfl⟩
  · have t : decide (k.tmod n < 0) = false := by simpa using h
    have hr : k.tmod n = k % n := by
      have h3 := Int.tmod_eq_emod (a := k) (b := n)
      have h4 := Int.emod_nonneg k hz
      have h5 := Int.emod_lt_of_pos k (show 0 < n by omega)
      split at h3 <;> omega
    have HR := Lib.hid hr
    clear hr h
    go_enter Try.func11, Try.ntmps11
    go_wp2
    go_ret
    exact ⟨by first | exact ret_int HR.out | rfl, rfl⟩
theorem set_any (wi p : Int) (w : World) :
    Calls Try.prog 10 #[.int .i64 wi, .int .i64 p] w fun e w' => e = .returned (.agg #[.int .i64 1, .int .i64 (wi % 64 + 1), .int .i64 (p % 100 + 1), .int .i64 64, .int .i64 1]) ∧ Below w.heap.size w w' := by
  have h1 := Int.emod_nonneg wi (show (64 : Int) ≠ 0 by omega)
  have h2 := Int.emod_lt_of_pos wi (show (0 : Int) < 64 by omega)
  have h3 := Int.emod_nonneg p (show (100 : Int) ≠ 0 by omega)
  have h4 := Int.emod_lt_of_pos p (show (0 : Int) < 100 by omega)
  go_enter Try.func10, Try.ntmps10
  go_wp2_with fail
  refine (place_any _ 64 _ (by omega) (by omega)).mono ?_
  rintro e w' ⟨rfl, rfl⟩
  go_wp2_with fail
  refine (place_any _ 100 _ (by omega) (by omega)).mono ?_
  rintro e w' ⟨rfl, rfl⟩
  go_wp2
  exact bodyPost_ret (v := .agg #[.int .i64 1, .int .i64 (wi % 64 + 1), .int .i64 (p % 100 + 1), .int .i64 64, .int .i64 1]) (by simp [results, Try.results10, go_sem, Try.underlying26]) rfl ⟨rfl, (Below.refl _ _).alloc (Nat.le_refl _) _⟩
def uS (n : Int) : U := ⟨n, 0, 0, 0, ⟨#[]⟩, ⟨#[]⟩, 0⟩
def s0 : St := ⟨lineNew 0 2, 0, 0, [], 0, 3⟩
def s1 : St := (s0.more (uS 1)).on
def s2 : St := (s1.more (uS 2)).on
def s3 : St := (s2.more (uS 3)).on
def s4 : St := (s3.acked 1).on
theorem o1 : (s0.more (uS 1)).onL = [uS 1] := rfl
theorem o2 : (s1.more (uS 2)).onL = [uS 2] := rfl
theorem o3 : (s2.more (uS 3)).onL = [] := rfl
theorem o4 : (s3.acked 1).onL = [uS 3] := rfl
theorem l0 : s0.last = 0 := rfl
theorem l1 : s1.last = 1 := rfl
theorem l2 : s2.last = 2 := rfl
theorem l3 : s3.last = 3 := rfl
theorem k0 : s0.Ok := St.Ok.new (by omega) (by omega) (by omega) (by omega) (by omega) (by omega)
theorem k1 : s1.Ok := (k0.more (u := uS 1) rfl (by rw [l0]; omega)).on
theorem k2 : s2.Ok := (k1.more (u := uS 2) rfl (by rw [l1]; omega)).on
theorem k3 : s3.Ok := (k2.more (u := uS 3) rfl (by rw [l2]; omega)).on
theorem n1 : s0.wait.length < 1649267441664 := by show 0 < 1649267441664; omega
theorem n2 : s1.wait.length < 1649267441664 := by show 0 < 1649267441664; omega
theorem n3 : s2.wait.length < 1649267441664 := by show 0 < 1649267441664; omega
theorem n4 : s3.wait.length < 1649267441664 := by show 1 < 1649267441664; omega
theorem OutR.made {w : World} {b g : Nat} {v : Value} {s : St} (h : OutR w b g v s) (hok : s.Ok) : w.cell? ⟨g, 514, none⟩ = some (.bool true) := by
  obtain ⟨cs, G, C, _⟩ := h
  rw [← hok.made]
  exact (blkc G 514).trans C.line.made
theorem OutR.from_ {w : World} {b g : Nat} {v : Value} {s : St} (h : OutR w b g v s) : w.cell? ⟨g, 0, none⟩ = some (.int .i64 s.line.from_) := by
  obtain ⟨cs, G, C, _⟩ := h
  exact (blkc G 0).trans C.line.from_
theorem OutR.sent {w : World} {b g : Nat} {v : Value} {s : St} (h : OutR w b g v s) : w.cell? ⟨g, 515, none⟩ = some (.int .i64 s.sent) := by
  obtain ⟨cs, G, C, _⟩ := h
  exact (blkc G 515).trans C.sent
theorem OutR.last {w : World} {b g : Nat} {v : Value} {s : St} (h : OutR w b g v s) : w.cell? ⟨g, 516, none⟩ = some (.int .i64 s.last) := by
  obtain ⟨cs, G, C, _⟩ := h
  exact (blkc G 516).trans C.last
theorem under_ok {w : World} {b g : Nat} {v : Value} {s : St} (h : OutR w b g v s) (hok : s.Ok) : Calls Try.prog 21 #[.pointer (some ⟨g, 0, none⟩)] w fun e w' => e = .returned (.int .i64 (s.sent - s.line.from_)) ∧ ∃ n, w' = w.drewN n :=
  under_any (h.made hok) h.from_ h.sent hok.f0 hok.fs (by have := hok.sl; have := hok.l2; omega)
theorem k4 : s4.Ok := (k3.acked (q := 1) (by show (0 : Int) ≤ 1; omega) (by rw [l3]; omega)).on
set_option maxHeartbeats 1600000 in
set_option maxRecDepth 100000 in
theorem lives_any (w : World) : Calls Try.prog 16 #[] w fun e w' => e = .returned (.bool true) ∧ Below w.heap.size w w' := by
  go_enter Try.func16, Try.ntmps16
  go_wp2_with fail
  refine (set_any 1 2 w).mono ?_
  rintro e w1 ⟨rfl, hb1⟩
  have B1 := Lib.hid hb1
  clear hb1
  go_wp2_with fail
  refine (newOut_ok 0 1 2 3 64 1 w1 (by omega) (by decide)).mono ?_
  rintro e w2 ⟨g, rfl, hg, hG, hb⟩
  have B2 := Lib.hid (below_then B1.out B1.out.size hb)
  have O2 := Lib.hid (show OutR w2 w.heap.size g (.slice none 0 0) s0 from ⟨_, hG, OutC.new 0 2 3, Kd.Q_nil _ _ _ _ _⟩)
  have hgw : w.heap.size ≤ g := Nat.le_trans B1.out.size hg
  clear hb hG
  go_wp2_with fail
  refine (offer_ok (w0 := w) (uS 1) k0 O2.out hgw B2.out rfl n1 (by rw [l0]; omega)).mono ?_
  rintro e w3 ⟨r1, rfl, v3, hr3, hv3, hR3, hK3, hB3⟩
  rw [o1] at hR3
  obtain ⟨A1, c1, rfl⟩ := Kd.R_slice hR3
  have O3 := Lib.hid (show OutR w3 w.heap.size g v3 s1 from hr3)
  have B3 := Lib.hid hB3
  clear hr3 hv3 hR3 hK3 hB3
  go_wp2_with fail
  refine (offer_ok (w0 := w) (uS 2) k1 O3.out hgw B3.out rfl n2 (by rw [l1]; omega)).mono ?_
  rintro e w4 ⟨r2, rfl, v4, hr4, hv4, hR4, hK4, hB4⟩
  rw [o2] at hR4
  obtain ⟨A2, c2, rfl⟩ := Kd.R_slice hR4
  have O4 := Lib.hid (show OutR w4 w.heap.size g v4 s2 from hr4)
  have B4 := Lib.hid hB4
  clear hr4 hv4 hR4 hK4 hB4
  go_wp2_with fail
  refine (offer_ok (w0 := w) (uS 3) k2 O4.out hgw B4.out rfl n3 (by rw [l2]; omega)).mono ?_
  rintro e w5 ⟨r3, rfl, v5, hr5, hv5, hR5, hK5, hB5⟩
  rw [o3] at hR5
  obtain ⟨A3, c3, rfl⟩ := Kd.R_slice hR5
  have O5 := Lib.hid (show OutR w5 w.heap.size g v5 s3 from hr5)
  have B5 := Lib.hid hB5
  clear hr5 hv5 hR5 hK5 hB5
  go_wp2_with fail
  refine (ack_ok (w0 := w) 1 k3 O5.out hgw B5.out (by show (0 : Int) < 1; omega) (by rw [l3]; show (0 : Int) ≤ 3; omega) n4).mono ?_
  rintro e w6 ⟨r4, rfl, v6, hr6, hv6, hR6, hK6, hB6⟩
  rw [show min (1 : Int) s3.last = 1 from rfl, o4] at hR6
  have O6 := Lib.hid (show OutR w6 w.heap.size g v6 s4 from hr6)
  have B6 := Lib.hid hB6
  obtain ⟨gq, cq, rfl, _⟩ := Kd.R_form hR6 (by simp)
  have hread := (Kd.R_reads' hR6).2.2
  obtain ⟨ad, cc, ha, hcl, hKK, hcell⟩ := Kd.C_get hread (uS 3) 0 (by omega) (by simp)
  cases ha
  have hc3 : w6.cell? ⟨gq, 0, none⟩ = some (.int .i64 3) := by
    have hKK' : cc = (uS 3).cells := by simpa [kU] using hKK
    subst hKK'
    have := hcell 0 (.int .i64 3) rfl
    simpa [add_at] using this
  clear hr6 hv6 hR6 hK6 hB6 hread hKK hcell hcl
  go_wp2_with fail
  refine (under_ok O6.out k4).mono ?_
  rintro e w7 ⟨rfl, nq, rfl⟩
  rw [show s4.sent - s4.line.from_ = 2 from rfl]
  go_wp2
  go_ret
  exact ⟨rfl, pw_below_drewN B6.out _⟩
end Go.Proofs.Ytofmgijdeeikeaa.Hop
namespace Go.Proofs.Ytofmgijdeeikeaa.Walk
open Go.RowKit
theorem HopNames (W : World) : Calls Try.prog 4 #[] W fun e W' => e = .returned (.bool true) ∧ Below W.heap.size W W' := by
  go_enter Try.func4, Try.ntmps4
  go_wp2_with (go_at_call 16; refine (Hop.lives_any _).mono ?_; rintro e w' ⟨rfl, hb⟩)
  go_ret
  exact ⟨rfl, hb⟩
end Go.Proofs.Ytofmgijdeeikeaa.Walk
