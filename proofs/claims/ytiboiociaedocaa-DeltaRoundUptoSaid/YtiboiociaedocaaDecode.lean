/- Decode: what it reads of any bytes. -/
import Derived.Test.YtiboiociaedocaaDec
set_option linter.unusedVariables false
set_option linter.unusedSimpArgs false
namespace Go.Proofs.Ytiboiociaedocaa.Leb
open Go.RowKit Go.Proofs.YtiboiociaedocaaW.PrintWords Go.Proofs.YtiboiociaedocaaW.PrintLast Go.Proofs.Ytiboiociaedocaa.CutDec Go.Proofs.Ytiboiociaedocaa.Mem Go.Proofs.Ytiboiociaedocaa.Byt Go.Proofs.Ytiboiociaedocaa.Chk Go.Proofs.Ytiboiociaedocaa.Opn
abbrev tU : TypeId := 38
abbrev tE : TypeId := 22
abbrev vNone : Value := .iface 90 (.agg #[])
abbrev UZ : Array Value := #[.int .i64 0, .int .i64 0, .int .i64 0, .int .i64 0, .string ⟨#[]⟩, .string ⟨#[]⟩, .int .i64 0]
/-- Seven stores: an update. -/
def setU (w : World) (b : Nat) (v0 v1 v2 v3 v4 v5 v6 : Value) : World := ((((((w.setCell ⟨b, 0, none⟩ v0).setCell ⟨b, 1, none⟩ v1).setCell ⟨b, 2, none⟩ v2).setCell ⟨b, 3, none⟩ v3).setCell ⟨b, 4, none⟩ v4).setCell ⟨b, 5, none⟩ v5).setCell ⟨b, 6, none⟩ v6
section
variable {w : World} {b : Nat} {v0 v1 v2 v3 v4 v5 v6 a0 a1 a2 a3 a4 a5 a6 : Value} {t : TypeId}
theorem setU_blk (h : w.heap[b]? = some (.cells #[a0, a1, a2, a3, a4, a5, a6] t (0, 0))) : (setU w b v0 v1 v2 v3 v4 v5 v6).heap[b]? = some (.cells #[v0, v1, v2, v3, v4, v5, v6] t (0, 0)) := by
  have h1 := blk_set (blk_set (blk_set (blk_set (blk_set (blk_set (blk_set h 0 v0) 1 v1) 2 v2) 3 v3) 4 v4) 5 v5) 6 v6
  rw [setU, h1]
  simp
theorem setU_far {g : Nat} {cs : Array Value} (h : w.heap[g]? = some (.cells cs t (0, 0))) (hne : g ≠ b) : (setU w b v0 v1 v2 v3 v4 v5 v6).heap[g]? = some (.cells cs t (0, 0)) :=
  blk_far (blk_far (blk_far (blk_far (blk_far (blk_far (blk_far h (p := ⟨b, 0, none⟩) hne v0) (p := ⟨b, 1, none⟩) hne v1) (p := ⟨b, 2, none⟩) hne v2) (p := ⟨b, 3, none⟩) hne v3) (p := ⟨b, 4, none⟩) hne v4) (p := ⟨b, 5, none⟩) hne v5) (p := ⟨b, 6, none⟩) hne v6
theorem setU_below {W : World} (h : Below W.heap.size W w) (hb : W.heap.size ≤ b) : Below W.heap.size W (setU w b v0 v1 v2 v3 v4 v5 v6) :=
  below_set (j := 6) (v := v6) (below_set (j := 5) (v := v5) (below_set (j := 4) (v := v4) (below_set (j := 3) (v := v3) (below_set (j := 2) (v := v2) (below_set (j := 1) (v := v1) (below_set (j := 0) (v := v0) h hb) hb) hb) hb) hb) hb) hb
end
set_option maxRecDepth 100000 in
theorem assert_none (W : World) : (Instr.typeAssert vNone 20 90 true).run Try.prog W = .ok (.tuple #[.agg #[], .bool true]) W := by
  rfl
set_option maxHeartbeats 1600000 in
set_option maxRecDepth 100000 in
theorem catch_boom {w : World} {bu be : Nat} {a0 a1 a2 a3 a4 a5 a6 x : Value} (hu7 : w.heap[bu]? = some (.cells #[a0, a1, a2, a3, a4, a5, a6] tU (0, 0))) (he1 : w.heap[be]? = some (.cells #[x] tE (0, 0))) (hne : bu ≠ be) :
    CallsD Try.prog 46 #[.pointer (some ⟨bu, 0, none⟩), .pointer (some ⟨be, 0, none⟩)] (.panicking [{ v := vNone, recovered := false }]) w fun e u' w' =>
      e = .returned (.tuple #[]) ∧ u' = .panicking [{ v := vNone, recovered := true }] ∧ (w'.heap[bu]? = some (.cells UZ tU (0, 0)) ∧ w'.heap[be]? = some (.cells #[.int .i64 86] tE (0, 0)) ∧ ∀ W : World, Below W.heap.size W w → W.heap.size ≤ bu → W.heap.size ≤ be → Below W.heap.size W w') := by
  have ba := below_alloc (Below.refl w.heap.size w) (.cells #[] 90)
  have U1 := Lib.hid (blk_below hu7 ba)
  have E1 := Lib.hid (blk_below he1 ba)
  have BA := Lib.hid ba
  have cu := blkc U1.out
  have zu := blkz U1.out
  have ce := blkc E1.out
  have ze := blkz E1.out
  clear hu7 he1 ba
  refine callsD_of_wpS Try.func46 rfl fun c₀ cs hu => ?_
  apply wpS_seq
  apply wpS_region
  simp [wpOpsS, go_sem, recoverD, hu, Try.ntmps46, Exit.thenS]
  refine wpS_of_wp ?_
  change Code.wp _ _ _ { tmps := #[.pointer (some ⟨bu, 0, none⟩), .pointer (some ⟨be, 0, none⟩), vNone, undef, undef, vNone, undef, undef, undef, undef, undef, undef, undef, undef, undef, undef, undef], defers := [] } w
  have hta := fun W => assert_none W
  go_wp2
  have FIN := Lib.hid (And.intro (blk_far (setU_blk U1.out (v0 := .int .i64 0) (v1 := .int .i64 0) (v2 := .int .i64 0) (v3 := .int .i64 0) (v4 := .string ⟨#[]⟩) (v5 := .string ⟨#[]⟩) (v6 := .int .i64 0)) (p := ⟨be, 0, none⟩) hne (.int .i64 86)) (And.intro (blk_set (setU_far E1.out hne.symm (v0 := .int .i64 0) (v1 := .int .i64 0) (v2 := .int .i64 0) (v3 := .int .i64 0) (v4 := .string ⟨#[]⟩) (v5 := .string ⟨#[]⟩) (v6 := .int .i64 0)) 0 (.int .i64 86))
    (fun (W : World) (hB : Below W.heap.size W w) (h1 : W.heap.size ≤ bu) (h2 : W.heap.size ≤ be) => below_set (j := 0) (v := .int .i64 86) (setU_below (below_then hB hB.size BA.out) h1 (v0 := .int .i64 0) (v1 := .int .i64 0) (v2 := .int .i64 0) (v3 := .int .i64 0) (v4 := .string ⟨#[]⟩) (v5 := .string ⟨#[]⟩) (v6 := .int .i64 0)) h2)))
  clear cu zu ce ze hta
  cases c₀
  exact ⟨rfl, _, rfl, .tuple #[], by simp [results, Try.results46, go_sem], rfl, rfl, FIN.out.1, FIN.out.2.1, FIN.out.2.2⟩
set_option maxHeartbeats 1600000 in
set_option maxRecDepth 100000 in
theorem catch_idle (p q : Addr) (w : World) :
    CallsD Try.prog 46 #[.pointer (some p), .pointer (some q)] .returning w fun e u' w' => e = .returned (.tuple #[]) ∧ u' = .returning ∧ w' = w := by
  refine callsD_of_wpS Try.func46 rfl fun c₀ cs hu => ?_
  apply wpS_seq
  apply wpS_region
  simp [wpOpsS, go_sem, recoverD, hu, Try.ntmps46, Exit.thenS]
  refine wpS_of_wp ?_
  change Code.wp _ _ _ { tmps := #[.pointer (some p), .pointer (some q), Value.nilIface, undef, undef, Value.nilIface, undef, undef, undef, undef, undef, undef, undef, undef, undef, undef, undef], defers := [] } w
  go_wp2
  cases c₀
  simp only at hu
  subst hu
  exact ⟨rfl, _, rfl, .tuple #[], by simp [results, Try.results46, go_sem], rfl, rfl, rfl⟩
/-- An update's value. -/
def updV (u : UpdT) : Value := .agg #[.int .i64 u.1, .int .i64 u.2.1, .int .i64 u.2.2.1, .int .i64 u.2.2.2.1, .string u.2.2.2.2.1, .string u.2.2.2.2.2.1, .int .i64 u.2.2.2.2.2.2]
/-- What Decode answers. -/
def DecEnd (bs : List Int) (e : Ending) : Prop := match decU bs with | some u => e = .returned (.tuple #[updV u, .int .i64 0]) | none => e = .returned (.tuple #[.agg UZ, .int .i64 86])
/-! ### decode_any -/
def dK6 (sq cl nu kd : Nat) (key val : ByteArray) (ver : Nat) (r7 : List Int) : Option UpdT := if r7 = [] ∧ checkUpd ((sq : Int), (cl : Int), (nu : Int), (kd : Int), key, val, (ver : Int)) = 0 then some ((sq : Int), (cl : Int), (nu : Int), (kd : Int), key, val, (ver : Int)) else none
def dK5 (sq cl nu kd : Nat) (key val : ByteArray) (r6 : List Int) : Option UpdT := match (if (kd : Int) = 3 then rdI r6 else some (0, r6)) with | none => none | some (ver, r7) => dK6 sq cl nu kd key val ver r7
def dK4 (sq cl nu kd : Nat) (key : ByteArray) (r5 : List Int) : Option UpdT := match (if (kd : Int) = 2 then some (⟨#[]⟩, r5) else rdT r5) with | none => none | some (val, r6) => dK5 sq cl nu kd key val r6
def dK3' (sq cl nu kd : Nat) (r4 : List Int) : Option UpdT := match rdT r4 with | none => none | some (key, r5) => dK4 sq cl nu kd key r5
def dK3 (sq cl nu : Nat) (r3 : List Int) : Option UpdT := match rdI r3 with | none => none | some (kd, r4) => dK3' sq cl nu kd r4
def dK2 (sq cl : Nat) (r2 : List Int) : Option UpdT := match rdI r2 with | none => none | some (nu, r3) => dK3 sq cl nu r3
def dK1 (sq : Nat) (r1 : List Int) : Option UpdT := match rdI r1 with | none => none | some (cl, r2) => dK2 sq cl r2
def dK0 (bs : List Int) : Option UpdT := match rdI bs with | none => none | some (sq, r1) => dK1 sq r1
theorem decU_K (bs : List Int) : decU bs = dK0 bs := rfl
theorem rdT_size {bs : List Int} {s : ByteArray} {q : List Int} (h : rdT bs = some (s, q)) (hB : IsB bs) : s.size ≤ bs.length := by
  have := congrArg List.length (rdT_some hB h).1
  rw [List.length_append, strB, List.length_append, bytesOf_length] at this
  omega
section
variable {w W w1 : World} {bs rest q : List Int} {bu be br : Nat} {a0 a1 a2 a3 a4 a5 a6 x : Value} {tm cs cs' : Array Value}
set_option maxRecDepth 100000 in
theorem res_read (h2 : tm[2]? = some (.pointer (some ⟨bu, 0, none⟩))) (h3 : tm[3]? = some (.pointer (some ⟨be, 0, none⟩))) (hU : W.heap[bu]? = some (.cells #[a0, a1, a2, a3, a4, a5, a6] tU (0, 0))) (hE : W.heap[be]? = some (.cells #[x] tE (0, 0))) :
    (results Try.f29 tm).run Try.prog W = .ok (.tuple #[.agg #[a0, a1, a2, a3, a4, a5, a6], x]) W := by
  have cu := blkc hU
  have ce := blkc hE
  have zu := blkz hU
  have ze := blkz hE
  have hus := Try.underlying38
  have huo := Try.underlying35
  simp [results, Try.results29, go_sem, h2, h3, cu, ce, hus, huo]
theorem door_boom (h2 : tm[2]? = some (.pointer (some ⟨bu, 0, none⟩))) (h3 : tm[3]? = some (.pointer (some ⟨be, 0, none⟩))) (hU : W.heap[bu]? = some (.cells #[a0, a1, a2, a3, a4, a5, a6] tU (0, 0))) (hE : W.heap[be]? = some (.cells #[x] tE (0, 0))) (hB : Below w.heap.size w W) (hn : w.heap.size ≤ bu ∧ w.heap.size ≤ be) (hne : bu ≠ be) (hd : decU bs = none) :
    bodyPostD Try.prog Try.f29 (fun e w' => DecEnd bs e ∧ Below w.heap.size w w') (Exit.panic [{ v := vNone, recovered := false }]) { tmps := tm, defers := [{ target := Target.fn (Fn.func 46) #[.pointer (some ⟨bu, 0, none⟩), .pointer (some ⟨be, 0, none⟩)], args := #[] }] } W := by
  refine leaves_cons (f := 46) (args := #[.pointer (some ⟨bu, 0, none⟩), .pointer (some ⟨be, 0, none⟩)]) (by simp) (by simp [go_sem]) ?_
  refine (catch_boom hU hE hne).mono ?_
  rintro e u' w' ⟨rfl, rfl, hU', hE', hB'⟩
  exact ⟨_, res_read h2 h3 hU' hE', by rw [DecEnd, hd], hB' w hB hn.1 hn.2⟩
theorem door_ok (h2 : tm[2]? = some (.pointer (some ⟨bu, 0, none⟩))) (h3 : tm[3]? = some (.pointer (some ⟨be, 0, none⟩))) {u : UpdT} (hU : W.heap[bu]? = some (.cells #[.int .i64 u.1, .int .i64 u.2.1, .int .i64 u.2.2.1, .int .i64 u.2.2.2.1, .string u.2.2.2.2.1, .string u.2.2.2.2.2.1, .int .i64 u.2.2.2.2.2.2] tU (0, 0))) (hE : W.heap[be]? = some (.cells #[.int .i64 0] tE (0, 0))) (hB : Below w.heap.size w W) (hd : decU bs = some u) :
    bodyPostD Try.prog Try.f29 (fun e w' => DecEnd bs e ∧ Below w.heap.size w w') Exit.ret { tmps := tm, defers := [{ target := Target.fn (Fn.func 46) #[.pointer (some ⟨bu, 0, none⟩), .pointer (some ⟨be, 0, none⟩)], args := #[] }] } W := by
  refine leaves_cons (f := 46) (args := #[.pointer (some ⟨bu, 0, none⟩), .pointer (some ⟨be, 0, none⟩)]) (by simp) (by simp [go_sem]) ?_
  refine (catch_idle _ _ _).mono ?_
  rintro e u' w' ⟨rfl, rfl, rfl⟩
  exact ⟨_, res_read h2 h3 hU hE, by rw [DecEnd, hd]; rfl, hB⟩
/-- Where Decode stands: the update so far, the error, what is left to be read. -/
structure DSt (w W : World) (bu be br : Nat) (cs : Array Value) (rest : List Int) : Prop where
  u : W.heap[bu]? = some (.cells cs tU (0, 0))
  e : W.heap[be]? = some (.cells #[.int .i64 0] tE (0, 0))
  r : Rd w W br rest
  b : Below w.heap.size w W
  n : w.heap.size ≤ bu ∧ w.heap.size ≤ be ∧ w.heap.size ≤ br ∧ bu ≠ be ∧ bu ≠ br ∧ be ≠ br
theorem DSt.set (h : DSt w W bu be br cs rest) (i : Nat) (v : Value) (hcs : cs.setIfInBounds i v = cs') : DSt w (W.setCell ⟨bu, i, none⟩ v) bu be br cs' rest :=
  have hb := below_set (j := i) (v := v) h.b h.n.1
  ⟨blk_put h.u i v hcs, blk_far h.e (p := ⟨bu, i, none⟩) h.n.2.2.2.1.symm v, h.r.kept ((Kept.refl W (fun k => k = bu)).setCell (p := ⟨bu, i, none⟩) (.inl rfl) v) h.n.2.2.2.2.1.symm (fun k hk => by rw [hk]; exact h.n.1) hb, hb, h.n⟩
theorem DSt.call (h : DSt w W bu be br cs rest) (hR : Rd w w1 br q) (hK : Kept W w1 (fun k => k = br)) : DSt w w1 bu be br cs q :=
  ⟨blk_kept h.u hK h.n.2.2.2.2.1, blk_kept h.e hK h.n.2.2.2.2.2, hR, by obtain ⟨_, _, _, _, _, _, _, hb, _⟩ := hR; exact hb, h.n⟩
theorem DSt.below (h : DSt w W bu be br cs rest) (hb : Below W.heap.size W w1) : DSt w w1 bu be br cs rest :=
  have hb2 := below_then h.b h.b.size hb
  ⟨blk_below h.u hb, blk_below h.e hb, h.r.kept (Kept.of_below hb (fun _ => False)) id (fun _ hk => hk.elim) hb2, hb2, h.n⟩
theorem DSt.boom (h : DSt w W bu be br #[a0, a1, a2, a3, a4, a5, a6] rest) (hb : Below w.heap.size w w1) (hK : Kept W w1 (fun k => k = br)) (hd : decU bs = none) (h2 : tm[2]? = some (.pointer (some ⟨bu, 0, none⟩))) (h3 : tm[3]? = some (.pointer (some ⟨be, 0, none⟩))) :
    bodyPostD Try.prog Try.f29 (fun e w' => DecEnd bs e ∧ Below w.heap.size w w') (Exit.panic [{ v := vNone, recovered := false }]) { tmps := tm, defers := [{ target := Target.fn (Fn.func 46) #[.pointer (some ⟨bu, 0, none⟩), .pointer (some ⟨be, 0, none⟩)], args := #[] }] } w1 :=
  door_boom h2 h3 (blk_kept h.u hK h.n.2.2.2.2.1) (blk_kept h.e hK h.n.2.2.2.2.2) hb ⟨h.n.1, h.n.2.1⟩ h.n.2.2.2.1 hd
end
set_option maxHeartbeats 25600000 in
set_option maxRecDepth 100000 in
theorem decode_any {w : World} {A : Option Addr} {c : Nat} {bs : List Int} (hC : kB.C w A bs.length bs) (hc : bs.length ≤ c) (hB : IsB bs) (hl : bs.length < 1152921504606846976) :
    Calls Try.prog 29 #[.slice A bs.length c] w fun e w' => DecEnd bs e ∧ Below w.heap.size w w' := by
  have hmf : ∀ (fn : Fn) (first cap : Array Value) (w : World), (Instr.makeFunc fn first cap).run Try.prog w = .ok (.func fn first cap) w := fun _ _ _ _ => rfl
  have b1 := below_alloc (Below.refl w.heap.size w) (.cells UZ tU)
  have b2 := below_alloc b1 (.cells #[.int .i64 0] tE)
  have b3 := below_alloc b2 (.cells #[.slice A bs.length c] tRd)
  have e1 : (w.alloc (.cells UZ tU)).heap.size = w.heap.size + 1 := by simp
  have e2 : ((w.alloc (.cells UZ tU)).alloc (.cells #[.int .i64 0] tE)).heap.size = w.heap.size + 1 + 1 := by simp
  have U0 := blk_alloc (blk_alloc (blk_new w (.cells UZ tU)) (.cells #[.int .i64 0] tE)) (.cells #[.slice A bs.length c] tRd)
  have E0 := blk_alloc (blk_new (w.alloc (.cells UZ tU)) (.cells #[.int .i64 0] tE)) (.cells #[.slice A bs.length c] tRd)
  have R0 := (show Rd w _ _ bs from ⟨A, c, blk_new ((w.alloc (.cells UZ tU)).alloc (.cells #[.int .i64 0] tE)) (.cells #[.slice A bs.length c] tRd), hC, hc, hl, hB, b3, b2.size⟩)
  rw [e1] at E0
  rw [e2] at R0
  obtain ⟨bu, be, br, hbu, hbe, hbr⟩ : ∃ bu be br, w.heap.size = bu ∧ w.heap.size + 1 = be ∧ w.heap.size + 1 + 1 = br := ⟨_, _, _, rfl, rfl, rfl⟩
  have N := (show w.heap.size ≤ bu ∧ w.heap.size ≤ be ∧ w.heap.size ≤ br ∧ bu ≠ be ∧ bu ≠ br ∧ be ≠ br by omega)
  rw [hbr] at R0
  rw [hbe] at E0
  rw [hbu] at U0
  have HBU := Lib.hid (And.intro hbu (And.intro hbe hbr))
  have S0 := Lib.hid (show DSt w _ bu be br UZ bs from ⟨U0, E0, R0, b3, N⟩)
  have HB := Lib.hid hB
  have EQ := Lib.hid (decU_K bs)
  clear b1 b2 b3 hC hB e1 e2 hc hl U0 E0 R0 N hbu hbe hbr
  go_enter_defers Try.func29, Try.ntmps29
  go_upto_region 3 with (fail)
  rw [HBU.out.2.2, HBU.out.2.1, HBU.out.1]
  clear HBU hmf
  generalize ((w.alloc (.cells UZ tU)).alloc (.cells #[.int .i64 0] tE)).alloc (.cells #[.slice A bs.length c] tRd) = W0 at *
  cases hd : rdI bs with
  | none =>
    have hno := EQ.out.trans (show dK0 bs = none by rw [dK0, hd])
    clear EQ HB
    go_wp2_with fail
    refine (int_none S0.out.r hd).mono ?_
    rintro e w1 ⟨rfl, hb1, hk1⟩
    have HD := Lib.hid (fun (tm : Array Value) h2 h3 => S0.out.boom (bs := bs) (tm := tm) hb1 hk1 hno h2 h3)
    clear hb1 hk1 hd hno
    go_wp2_with fail
    exact HD.out _ rfl rfl
  | some p =>
    obtain ⟨sq, r1⟩ := p
    have EQ := Lib.hid (EQ.out.trans (show dK0 bs = dK1 sq r1 by rw [dK0, hd]))
    have HB := Lib.hid (rdI_some HB.out hd).2.2
    go_wp2_with fail
    refine (int_some S0.out.r hd).mono ?_
    rintro e w1 ⟨rfl, hr1, hk1⟩
    have S1 := Lib.hid (S0.out.call hr1 hk1)
    clear hr1 hk1 hd S0
    cases hd : rdI r1 with
    | none =>
      have hno := EQ.out.trans (show dK1 sq r1 = none by rw [dK1, hd])
      clear EQ HB
      go_wp2_with fail
      refine (int_none S1.out.r hd).mono ?_
      rintro e w1 ⟨rfl, hb1, hk1⟩
      have HD := Lib.hid (fun (tm : Array Value) h2 h3 => S1.out.boom (bs := bs) (tm := tm) hb1 hk1 hno h2 h3)
      clear hb1 hk1 hd hno
      go_wp2_with fail
      exact HD.out _ rfl rfl
    | some p =>
      obtain ⟨cl, r2⟩ := p
      have EQ := Lib.hid (EQ.out.trans (show dK1 sq r1 = dK2 sq cl r2 by rw [dK1, hd]))
      have HB := Lib.hid (rdI_some HB.out hd).2.2
      go_wp2_with fail
      refine (int_some S1.out.r hd).mono ?_
      rintro e w2 ⟨rfl, hr1, hk1⟩
      have S2 := Lib.hid (S1.out.call hr1 hk1)
      clear hr1 hk1 hd S1
      cases hd : rdI r2 with
      | none =>
        have hno := EQ.out.trans (show dK2 sq cl r2 = none by rw [dK2, hd])
        clear EQ HB
        go_wp2_with fail
        refine (int_none S2.out.r hd).mono ?_
        rintro e w1 ⟨rfl, hb1, hk1⟩
        have HD := Lib.hid (fun (tm : Array Value) h2 h3 => S2.out.boom (bs := bs) (tm := tm) hb1 hk1 hno h2 h3)
        clear hb1 hk1 hd hno
        go_wp2_with fail
        exact HD.out _ rfl rfl
      | some p =>
        obtain ⟨nu, r3⟩ := p
        have EQ := Lib.hid (EQ.out.trans (show dK2 sq cl r2 = dK3 sq cl nu r3 by rw [dK2, hd]))
        have HB := Lib.hid (rdI_some HB.out hd).2.2
        go_wp2_with fail
        refine (int_some S2.out.r hd).mono ?_
        rintro e w3 ⟨rfl, hr1, hk1⟩
        have S3 := Lib.hid (S2.out.call hr1 hk1)
        clear hr1 hk1 hd S2
        have cu := blkc S3.out.u
        have zu := blkz S3.out.u
        have S4 := Lib.hid (((S3.out.set 0 (.int .i64 (sq : Int)) rfl).set 1 (.int .i64 (cl : Int)) rfl).set 2 (.int .i64 (nu : Int)) (cs' := #[.int .i64 ((sq : Nat) : Int), .int .i64 ((cl : Nat) : Int), .int .i64 ((nu : Nat) : Int), .int .i64 0, .string ⟨#[]⟩, .string ⟨#[]⟩, .int .i64 0]) (by simp))
        clear S3
        go_upto_region 4 with (fail)
        generalize ((w3.setCell ⟨bu, 0, none⟩ (.int .i64 (sq : Int))).setCell ⟨bu, 1, none⟩ (.int .i64 (cl : Int))).setCell ⟨bu, 2, none⟩ (.int .i64 (nu : Int)) = W4 at *
        clear cu zu
        cases hd : rdI r3 with
        | none =>
          have hno := EQ.out.trans (show dK3 sq cl nu r3 = none by rw [dK3, hd])
          clear EQ HB
          go_wp2_with fail
          refine (int_none S4.out.r hd).mono ?_
          rintro e w1 ⟨rfl, hb1, hk1⟩
          have HD := Lib.hid (fun (tm : Array Value) h2 h3 => S4.out.boom (bs := bs) (tm := tm) hb1 hk1 hno h2 h3)
          clear hb1 hk1 hd hno
          go_wp2_with fail
          exact HD.out _ rfl rfl
        | some p =>
          obtain ⟨kd, r4⟩ := p
          have EQ := Lib.hid (EQ.out.trans (show dK3 sq cl nu r3 = dK3' sq cl nu kd r4 by rw [dK3, hd]))
          have HB := Lib.hid (rdI_some HB.out hd).2.2
          go_wp2_with fail
          refine (int_some S4.out.r hd).mono ?_
          rintro e w5 ⟨rfl, hr1, hk1⟩
          have S5 := Lib.hid (S4.out.call hr1 hk1)
          clear hr1 hk1 hd S4
          have cu := blkc S5.out.u
          have zu := blkz S5.out.u
          have S6 := Lib.hid (S5.out.set 3 (.int .i64 (kd : Int)) (cs' := #[.int .i64 ((sq : Nat) : Int), .int .i64 ((cl : Nat) : Int), .int .i64 ((nu : Nat) : Int), .int .i64 ((kd : Nat) : Int), .string ⟨#[]⟩, .string ⟨#[]⟩, .int .i64 0]) (by simp))
          clear S5
          go_upto_region 5 with (fail)
          generalize w5.setCell ⟨bu, 3, none⟩ (.int .i64 (kd : Int)) = W6 at *
          clear cu zu
          cases hd : rdT r4 with
          | none =>
            have hno := EQ.out.trans (show dK3' sq cl nu kd r4 = none by rw [dK3', hd])
            clear EQ HB
            go_wp2_with fail
            refine (text_none S6.out.r hd).mono ?_
            rintro e w1 ⟨rfl, hb1, hk1⟩
            have HD := Lib.hid (fun (tm : Array Value) h2 h3 => S6.out.boom (bs := bs) (tm := tm) hb1 hk1 hno h2 h3)
            clear hb1 hk1 hd hno
            go_wp2_with fail
            exact HD.out _ rfl rfl
          | some p =>
            obtain ⟨key, r5⟩ := p
            have EQ := Lib.hid (EQ.out.trans (show dK3' sq cl nu kd r4 = dK4 sq cl nu kd key r5 by rw [dK3', hd]))
            have HKS := Lib.hid (show key.size ≤ 9223372036854775807 by have h1 := rdT_size hd HB.out; obtain ⟨_, _, _, _, _, h2, _⟩ := S6.out.r; omega)
            have HB := Lib.hid (rdT_some HB.out hd).2
            go_wp2_with fail
            refine (text_some S6.out.r hd).mono ?_
            rintro e w7 ⟨rfl, hr1, hk1⟩
            have S7 := Lib.hid (S6.out.call hr1 hk1)
            clear hr1 hk1 hd S6
            have cu := blkc S7.out.u
            have zu := blkz S7.out.u
            have S8 := Lib.hid (S7.out.set 4 (.string key) (cs' := #[.int .i64 ((sq : Nat) : Int), .int .i64 ((cl : Nat) : Int), .int .i64 ((nu : Nat) : Int), .int .i64 ((kd : Nat) : Int), .string key, .string ⟨#[]⟩, .int .i64 0]) (by simp))
            clear S7
            go_upto_region 6 with (fail)
            generalize w7.setCell ⟨bu, 4, none⟩ (.string key) = W8 at *
            clear cu zu
            by_cases hk2 : (kd : Int) = 2
            · have EQ := Lib.hid (EQ.out.trans (show dK4 sq cl nu kd key r5 = dK6 sq cl nu kd key ⟨#[]⟩ 0 r5 by rw [dK4, if_pos hk2]; simp only; rw [dK5, if_neg (by omega)]))
              have e2 : ((kd : Int) != 2) = false := by simpa using hk2
              have e3 : ((kd : Int) == 3) = false := by simp; omega
              have cu := blkc S8.out.u
              clear hk2
              go_upto_region 10 with (fail)
              clear cu e2 e3
              obtain ⟨Ab, cb, hbr, hC9, hc9, hl9, hB9, hb9, hg9⟩ := id S8.out.r
              have cr := blkc hbr
              clear hbr hC9 hc9 hl9 hB9 hb9 hg9
              cases hr : r5 with
              | cons y ys =>
                have hno := EQ.out.trans (show dK6 sq cl nu kd key ⟨#[]⟩ 0 r5 = none by rw [dK6, if_neg (by rw [hr]; simp)])
                have HD := Lib.hid (fun (tm : Array Value) h2 h3 => S8.out.boom (bs := bs) (tm := tm) S8.out.b (Kept.refl _ _) hno h2 h3)
                rw [hr] at cr
                have hp1 : decide (0 < ((y :: ys).length : Int)) = true := by simp
                have hp2 : decide (0 < (y :: ys).length) = true := by simp
                clear hno hr EQ
                go_wp2_with fail
                exact HD.out _ rfl rfl
              | nil =>
                rw [hr] at cr
                have cu := blkc S8.out.u
                obtain ⟨z, hz⟩ : ∃ z, checkUpd (((sq : Nat) : Int), ((cl : Nat) : Int), ((nu : Nat) : Int), ((kd : Nat) : Int), key, ⟨#[]⟩, (0 : Int)) = z := ⟨_, rfl⟩
                have HZ := Lib.hid hz
                have HRR := Lib.hid hr
                clear hz hr
                go_wp2_with fail
                refine (checkUpd_any _ _ _ _ _ _ _ HKS.out _).mono ?_
                rintro e w9 ⟨rfl, hb9⟩
                rw [HZ.out]
                have S9 := Lib.hid (S8.out.below hb9)
                clear hb9 cu cr S8
                by_cases hz0 : z = 0
                · subst hz0
                  have hyes := EQ.out.trans (show dK6 sq cl nu kd key ⟨#[]⟩ 0 r5 = some (((sq : Nat) : Int), ((cl : Nat) : Int), ((nu : Nat) : Int), ((kd : Nat) : Int), key, ⟨#[]⟩, (0 : Int)) from if_pos ⟨HRR.out, HZ.out⟩)
                  have cu := blkc S9.out.u
                  have zu := blkz S9.out.u
                  have ce := blkc S9.out.e
                  have ze := blkz S9.out.e
                  have hne := S9.out.n.2.2.2.1
                  have FIN := Lib.hid (fun (tm : Array Value) h2 h3 => door_ok (bs := bs) (tm := tm) h2 h3 (u := (((sq : Nat) : Int), ((cl : Nat) : Int), ((nu : Nat) : Int), ((kd : Nat) : Int), key, ⟨#[]⟩, (0 : Int))) (blk_far (setU_blk S9.out.u) (p := ⟨be, 0, none⟩) S9.out.n.2.2.2.1 (.int .i64 0)) (blk_set (setU_far S9.out.e S9.out.n.2.2.2.1.symm) 0 (.int .i64 0)) (below_set (j := 0) (v := .int .i64 0) (setU_below S9.out.b S9.out.n.1) S9.out.n.2.1) hyes)
                  clear hyes EQ
                  go_wp2_with fail
                  exact FIN.out _ rfl rfl
                · have hno := EQ.out.trans (show dK6 sq cl nu kd key ⟨#[]⟩ 0 r5 = none from if_neg (fun h => hz0 (HZ.out.symm.trans h.2)))
                  have hz1 : (z != 0) = true := by simpa using hz0
                  have HD := Lib.hid (fun (tm : Array Value) h2 h3 => S9.out.boom (bs := bs) (tm := tm) S9.out.b (Kept.refl _ _) hno h2 h3)
                  clear hno EQ
                  go_wp2_with fail
                  exact HD.out _ rfl rfl
            · have e2 : ((kd : Int) != 2) = true := by simpa using hk2
              have HK2 := Lib.hid hk2
              have cu := blkc S8.out.u
              clear hk2
              go_upto_region 7 with (fail)
              clear cu e2
              cases hd : rdT r5 with
              | none =>
                have hno := EQ.out.trans (show dK4 sq cl nu kd key r5 = none by rw [dK4, if_neg HK2.out, hd])
                clear EQ HB
                go_wp2_with fail
                refine (text_none S8.out.r hd).mono ?_
                rintro e w1 ⟨rfl, hb1, hk1⟩
                have HD := Lib.hid (fun (tm : Array Value) h2 h3 => S8.out.boom (bs := bs) (tm := tm) hb1 hk1 hno h2 h3)
                clear hb1 hk1 hd hno
                go_wp2_with fail
                exact HD.out _ rfl rfl
              | some p =>
                obtain ⟨val, r6⟩ := p
                have EQ := Lib.hid (EQ.out.trans (show dK4 sq cl nu kd key r5 = dK5 sq cl nu kd key val r6 by rw [dK4, if_neg HK2.out, hd]))
                have HB := Lib.hid (rdT_some HB.out hd).2
                go_wp2_with fail
                refine (text_some S8.out.r hd).mono ?_
                rintro e w9 ⟨rfl, hr1, hk1⟩
                have S9 := Lib.hid (S8.out.call hr1 hk1)
                clear hr1 hk1 hd S8
                have cu := blkc S9.out.u
                have zu := blkz S9.out.u
                have S10 := Lib.hid (S9.out.set 5 (.string val) (cs' := #[.int .i64 ((sq : Nat) : Int), .int .i64 ((cl : Nat) : Int), .int .i64 ((nu : Nat) : Int), .int .i64 ((kd : Nat) : Int), .string key, .string val, .int .i64 0]) (by simp))
                clear S9
                go_upto_region 8 with (fail)
                generalize w9.setCell ⟨bu, 5, none⟩ (.string val) = W10 at *
                clear cu zu
                by_cases hk3 : (kd : Int) = 3
                · have e3 : ((kd : Int) == 3) = true := by simpa using hk3
                  have HK3 := Lib.hid hk3
                  have cu := blkc S10.out.u
                  clear hk3
                  go_upto_region 9 with (fail)
                  clear cu e3
                  cases hd : rdI r6 with
                  | none =>
                    have hno := EQ.out.trans (show dK5 sq cl nu kd key val r6 = none by rw [dK5, if_pos HK3.out, hd])
                    clear EQ HB
                    go_wp2_with fail
                    refine (int_none S10.out.r hd).mono ?_
                    rintro e w1 ⟨rfl, hb1, hk1⟩
                    have HD := Lib.hid (fun (tm : Array Value) h2 h3 => S10.out.boom (bs := bs) (tm := tm) hb1 hk1 hno h2 h3)
                    clear hb1 hk1 hd hno
                    go_wp2_with fail
                    exact HD.out _ rfl rfl
                  | some p =>
                    obtain ⟨ver, r7⟩ := p
                    have EQ := Lib.hid (EQ.out.trans (show dK5 sq cl nu kd key val r6 = dK6 sq cl nu kd key val ver r7 by rw [dK5, if_pos HK3.out, hd]))
                    have HB := Lib.hid (rdI_some HB.out hd).2.2
                    go_wp2_with fail
                    refine (int_some S10.out.r hd).mono ?_
                    rintro e w11 ⟨rfl, hr1, hk1⟩
                    have S11 := Lib.hid (S10.out.call hr1 hk1)
                    clear hr1 hk1 hd S10
                    have cu := blkc S11.out.u
                    have zu := blkz S11.out.u
                    have S12 := Lib.hid (S11.out.set 6 (.int .i64 (ver : Int)) (cs' := #[.int .i64 ((sq : Nat) : Int), .int .i64 ((cl : Nat) : Int), .int .i64 ((nu : Nat) : Int), .int .i64 ((kd : Nat) : Int), .string key, .string val, .int .i64 ((ver : Nat) : Int)]) (by simp))
                    clear S11
                    go_upto_region 10 with (fail)
                    generalize w11.setCell ⟨bu, 6, none⟩ (.int .i64 (ver : Int)) = W12 at *
                    clear cu zu
                    obtain ⟨Ab, cb, hbr, hC9, hc9, hl9, hB9, hb9, hg9⟩ := id S12.out.r
                    have cr := blkc hbr
                    clear hbr hC9 hc9 hl9 hB9 hb9 hg9
                    cases hr : r7 with
                    | cons y ys =>
                      have hno := EQ.out.trans (show dK6 sq cl nu kd key val ver r7 = none by rw [dK6, if_neg (by rw [hr]; simp)])
                      have HD := Lib.hid (fun (tm : Array Value) h2 h3 => S12.out.boom (bs := bs) (tm := tm) S12.out.b (Kept.refl _ _) hno h2 h3)
                      rw [hr] at cr
                      have hp1 : decide (0 < ((y :: ys).length : Int)) = true := by simp
                      have hp2 : decide (0 < (y :: ys).length) = true := by simp
                      clear hno hr EQ
                      go_wp2_with fail
                      exact HD.out _ rfl rfl
                    | nil =>
                      rw [hr] at cr
                      have cu := blkc S12.out.u
                      obtain ⟨z, hz⟩ : ∃ z, checkUpd (((sq : Nat) : Int), ((cl : Nat) : Int), ((nu : Nat) : Int), ((kd : Nat) : Int), key, val, ((ver : Nat) : Int)) = z := ⟨_, rfl⟩
                      have HZ := Lib.hid hz
                      have HRR := Lib.hid hr
                      clear hz hr
                      go_wp2_with fail
                      refine (checkUpd_any _ _ _ _ _ _ _ HKS.out _).mono ?_
                      rintro e w9 ⟨rfl, hb9⟩
                      rw [HZ.out]
                      have S9 := Lib.hid (S12.out.below hb9)
                      clear hb9 cu cr S12
                      by_cases hz0 : z = 0
                      · subst hz0
                        have hyes := EQ.out.trans (show dK6 sq cl nu kd key val ver r7 = some (((sq : Nat) : Int), ((cl : Nat) : Int), ((nu : Nat) : Int), ((kd : Nat) : Int), key, val, ((ver : Nat) : Int)) from if_pos ⟨HRR.out, HZ.out⟩)
                        have cu := blkc S9.out.u
                        have zu := blkz S9.out.u
                        have ce := blkc S9.out.e
                        have ze := blkz S9.out.e
                        have hne := S9.out.n.2.2.2.1
                        have FIN := Lib.hid (fun (tm : Array Value) h2 h3 => door_ok (bs := bs) (tm := tm) h2 h3 (u := (((sq : Nat) : Int), ((cl : Nat) : Int), ((nu : Nat) : Int), ((kd : Nat) : Int), key, val, ((ver : Nat) : Int))) (blk_far (setU_blk S9.out.u) (p := ⟨be, 0, none⟩) S9.out.n.2.2.2.1 (.int .i64 0)) (blk_set (setU_far S9.out.e S9.out.n.2.2.2.1.symm) 0 (.int .i64 0)) (below_set (j := 0) (v := .int .i64 0) (setU_below S9.out.b S9.out.n.1) S9.out.n.2.1) hyes)
                        clear hyes EQ
                        go_wp2_with fail
                        exact FIN.out _ rfl rfl
                      · have hno := EQ.out.trans (show dK6 sq cl nu kd key val ver r7 = none from if_neg (fun h => hz0 (HZ.out.symm.trans h.2)))
                        have hz1 : (z != 0) = true := by simpa using hz0
                        have HD := Lib.hid (fun (tm : Array Value) h2 h3 => S9.out.boom (bs := bs) (tm := tm) S9.out.b (Kept.refl _ _) hno h2 h3)
                        clear hno EQ
                        go_wp2_with fail
                        exact HD.out _ rfl rfl
                · have e3 : ((kd : Int) == 3) = false := by simpa using hk3
                  have EQ := Lib.hid (EQ.out.trans (show dK5 sq cl nu kd key val r6 = dK6 sq cl nu kd key val 0 r6 by rw [dK5, if_neg hk3]))
                  have cu := blkc S10.out.u
                  clear hk3
                  go_upto_region 10 with (fail)
                  clear cu e3
                  obtain ⟨Ab, cb, hbr, hC9, hc9, hl9, hB9, hb9, hg9⟩ := id S10.out.r
                  have cr := blkc hbr
                  clear hbr hC9 hc9 hl9 hB9 hb9 hg9
                  cases hr : r6 with
                  | cons y ys =>
                    have hno := EQ.out.trans (show dK6 sq cl nu kd key val 0 r6 = none by rw [dK6, if_neg (by rw [hr]; simp)])
                    have HD := Lib.hid (fun (tm : Array Value) h2 h3 => S10.out.boom (bs := bs) (tm := tm) S10.out.b (Kept.refl _ _) hno h2 h3)
                    rw [hr] at cr
                    have hp1 : decide (0 < ((y :: ys).length : Int)) = true := by simp
                    have hp2 : decide (0 < (y :: ys).length) = true := by simp
                    clear hno hr EQ
                    go_wp2_with fail
                    exact HD.out _ rfl rfl
                  | nil =>
                    rw [hr] at cr
                    have cu := blkc S10.out.u
                    obtain ⟨z, hz⟩ : ∃ z, checkUpd (((sq : Nat) : Int), ((cl : Nat) : Int), ((nu : Nat) : Int), ((kd : Nat) : Int), key, val, (0 : Int)) = z := ⟨_, rfl⟩
                    have HZ := Lib.hid hz
                    have HRR := Lib.hid hr
                    clear hz hr
                    go_wp2_with fail
                    refine (checkUpd_any _ _ _ _ _ _ _ HKS.out _).mono ?_
                    rintro e w9 ⟨rfl, hb9⟩
                    rw [HZ.out]
                    have S9 := Lib.hid (S10.out.below hb9)
                    clear hb9 cu cr S10
                    by_cases hz0 : z = 0
                    · subst hz0
                      have hyes := EQ.out.trans (show dK6 sq cl nu kd key val 0 r6 = some (((sq : Nat) : Int), ((cl : Nat) : Int), ((nu : Nat) : Int), ((kd : Nat) : Int), key, val, (0 : Int)) from if_pos ⟨HRR.out, HZ.out⟩)
                      have cu := blkc S9.out.u
                      have zu := blkz S9.out.u
                      have ce := blkc S9.out.e
                      have ze := blkz S9.out.e
                      have hne := S9.out.n.2.2.2.1
                      have FIN := Lib.hid (fun (tm : Array Value) h2 h3 => door_ok (bs := bs) (tm := tm) h2 h3 (u := (((sq : Nat) : Int), ((cl : Nat) : Int), ((nu : Nat) : Int), ((kd : Nat) : Int), key, val, (0 : Int))) (blk_far (setU_blk S9.out.u) (p := ⟨be, 0, none⟩) S9.out.n.2.2.2.1 (.int .i64 0)) (blk_set (setU_far S9.out.e S9.out.n.2.2.2.1.symm) 0 (.int .i64 0)) (below_set (j := 0) (v := .int .i64 0) (setU_below S9.out.b S9.out.n.1) S9.out.n.2.1) hyes)
                      clear hyes EQ
                      go_wp2_with fail
                      exact FIN.out _ rfl rfl
                    · have hno := EQ.out.trans (show dK6 sq cl nu kd key val 0 r6 = none from if_neg (fun h => hz0 (HZ.out.symm.trans h.2)))
                      have hz1 : (z != 0) = true := by simpa using hz0
                      have HD := Lib.hid (fun (tm : Array Value) h2 h3 => S9.out.boom (bs := bs) (tm := tm) S9.out.b (Kept.refl _ _) hno h2 h3)
                      clear hno EQ
                      go_wp2_with fail
                      exact HD.out _ rfl rfl
end Go.Proofs.Ytiboiociaedocaa.Leb
