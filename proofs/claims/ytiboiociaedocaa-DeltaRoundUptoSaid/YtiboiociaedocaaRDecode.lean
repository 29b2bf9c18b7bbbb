/- The document's Decode: what it reads of any bytes. -/
import Derived.Test.YtiboiociaedocaaRDec
set_option linter.unusedVariables false
set_option linter.unusedSimpArgs false
namespace Go.Proofs.Ytiboiociaedocaa.Leb
open Go.RowKit Go.Proofs.YtiboiociaedocaaW.PrintWords Go.Proofs.YtiboiociaedocaaW.PrintLast Go.Proofs.Ytiboiociaedocaa.CutDec Go.Proofs.Ytiboiociaedocaa.Mem Go.Proofs.Ytiboiociaedocaa.Byt Go.Proofs.Ytiboiociaedocaa.Chk Go.Proofs.Ytiboiociaedocaa.Opn
abbrev tRU : TypeId := 46
abbrev tF : TypeId := 96
theorem rdI_of62 {r : List Int} {n : Nat} {q : List Int} (h : rd62 r = some (n, q)) : rdI r = some (n, q) ∨ rdI r = none := by
  unfold rd62 at h
  unfold rdI
  split at h
  · rename_i m s hs
    rw [hs]
    simp only
    split at h
    · injection h with h
      injection h with h1 h2
      subst h1 h2
      by_cases hm : m ≤ 1152921504606846976
      · exact .inl (if_pos hm)
      · exact .inr (if_neg hm)
    · simp at h
  · simp at h
theorem rdI_no62 {r : List Int} (h : rd62 r = none) : rdI r = none := by
  unfold rd62 at h
  unfold rdI
  split at h
  · rename_i m s hs
    rw [hs]
    simp only
    split at h
    · simp at h
    · exact if_neg (by omega)
  · rename_i hs
    rw [hs]
theorem eq_step {x y z : Option UpdT} (h : x = none ∨ x = y) (k : y = none ∨ y = z) : x = none ∨ x = z := by
  rcases h with h | h
  · exact .inl h
  · rcases k with k | k
    · exact .inl (h.trans k)
    · exact .inr (h.trans k)
theorem eq_end {x y : Option UpdT} (h : x = none ∨ x = y) (k : y = none) : x = none := h.elim id (fun h => h.trans k)
theorem rd62_isB {r : List Int} {n : Nat} {q : List Int} (hB : IsB r) (h : rd62 r = some (n, q)) : IsB q := isB_right ((rd62_drop hB h).1 ▸ hB)
section
variable {w W w1 : World} {bs : List Int} {bu be bf : Nat} {a0 a1 a2 a3 a4 a5 a6 : Value} {tm cs cs' fs : Array Value} {code : Int}
set_option maxRecDepth 100000 in
theorem res_read2 (h2 : tm[2]? = some (.pointer (some ⟨bu, 0, none⟩))) (h3 : tm[3]? = some (.int .i64 code)) (hU : W.heap[bu]? = some (.cells #[a0, a1, a2, a3, a4, a5, a6] tRU (0, 0))) :
    (results Try.f30 tm).run Try.prog W = .ok (.tuple #[.agg #[a0, a1, a2, a3, a4, a5, a6], .int .i64 code]) W := by
  have cu := blkc hU
  have zu := blkz hU
  have hus := Try.underlying46
  have huo := Try.underlying41
  simp [results, Try.results30, go_sem, h2, h3, cu, hus, huo]
/-- Where the document's Decode stands: its result's block, the numbers' block. -/
structure RSt (w W : World) (bu bf : Nat) (fs : Array Value) : Prop where
  u : W.heap[bu]? = some (.cells UZ tRU (0, 0))
  f : W.heap[bf]? = some (.cells fs tF (0, 0))
  b : Below w.heap.size w W
  n : w.heap.size ≤ bu ∧ w.heap.size ≤ bf ∧ bu ≠ bf
theorem RSt.below (h : RSt w W bu bf fs) (hb : Below W.heap.size W w1) : RSt w w1 bu bf fs := ⟨blk_below h.u hb, blk_below h.f hb, below_then h.b h.b.size hb, h.n⟩
theorem RSt.set (h : RSt w W bu bf fs) (i : Nat) (v : Value) (hcs : fs.setIfInBounds i v = cs') : RSt w (W.setCell ⟨bf, i, none⟩ v) bu bf cs' :=
  ⟨blk_far h.u (p := ⟨bf, i, none⟩) h.n.2.2 v, blk_put h.f i v hcs, below_set (j := i) (v := v) h.b h.n.2.1, h.n⟩
/-- The end with an error. -/
theorem RSt.no (h : RSt w W bu bf fs) (hd : decU bs = none) (h2 : tm[2]? = some (.pointer (some ⟨bu, 0, none⟩))) (h3 : tm[3]? = some (.int .i64 86)) :
    bodyPost Try.prog Try.f30 (fun e w' => DecEnd bs e ∧ Below w.heap.size w w') Exit.ret { tmps := tm, defers := [] } (setU W bu (.int .i64 0) (.int .i64 0) (.int .i64 0) (.int .i64 0) (.string ⟨#[]⟩) (.string ⟨#[]⟩) (.int .i64 0)) :=
  bodyPost_ret (res_read2 h2 h3 (setU_blk h.u)) rfl ⟨by rw [DecEnd, hd], setU_below h.b h.n.1⟩
/-- The end with an update. -/
theorem RSt.yes (h : RSt w W bu bf fs) {u : UpdT} (hd : decU bs = some u) (h2 : tm[2]? = some (.pointer (some ⟨bu, 0, none⟩))) (h3 : tm[3]? = some (.int .i64 0)) :
    bodyPost Try.prog Try.f30 (fun e w' => DecEnd bs e ∧ Below w.heap.size w w') Exit.ret { tmps := tm, defers := [] } (setU W bu (.int .i64 u.1) (.int .i64 u.2.1) (.int .i64 u.2.2.1) (.int .i64 u.2.2.2.1) (.string u.2.2.2.2.1) (.string u.2.2.2.2.2.1) (.int .i64 u.2.2.2.2.2.2)) :=
  bodyPost_ret (res_read2 h2 h3 (setU_blk h.u)) rfl ⟨by rw [DecEnd, hd]; rfl, setU_below h.b h.n.1⟩
end
/-- .. and the update's own block. -/
structure VSt (w W : World) (bu bf bv : Nat) (fs vs : Array Value) : Prop where
  s : RSt w W bu bf fs
  v : W.heap[bv]? = some (.cells vs tRU (0, 0))
  m : w.heap.size ≤ bv ∧ bu ≠ bv ∧ bf ≠ bv
theorem VSt.below {w W w1 : World} {bu bf bv : Nat} {fs vs : Array Value} (h : VSt w W bu bf bv fs vs) (hb : Below W.heap.size W w1) : VSt w w1 bu bf bv fs vs := ⟨h.s.below hb, blk_below h.v hb, h.m⟩
theorem VSt.set {w W : World} {bu bf bv : Nat} {fs vs cs' : Array Value} (h : VSt w W bu bf bv fs vs) (i : Nat) (v : Value) (hcs : vs.setIfInBounds i v = cs') : VSt w (W.setCell ⟨bv, i, none⟩ v) bu bf bv fs cs' :=
  ⟨⟨blk_far h.s.u (p := ⟨bv, i, none⟩) h.m.2.1 v, blk_far h.s.f (p := ⟨bv, i, none⟩) h.m.2.2 v, below_set (j := i) (v := v) h.s.b h.m.1, h.s.n⟩, blk_put h.v i v hcs, h.m⟩
theorem VSt.new {w W : World} {bu bf : Nat} {fs : Array Value} (h : RSt w W bu bf fs) (vs : Array Value) : VSt w (W.alloc (.cells vs tRU)) bu bf W.heap.size fs vs :=
  ⟨h.below (below_alloc (Below.refl W.heap.size W) _), blk_new W _, h.b.size, Nat.ne_of_lt (blk_lt h.u), Nat.ne_of_lt (blk_lt h.f)⟩
theorem wrap_at {bs : List Int} {p k : Nat} (h : p + k ≤ bs.length) (hl : bs.length < 1152921504606846976) : wrap64 ((p : Int) + (k : Int)) = ((p + k : Nat) : Int) := by unfold wrap64; omega
/-- At a place of the bytes: what is left, and the cut that takes it. -/
theorem Src.place {w : World} {A : Option Addr} {c : Nat} {bs : List Int} (h : Src w A c bs) {p : Nat} {r : List Int} (hp : p ≤ bs.length) (hr : bs.drop p = r) : ∃ A', Src w A' (c - p) r ∧ ∀ W : World, (Instr.slice tBs (.slice A bs.length c) (some (.int .i64 (p : Int))) none none).run Try.prog W = .ok (.slice A' r.length (c - p)) W := by
  subst hr
  exact h.at_ hp
theorem place_next {bs r q : List Int} {p k : Nat} (hp : p ≤ bs.length) (hr : bs.drop p = r) (hk : k ≤ r.length) (hq : r.drop k = q) : p + k ≤ bs.length ∧ bs.drop (p + k) = q := by
  subst hr
  rw [List.length_drop] at hk
  exact ⟨by omega, by rw [← hq, List.drop_drop]⟩
theorem bytesOf_isB (s : ByteArray) : IsB (bytesOf s) := fun x hx => by
  obtain ⟨b, _, rfl⟩ := List.mem_map.1 hx
  have := b.toNat_lt
  omega
theorem isB_app {a b : List Int} (ha : IsB a) (hb : IsB b) : IsB (a ++ b) := fun x hx => (List.mem_append.1 hx).elim (ha x) (hb x)
theorem strB_isB (s : ByteArray) : IsB (strB s) := isB_app (lebL_isB _) (bytesOf_isB _)
theorem isB_nil : IsB [] := fun x hx => absurd hx (by simp)
theorem lebs_isB : ∀ l, IsB (lebs l)
  | [] => isB_nil
  | n :: l => isB_app (lebL_isB n) (lebs_isB l)
theorem encU_isB (u : UpdT) : IsB (encU u) := by
  refine isB_app (lebs_isB _) (isB_app (strB_isB _) (isB_app ?_ ?_))
  · split
    · exact isB_nil
    · exact strB_isB _
  · split
    · exact lebL_isB _
    · exact isB_nil
theorem strOf_inj {a b : List Int} (ha : IsB a) (hb : IsB b) (h : strOfNums a = strOfNums b) : a = b := by
  rw [← bytes_strOf ha, h, bytes_strOf hb]
theorem ba_ext {a b : ByteArray} (h : a.toList = b.toList) : a = b := by
  rw [ByteArray.toList_eq, ByteArray.toList_eq] at h
  obtain ⟨⟨a⟩⟩ := a
  obtain ⟨⟨b⟩⟩ := b
  simp only at h
  rw [h]
theorem ba_ne {a b : ByteArray} (h : a ≠ b) : (a.toList == b.toList) = false := by
  have : a.toList ≠ b.toList := fun e => h (ba_ext e)
  simpa using this
theorem no_other {bs r : List Int} (hB : IsB bs) {sq cl nu kd ver : Nat} {key val : ByteArray} (h : decU bs = none ∨ decU bs = dK6 sq cl nu kd key val ver r) (hn : encU ((sq : Int), (cl : Int), (nu : Int), (kd : Int), key, val, (ver : Int)) ≠ bs) : decU bs = none := by
  rcases h with h | h
  · exact h
  · unfold dK6 at h
    split at h
    · exact absurd ((decU_iff hB _).1 h).2 hn
    · exact h
set_option maxHeartbeats 51200000 in
set_option maxRecDepth 100000 in
theorem rdecode_any {w : World} {A : Option Addr} {c : Nat} {bs : List Int} (hS : Src w A c bs) :
    Calls Try.prog 30 #[.slice A bs.length c] w fun e w' => DecEnd bs e ∧ Below w.heap.size w w' := by
  have b1 := below_alloc (Below.refl w.heap.size w) (.cells UZ tRU)
  have b2 := below_alloc b1 (.cells #[.int .i64 0, .int .i64 0, .int .i64 0, .int .i64 0] tF)
  have e1 : (w.alloc (.cells UZ tRU)).heap.size = w.heap.size + 1 := by simp
  have U0 := blk_alloc (blk_new w (.cells UZ tRU)) (.cells #[.int .i64 0, .int .i64 0, .int .i64 0, .int .i64 0] tF)
  have F0 := blk_new (w.alloc (.cells UZ tRU)) (.cells #[.int .i64 0, .int .i64 0, .int .i64 0, .int .i64 0] tF)
  rw [e1] at F0
  obtain ⟨bu, bf, hbu, hbf⟩ : ∃ bu bf, w.heap.size = bu ∧ w.heap.size + 1 = bf := ⟨_, _, rfl, rfl⟩
  have N := (show w.heap.size ≤ bu ∧ w.heap.size ≤ bf ∧ bu ≠ bf by omega)
  rw [hbf] at F0
  rw [hbu] at U0
  have HBU := Lib.hid (And.intro hbu hbf)
  have S0 := Lib.hid (show RSt w _ bu bf _ from ⟨U0, F0, b2, N⟩)
  have SR := Lib.hid hS
  have EQ := Lib.hid (show decU bs = none ∨ decU bs = dK0 bs from .inr (decU_K bs))
  have HP0 := Lib.hid (show 0 ≤ bs.length ∧ bs.drop 0 = bs from ⟨Nat.zero_le _, rfl⟩)
  have HB := Lib.hid hS.B
  have HL := Lib.hid hS.l
  clear b1 b2 e1 U0 F0 N hbu hbf hS
  go_enter Try.func30, Try.ntmps30
  go_wp2_with fail
  rw [HBU.out.2, HBU.out.1]
  clear HBU
  generalize (w.alloc (.cells UZ tRU)).alloc (.cells #[.int .i64 0, .int .i64 0, .int .i64 0, .int .i64 0] tF) = W0 at *
  refine wp_loop_rounds 5 ?_
  rw [rounds_succ]
  obtain ⟨A0, SR0, hcut⟩ := SR.out.place (p := 0) HP0.out.1 HP0.out.2
  have SS0 := Lib.hid SR0
  clear SR0
  have hcut : ∀ W : World, (Instr.slice tBs (.slice A bs.length c) (some (.int .i64 0)) none none).run Try.prog W = .ok (.slice A0 bs.length c) W := fun W => by simpa using hcut W
  cases hd : rd62 bs with
  | none =>
    have hno := eq_end EQ.out (show dK0 bs = none by rw [dK0, rdI_no62 hd])
    have HR := Lib.hid ((SS0.out.below S0.out.b).read_none hd)
    clear hd EQ
    go_wp2_with fail
    refine HR.out.mono ?_
    rintro e w1 ⟨rfl, hb1⟩
    have T1 := Lib.hid (S0.out.below hb1)
    have cu := blkc T1.out.u
    have zu := blkz T1.out.u
    have HF := Lib.hid (fun (tm : Array Value) h2 h3 => T1.out.no (tm := tm) hno h2 h3)
    clear hb1 hno HR
    go_wp2_with fail
    exact HF.out _ rfl rfl
  | some x =>
    obtain ⟨sq, r1⟩ := x
    have EQ := Lib.hid (eq_step EQ.out (show dK0 bs = none ∨ dK0 bs = dK1 sq r1 from (rdI_of62 hd).elim (fun h => .inr (by rw [dK0, h])) (fun h => .inl (by rw [dK0, h]))))
    obtain ⟨k0, hk0, hkl, hkq, hcall⟩ := (SS0.out.below S0.out.b).read_some hd
    have HP1 := Lib.hid (place_next HP0.out.1 HP0.out.2 hkl hkq)
    have HB := Lib.hid (rd62_isB HB.out hd)
    have HR := Lib.hid hcall
    have hk1 : ((k0 : Int) == 0) = false := by simp; omega
    clear hk0 hkl hkq hcall hd
    go_wp2_with fail
    refine HR.out.mono ?_
    rintro e w1 ⟨rfl, hb1⟩
    have T1 := Lib.hid (S0.out.below hb1)
    have cf := blkc T1.out.f
    have zf := blkz T1.out.f
    have S1 := Lib.hid (T1.out.set 0 (.int .i64 (sq : Int)) (cs' := #[.int .i64 ((sq : Nat) : Int), .int .i64 0, .int .i64 0, .int .i64 0]) (by simp))
    have hwp : wrap64 (k0 : Int) = (k0 : Int) := w64_nat (by have h1 := HP1.out.1; have h2 := HL.out; omega)
    clear hb1 T1 S0 HR hcut
    go_wp2_with fail
    clear cf zf hk1
    generalize w1.setCell ⟨bf, 0, none⟩ (.int .i64 (sq : Int)) = W1 at *
    try rw [hwp]
    clear hwp
    rw [Nat.zero_add] at HP1
    obtain ⟨p1, hp1⟩ : ∃ p : Nat, p = k0 := ⟨_, rfl⟩
    rw [← hp1] at HP1 ⊢
    clear hp1
    rw [rounds_succ]
    obtain ⟨A1, SR1, hcut⟩ := SR.out.place (p := p1) HP1.out.1 HP1.out.2
    have SS1 := Lib.hid SR1
    clear SR1
    cases hd : rd62 r1 with
    | none =>
      have hno := eq_end EQ.out (show dK1 sq r1 = none by rw [dK1, rdI_no62 hd])
      have HR := Lib.hid ((SS1.out.below S1.out.b).read_none hd)
      clear hd EQ
      go_wp2_with fail
      refine HR.out.mono ?_
      rintro e w1 ⟨rfl, hb1⟩
      have T1 := Lib.hid (S1.out.below hb1)
      have cu := blkc T1.out.u
      have zu := blkz T1.out.u
      have HF := Lib.hid (fun (tm : Array Value) h2 h3 => T1.out.no (tm := tm) hno h2 h3)
      clear hb1 hno HR
      go_wp2_with fail
      exact HF.out _ rfl rfl
    | some x =>
      obtain ⟨cl, r2⟩ := x
      have EQ := Lib.hid (eq_step EQ.out (show dK1 sq r1 = none ∨ dK1 sq r1 = dK2 sq cl r2 from (rdI_of62 hd).elim (fun h => .inr (by rw [dK1, h])) (fun h => .inl (by rw [dK1, h]))))
      obtain ⟨k1, hk0, hkl, hkq, hcall⟩ := (SS1.out.below S1.out.b).read_some hd
      have HP2 := Lib.hid (place_next HP1.out.1 HP1.out.2 hkl hkq)
      have HB := Lib.hid (rd62_isB HB.out hd)
      have HR := Lib.hid hcall
      have hk1 : ((k1 : Int) == 0) = false := by simp; omega
      clear hk0 hkl hkq hcall hd
      go_wp2_with fail
      refine HR.out.mono ?_
      rintro e w2 ⟨rfl, hb1⟩
      have T2 := Lib.hid (S1.out.below hb1)
      have cf := blkc T2.out.f
      have zf := blkz T2.out.f
      have S2 := Lib.hid (T2.out.set 1 (.int .i64 (cl : Int)) (cs' := #[.int .i64 ((sq : Nat) : Int), .int .i64 ((cl : Nat) : Int), .int .i64 0, .int .i64 0]) (by simp))
      have hwp := wrap_at HP2.out.1 HL.out
      clear hb1 T2 S1 HR hcut
      go_wp2_with fail
      clear cf zf hk1
      generalize w2.setCell ⟨bf, 1, none⟩ (.int .i64 (cl : Int)) = W2 at *
      try rw [hwp]
      clear hwp
      obtain ⟨p2, hp2⟩ : ∃ p : Nat, p = p1 + k1 := ⟨_, rfl⟩
      rw [← hp2] at HP2 ⊢
      clear hp2
      rw [rounds_succ]
      obtain ⟨A2, SR2, hcut⟩ := SR.out.place (p := p2) HP2.out.1 HP2.out.2
      have SS2 := Lib.hid SR2
      clear SR2
      cases hd : rd62 r2 with
      | none =>
        have hno := eq_end EQ.out (show dK2 sq cl r2 = none by rw [dK2, rdI_no62 hd])
        have HR := Lib.hid ((SS2.out.below S2.out.b).read_none hd)
        clear hd EQ
        go_wp2_with fail
        refine HR.out.mono ?_
        rintro e w1 ⟨rfl, hb1⟩
        have T1 := Lib.hid (S2.out.below hb1)
        have cu := blkc T1.out.u
        have zu := blkz T1.out.u
        have HF := Lib.hid (fun (tm : Array Value) h2 h3 => T1.out.no (tm := tm) hno h2 h3)
        clear hb1 hno HR
        go_wp2_with fail
        exact HF.out _ rfl rfl
      | some x =>
        obtain ⟨nu, r3⟩ := x
        have EQ := Lib.hid (eq_step EQ.out (show dK2 sq cl r2 = none ∨ dK2 sq cl r2 = dK3 sq cl nu r3 from (rdI_of62 hd).elim (fun h => .inr (by rw [dK2, h])) (fun h => .inl (by rw [dK2, h]))))
        obtain ⟨k2, hk0, hkl, hkq, hcall⟩ := (SS2.out.below S2.out.b).read_some hd
        have HP3 := Lib.hid (place_next HP2.out.1 HP2.out.2 hkl hkq)
        have HB := Lib.hid (rd62_isB HB.out hd)
        have HR := Lib.hid hcall
        have hk1 : ((k2 : Int) == 0) = false := by simp; omega
        clear hk0 hkl hkq hcall hd
        go_wp2_with fail
        refine HR.out.mono ?_
        rintro e w3 ⟨rfl, hb1⟩
        have T3 := Lib.hid (S2.out.below hb1)
        have cf := blkc T3.out.f
        have zf := blkz T3.out.f
        have S3 := Lib.hid (T3.out.set 2 (.int .i64 (nu : Int)) (cs' := #[.int .i64 ((sq : Nat) : Int), .int .i64 ((cl : Nat) : Int), .int .i64 ((nu : Nat) : Int), .int .i64 0]) (by simp))
        have hwp := wrap_at HP3.out.1 HL.out
        clear hb1 T3 S2 HR hcut
        go_wp2_with fail
        clear cf zf hk1
        generalize w3.setCell ⟨bf, 2, none⟩ (.int .i64 (nu : Int)) = W3 at *
        try rw [hwp]
        clear hwp
        obtain ⟨p3, hp3⟩ : ∃ p : Nat, p = p2 + k2 := ⟨_, rfl⟩
        rw [← hp3] at HP3 ⊢
        clear hp3
        rw [rounds_succ]
        obtain ⟨A3, SR3, hcut⟩ := SR.out.place (p := p3) HP3.out.1 HP3.out.2
        have SS3 := Lib.hid SR3
        clear SR3
        cases hd : rd62 r3 with
        | none =>
          have hno := eq_end EQ.out (show dK3 sq cl nu r3 = none by rw [dK3, rdI_no62 hd])
          have HR := Lib.hid ((SS3.out.below S3.out.b).read_none hd)
          clear hd EQ
          go_wp2_with fail
          refine HR.out.mono ?_
          rintro e w1 ⟨rfl, hb1⟩
          have T1 := Lib.hid (S3.out.below hb1)
          have cu := blkc T1.out.u
          have zu := blkz T1.out.u
          have HF := Lib.hid (fun (tm : Array Value) h2 h3 => T1.out.no (tm := tm) hno h2 h3)
          clear hb1 hno HR
          go_wp2_with fail
          exact HF.out _ rfl rfl
        | some x =>
          obtain ⟨kd, r4⟩ := x
          have EQ := Lib.hid (eq_step EQ.out (show dK3 sq cl nu r3 = none ∨ dK3 sq cl nu r3 = dK3' sq cl nu kd r4 from (rdI_of62 hd).elim (fun h => .inr (by rw [dK3, h])) (fun h => .inl (by rw [dK3, h]))))
          obtain ⟨k3, hk0, hkl, hkq, hcall⟩ := (SS3.out.below S3.out.b).read_some hd
          have HP4 := Lib.hid (place_next HP3.out.1 HP3.out.2 hkl hkq)
          have HB := Lib.hid (rd62_isB HB.out hd)
          have HR := Lib.hid hcall
          have hk1 : ((k3 : Int) == 0) = false := by simp; omega
          clear hk0 hkl hkq hcall hd
          go_wp2_with fail
          refine HR.out.mono ?_
          rintro e w4 ⟨rfl, hb1⟩
          have T4 := Lib.hid (S3.out.below hb1)
          have cf := blkc T4.out.f
          have zf := blkz T4.out.f
          have S4 := Lib.hid (T4.out.set 3 (.int .i64 (kd : Int)) (cs' := #[.int .i64 ((sq : Nat) : Int), .int .i64 ((cl : Nat) : Int), .int .i64 ((nu : Nat) : Int), .int .i64 ((kd : Nat) : Int)]) (by simp))
          have hwp := wrap_at HP4.out.1 HL.out
          clear hb1 T4 S3 HR hcut
          go_wp2_with fail
          clear cf zf hk1
          generalize w4.setCell ⟨bf, 3, none⟩ (.int .i64 (kd : Int)) = W4 at *
          try rw [hwp]
          clear hwp
          obtain ⟨p4, hp4⟩ : ∃ p : Nat, p = p3 + k3 := ⟨_, rfl⟩
          rw [← hp4] at HP4 ⊢
          clear hp4
          rw [rounds_succ]
          have cf := blkc S4.out.f
          have V5 := Lib.hid (VSt.new S4.out #[.int .i64 ((sq : Nat) : Int), .int .i64 ((cl : Nat) : Int), .int .i64 ((nu : Nat) : Int), .int .i64 ((kd : Nat) : Int), .string ⟨#[]⟩, .string ⟨#[]⟩, .int .i64 0])
          obtain ⟨A4, SR4, hcut⟩ := SR.out.place (p := p4) HP4.out.1 HP4.out.2
          have SS4 := Lib.hid SR4
          clear SR4
          clear S4
          go_upto_region 12 with (fail)
          clear cf
          generalize W4.heap.size = bv at *
          generalize (World.alloc W4 _) = W5 at *
          cases hd : rdT r4 with
          | none =>
            have hno := eq_end EQ.out (show dK3' sq cl nu kd r4 = none by rw [dK3', hd])
            have HNO := Lib.hid hno
            have HR := Lib.hid ((SS4.out.below V5.out.s.b).taken_none hd)
            clear hd hno
            go_wp2_with fail
            refine HR.out.mono ?_
            rintro e w1 ⟨rfl, hb1⟩
            have T1 := Lib.hid (V5.out.below hb1)
            have cv := blkc T1.out.v
            have zv := blkz T1.out.v
            have V6 := Lib.hid (T1.out.set 4 (.string ⟨#[]⟩) (cs' := #[.int .i64 ((sq : Nat) : Int), .int .i64 ((cl : Nat) : Int), .int .i64 ((nu : Nat) : Int), .int .i64 ((kd : Nat) : Int), .string ⟨#[]⟩, .string ⟨#[]⟩, .int .i64 0]) (by simp))
            clear hb1 T1
            go_upto_region 14 with (fail)
            clear cv zv
            generalize w1.setCell ⟨bv, 4, none⟩ (.string ⟨#[]⟩) = W6 at *
            have cv := blkc V6.out.v
            go_wp2_with fail
            clear cv
            refine (rEncode_any _ _ _ _ 0 _ _ (by decide) _).mono ?_
            rintro e w19 ⟨v19, rfl, ho19, hb19⟩
            have V19 := Lib.hid (V6.out.below hb19)
            have HO19 := Lib.hid ho19
            clear ho19 hb19 V6
            have cu := blkc V19.out.s.u
            have zu := blkz V19.out.s.u
            have HF := Lib.hid (fun (tm : Array Value) h2 h3 => V19.out.s.no (tm := tm) HNO.out h2 h3)
            clear EQ V19 
            go_wp2_with fail
            exact HF.out _ rfl rfl
          | some x =>
            obtain ⟨key, r5⟩ := x
            have EQ := Lib.hid (eq_step EQ.out (show dK3' sq cl nu kd r4 = none ∨ dK3' sq cl nu kd r4 = dK4 sq cl nu kd key r5 from .inr (by rw [dK3', hd])))
            obtain ⟨k4, hk0, hkl, hkq, hcall⟩ := (SS4.out.below V5.out.s.b).taken_some hd
            have HP5 := Lib.hid (place_next HP4.out.1 HP4.out.2 hkl hkq)
            have HKS := Lib.hid (show key.size ≤ 9223372036854775807 by have h1 := rdT_size hd HB.out; have h2 := SS4.out.l; omega)
            have HB := Lib.hid (rdT_some HB.out hd).2
            have HR := Lib.hid hcall
            have hk1 : decide (0 < (k4 : Int)) = true := by simp; omega
            have hk2 : ((k4 : Int) == 0) = false := by simp; omega
            have HK4 := Lib.hid (And.intro hk1 hk2)
            have hk3 : decide (0 < k4) = true := by simp; omega
            clear hk0 hkl hkq hcall hd hk2
            go_wp2_with fail
            refine HR.out.mono ?_
            rintro e w6 ⟨rfl, hb1⟩
            have T6 := Lib.hid (V5.out.below hb1)
            have cv := blkc T6.out.v
            have zv := blkz T6.out.v
            clear hb1 HR hcut V5
            have V6 := Lib.hid (T6.out.set 4 (.string key) (cs' := #[.int .i64 ((sq : Nat) : Int), .int .i64 ((cl : Nat) : Int), .int .i64 ((nu : Nat) : Int), .int .i64 ((kd : Nat) : Int), .string key, .string ⟨#[]⟩, .int .i64 0]) (by simp))
            have hwp := wrap_at HP5.out.1 HL.out
            clear T6
            go_upto_region 15 with (fail)
            clear cv zv
            generalize w6.setCell ⟨bv, 4, none⟩ (.string key) = W6 at *
            try rw [hwp]
            clear hwp
            obtain ⟨p5, hp5⟩ : ∃ p : Nat, p = p4 + k4 := ⟨_, rfl⟩
            rw [← hp5] at HP5 ⊢
            clear hp5
            by_cases hk : (kd : Int) = 2
            · have EQ := Lib.hid (eq_step EQ.out (show dK4 sq cl nu kd key r5 = none ∨ dK4 sq cl nu kd key r5 = dK6 sq cl nu kd key ⟨#[]⟩ 0 r5 from .inr (by rw [dK4, if_pos hk]; simp only; rw [dK5, if_neg (by omega)])))
              have e2 : ((kd : Int) != 2) = false := by simpa using hk
              have e3 : ((kd : Int) == 3) = false := by simp; omega
              have cv := blkc V6.out.v
              clear hk
              go_upto_region 20 with (fail)
              clear cv e2 e3 hk1 hk3
              obtain ⟨z, hz⟩ : ∃ z, checkUpd (((sq : Nat) : Int), ((cl : Nat) : Int), ((nu : Nat) : Int), ((kd : Nat) : Int), key, ⟨#[]⟩, (0 : Int)) = z := ⟨_, rfl⟩
              have HZ := Lib.hid hz
              clear hz
              have cv := blkc V6.out.v
              go_wp2_with fail
              clear cv
              refine (rEncode_any _ _ _ _ 0 _ _ HKS.out _).mono ?_
              rintro e w19 ⟨v19, rfl, ho19, hb19⟩
              have V19 := Lib.hid (V6.out.below hb19)
              have HO19 := Lib.hid ho19
              clear ho19 hb19 V6
              rw [HZ.out]
              have hk2 := HK4.out.2
              by_cases hz0 : z = 0
              · subst hz0
                rw [show encE (((sq : Nat) : Int), ((cl : Nat) : Int), ((nu : Nat) : Int), ((kd : Nat) : Int), key, ⟨#[]⟩, (0 : Int)) = encU (((sq : Nat) : Int), ((cl : Nat) : Int), ((nu : Nat) : Int), ((kd : Nat) : Int), key, ⟨#[]⟩, (0 : Int)) from if_pos HZ.out] at HO19
                have st1 := own_string Try.underlying49 Try.underlying5 Try.underlying9 HO19.out
                have st2 := Kd.C_string (src := tBs) (dst := 9) (c := c) Try.underlying49 Try.underlying5 Try.underlying9 (SR.out.below V19.out.s.b).C
                by_cases hsame : encU (((sq : Nat) : Int), ((cl : Nat) : Int), ((nu : Nat) : Int), ((kd : Nat) : Int), key, ⟨#[]⟩, (0 : Int)) = bs
                · rw [hsame] at st1
                  have hyes := (decU_iff SR.out.B (((sq : Nat) : Int), ((cl : Nat) : Int), ((nu : Nat) : Int), ((kd : Nat) : Int), key, ⟨#[]⟩, (0 : Int))).2 ⟨HZ.out, hsame⟩
                  have cu := blkc V19.out.s.u
                  have zu := blkz V19.out.s.u
                  have cv := blkc V19.out.v
                  have HF := Lib.hid (fun (tm : Array Value) h2 h3 => V19.out.s.yes (tm := tm) hyes h2 h3)
                  clear EQ V19 HO19 hyes hsame
                  go_wp2_with fail
                  exact HF.out _ rfl rfl
                · have hne : strOfNums (encU (((sq : Nat) : Int), ((cl : Nat) : Int), ((nu : Nat) : Int), ((kd : Nat) : Int), key, ⟨#[]⟩, (0 : Int))) ≠ strOfNums bs := fun h => hsame (strOf_inj (encU_isB _) SR.out.B h)
                  have HNO := Lib.hid (no_other SR.out.B EQ.out hsame)
                  generalize strOfNums (encU (((sq : Nat) : Int), ((cl : Nat) : Int), ((nu : Nat) : Int), ((kd : Nat) : Int), key, ⟨#[]⟩, (0 : Int))) = sa at *
                  generalize strOfNums bs = sb at *
                  have hne1 := ba_ne hne
                  clear hsame HO19
                  have cu := blkc V19.out.s.u
                  have zu := blkz V19.out.s.u
                  have HF := Lib.hid (fun (tm : Array Value) h2 h3 => V19.out.s.no (tm := tm) HNO.out h2 h3)
                  clear EQ V19 
                  go_wp2_with fail
                  exact HF.out _ rfl rfl
              · have hz1 : (z != 0) = true := by simpa using hz0
                have HNO := Lib.hid (eq_end EQ.out (show dK6 sq cl nu kd key ⟨#[]⟩ 0 r5 = none from if_neg (fun h => hz0 (HZ.out.symm.trans h.2))))
                clear hz0 HO19
                have cu := blkc V19.out.s.u
                have zu := blkz V19.out.s.u
                have HF := Lib.hid (fun (tm : Array Value) h2 h3 => V19.out.s.no (tm := tm) HNO.out h2 h3)
                clear EQ V19 
                go_wp2_with fail
                exact HF.out _ rfl rfl
            · have e2 : ((kd : Int) != 2) = true := by simpa using hk
              have HKD := Lib.hid hk
              have cv := blkc V6.out.v
              clear hk
              obtain ⟨A5, SR5, hcut⟩ := SR.out.place (p := p5) HP5.out.1 HP5.out.2
              have SS5 := Lib.hid SR5
              clear SR5
              go_upto_region 16 with (fail)
              clear cv e2 hk1 hk3
              cases hd : rdT r5 with
              | none =>
                have hno := eq_end EQ.out (show dK4 sq cl nu kd key r5 = none by rw [dK4, if_neg HKD.out, hd])
                have HNO := Lib.hid hno
                have HR := Lib.hid ((SS5.out.below V6.out.s.b).taken_none hd)
                clear hd hno
                go_wp2_with fail
                refine HR.out.mono ?_
                rintro e w1 ⟨rfl, hb1⟩
                have T1 := Lib.hid (V6.out.below hb1)
                have cv := blkc T1.out.v
                have zv := blkz T1.out.v
                have V8 := Lib.hid (T1.out.set 5 (.string ⟨#[]⟩) (cs' := #[.int .i64 ((sq : Nat) : Int), .int .i64 ((cl : Nat) : Int), .int .i64 ((nu : Nat) : Int), .int .i64 ((kd : Nat) : Int), .string key, .string ⟨#[]⟩, .int .i64 0]) (by simp))
                clear hb1 T1
                go_upto_region 18 with (fail)
                clear cv zv
                generalize w1.setCell ⟨bv, 5, none⟩ (.string ⟨#[]⟩) = W8 at *
                have cv := blkc V8.out.v
                go_wp2_with fail
                clear cv
                refine (rEncode_any _ _ _ _ 0 _ _ HKS.out _).mono ?_
                rintro e w19 ⟨v19, rfl, ho19, hb19⟩
                have V19 := Lib.hid (V8.out.below hb19)
                have HO19 := Lib.hid ho19
                clear ho19 hb19 V8
                have cu := blkc V19.out.s.u
                have zu := blkz V19.out.s.u
                have HF := Lib.hid (fun (tm : Array Value) h2 h3 => V19.out.s.no (tm := tm) HNO.out h2 h3)
                clear EQ V19 
                go_wp2_with fail
                exact HF.out _ rfl rfl
              | some x =>
                obtain ⟨val, r6⟩ := x
                have EQ := Lib.hid (eq_step EQ.out (show dK4 sq cl nu kd key r5 = none ∨ dK4 sq cl nu kd key r5 = dK5 sq cl nu kd key val r6 from .inr (by rw [dK4, if_neg HKD.out, hd])))
                obtain ⟨k5, hk0, hkl, hkq, hcall⟩ := (SS5.out.below V6.out.s.b).taken_some hd
                have HP6 := Lib.hid (place_next HP5.out.1 HP5.out.2 hkl hkq)
                have HB := Lib.hid (rdT_some HB.out hd).2
                have HR := Lib.hid hcall
                have hk1 : decide (0 < (k5 : Int)) = true := by simp; omega
                have hk2 : ((k5 : Int) == 0) = false := by simp; omega
                have HK5 := Lib.hid (And.intro hk1 hk2)
                have hk3 : decide (0 < k5) = true := by simp; omega
                clear hk0 hkl hkq hcall hd hk2
                go_wp2_with fail
                refine HR.out.mono ?_
                rintro e w7 ⟨rfl, hb1⟩
                have T7 := Lib.hid (V6.out.below hb1)
                have cv := blkc T7.out.v
                have zv := blkz T7.out.v
                clear hb1 HR hcut V6
                have V8 := Lib.hid (T7.out.set 5 (.string val) (cs' := #[.int .i64 ((sq : Nat) : Int), .int .i64 ((cl : Nat) : Int), .int .i64 ((nu : Nat) : Int), .int .i64 ((kd : Nat) : Int), .string key, .string val, .int .i64 0]) (by simp))
                have hwp := wrap_at HP6.out.1 HL.out
                clear T7
                go_upto_region 18 with (fail)
                clear cv zv
                generalize w7.setCell ⟨bv, 5, none⟩ (.string val) = W8 at *
                try rw [hwp]
                clear hwp
                obtain ⟨p6, hp6⟩ : ∃ p : Nat, p = p5 + k5 := ⟨_, rfl⟩
                rw [← hp6] at HP6 ⊢
                clear hp6
                by_cases hk : (kd : Int) = 3
                · have e3 : ((kd : Int) == 3) = true := by simpa using hk
                  have HK3 := Lib.hid hk
                  have cv := blkc V8.out.v
                  clear hk
                  obtain ⟨A6, SR6, hcut⟩ := SR.out.place (p := p6) HP6.out.1 HP6.out.2
                  have SS6 := Lib.hid SR6
                  clear SR6
                  go_upto_region 19 with (fail)
                  clear cv e3 hk1 hk3
                  cases hd : rd62 r6 with
                  | none =>
                    have HNO := Lib.hid (eq_end EQ.out (show dK5 sq cl nu kd key val r6 = none by rw [dK5, if_pos HK3.out, rdI_no62 hd]))
                    have HR := Lib.hid ((SS6.out.below V8.out.s.b).read_none hd)
                    clear hd
                    go_wp2_with fail
                    refine HR.out.mono ?_
                    rintro e w1 ⟨rfl, hb1⟩
                    have T1 := Lib.hid (V8.out.below hb1)
                    have cv := blkc T1.out.v
                    have zv := blkz T1.out.v
                    have V10 := Lib.hid (T1.out.set 6 (.int .i64 0) (cs' := #[.int .i64 ((sq : Nat) : Int), .int .i64 ((cl : Nat) : Int), .int .i64 ((nu : Nat) : Int), .int .i64 ((kd : Nat) : Int), .string key, .string val, .int .i64 0]) (by simp))
                    clear hb1 T1
                    go_upto_region 20 with (fail)
                    clear cv zv
                    generalize w1.setCell ⟨bv, 6, none⟩ (.int .i64 0) = W10 at *
                    have cv := blkc V10.out.v
                    go_wp2_with fail
                    clear cv
                    refine (rEncode_any _ _ _ _ 0 _ _ HKS.out _).mono ?_
                    rintro e w19 ⟨v19, rfl, ho19, hb19⟩
                    have V19 := Lib.hid (V10.out.below hb19)
                    have HO19 := Lib.hid ho19
                    clear ho19 hb19 V10
                    have cu := blkc V19.out.s.u
                    have zu := blkz V19.out.s.u
                    have HF := Lib.hid (fun (tm : Array Value) h2 h3 => V19.out.s.no (tm := tm) HNO.out h2 h3)
                    clear EQ V19 
                    go_wp2_with fail
                    exact HF.out _ rfl rfl
                  | some x =>
                    obtain ⟨ver, r7⟩ := x
                    have EQ := Lib.hid (eq_step EQ.out (show dK5 sq cl nu kd key val r6 = none ∨ dK5 sq cl nu kd key val r6 = dK6 sq cl nu kd key val ver r7 from (rdI_of62 hd).elim (fun h => .inr (by rw [dK5, if_pos HK3.out, h])) (fun h => .inl (by rw [dK5, if_pos HK3.out, h]))))
                    obtain ⟨k6, hk0, hkl, hkq, hcall⟩ := (SS6.out.below V8.out.s.b).read_some hd
                    have HR := Lib.hid hcall
                    have HK6 := Lib.hid (show decide (0 < (k6 : Int)) = true ∧ ((k6 : Int) == 0) = false from ⟨by simp; omega, by simp; omega⟩)
                    clear hk0 hkl hkq hcall hd
                    go_wp2_with fail
                    refine HR.out.mono ?_
                    rintro e w9 ⟨rfl, hb1⟩
                    have T9 := Lib.hid (V8.out.below hb1)
                    have cv := blkc T9.out.v
                    have zv := blkz T9.out.v
                    have V10 := Lib.hid (T9.out.set 6 (.int .i64 (ver : Int)) (cs' := #[.int .i64 ((sq : Nat) : Int), .int .i64 ((cl : Nat) : Int), .int .i64 ((nu : Nat) : Int), .int .i64 ((kd : Nat) : Int), .string key, .string val, .int .i64 ((ver : Nat) : Int)]) (by simp))
                    clear hb1 T9 HR hcut V8
                    go_upto_region 20 with (fail)
                    clear cv zv
                    generalize w9.setCell ⟨bv, 6, none⟩ (.int .i64 (ver : Int)) = W10 at *
                    obtain ⟨z, hz⟩ : ∃ z, checkUpd (((sq : Nat) : Int), ((cl : Nat) : Int), ((nu : Nat) : Int), ((kd : Nat) : Int), key, val, ((ver : Nat) : Int)) = z := ⟨_, rfl⟩
                    have HZ := Lib.hid hz
                    clear hz
                    have cv := blkc V10.out.v
                    go_wp2_with fail
                    clear cv
                    refine (rEncode_any _ _ _ _ ver _ _ HKS.out _).mono ?_
                    rintro e w19 ⟨v19, rfl, ho19, hb19⟩
                    have V19 := Lib.hid (V10.out.below hb19)
                    have HO19 := Lib.hid ho19
                    clear ho19 hb19 V10
                    rw [HZ.out]
                    have hk2 := HK6.out.2
                    by_cases hz0 : z = 0
                    · subst hz0
                      rw [show encE (((sq : Nat) : Int), ((cl : Nat) : Int), ((nu : Nat) : Int), ((kd : Nat) : Int), key, val, ((ver : Nat) : Int)) = encU (((sq : Nat) : Int), ((cl : Nat) : Int), ((nu : Nat) : Int), ((kd : Nat) : Int), key, val, ((ver : Nat) : Int)) from if_pos HZ.out] at HO19
                      have st1 := own_string Try.underlying49 Try.underlying5 Try.underlying9 HO19.out
                      have st2 := Kd.C_string (src := tBs) (dst := 9) (c := c) Try.underlying49 Try.underlying5 Try.underlying9 (SR.out.below V19.out.s.b).C
                      by_cases hsame : encU (((sq : Nat) : Int), ((cl : Nat) : Int), ((nu : Nat) : Int), ((kd : Nat) : Int), key, val, ((ver : Nat) : Int)) = bs
                      · rw [hsame] at st1
                        have hyes := (decU_iff SR.out.B (((sq : Nat) : Int), ((cl : Nat) : Int), ((nu : Nat) : Int), ((kd : Nat) : Int), key, val, ((ver : Nat) : Int))).2 ⟨HZ.out, hsame⟩
                        have cu := blkc V19.out.s.u
                        have zu := blkz V19.out.s.u
                        have cv := blkc V19.out.v
                        have HF := Lib.hid (fun (tm : Array Value) h2 h3 => V19.out.s.yes (tm := tm) hyes h2 h3)
                        clear EQ V19 HO19 hyes hsame
                        go_wp2_with fail
                        exact HF.out _ rfl rfl
                      · have hne : strOfNums (encU (((sq : Nat) : Int), ((cl : Nat) : Int), ((nu : Nat) : Int), ((kd : Nat) : Int), key, val, ((ver : Nat) : Int))) ≠ strOfNums bs := fun h => hsame (strOf_inj (encU_isB _) SR.out.B h)
                        have HNO := Lib.hid (no_other SR.out.B EQ.out hsame)
                        generalize strOfNums (encU (((sq : Nat) : Int), ((cl : Nat) : Int), ((nu : Nat) : Int), ((kd : Nat) : Int), key, val, ((ver : Nat) : Int))) = sa at *
                        generalize strOfNums bs = sb at *
                        have hne1 := ba_ne hne
                        clear hsame HO19
                        have cu := blkc V19.out.s.u
                        have zu := blkz V19.out.s.u
                        have HF := Lib.hid (fun (tm : Array Value) h2 h3 => V19.out.s.no (tm := tm) HNO.out h2 h3)
                        clear EQ V19 
                        go_wp2_with fail
                        exact HF.out _ rfl rfl
                    · have hz1 : (z != 0) = true := by simpa using hz0
                      have HNO := Lib.hid (eq_end EQ.out (show dK6 sq cl nu kd key val ver r7 = none from if_neg (fun h => hz0 (HZ.out.symm.trans h.2))))
                      clear hz0 HO19
                      have cu := blkc V19.out.s.u
                      have zu := blkz V19.out.s.u
                      have HF := Lib.hid (fun (tm : Array Value) h2 h3 => V19.out.s.no (tm := tm) HNO.out h2 h3)
                      clear EQ V19 
                      go_wp2_with fail
                      exact HF.out _ rfl rfl
                · have e3 : ((kd : Int) == 3) = false := by simpa using hk
                  have EQ := Lib.hid (eq_step EQ.out (show dK5 sq cl nu kd key val r6 = none ∨ dK5 sq cl nu kd key val r6 = dK6 sq cl nu kd key val 0 r6 from .inr (by rw [dK5, if_neg hk])))
                  have cv := blkc V8.out.v
                  clear hk
                  go_upto_region 20 with (fail)
                  clear cv e3 hk1 hk3
                  obtain ⟨z, hz⟩ : ∃ z, checkUpd (((sq : Nat) : Int), ((cl : Nat) : Int), ((nu : Nat) : Int), ((kd : Nat) : Int), key, val, (0 : Int)) = z := ⟨_, rfl⟩
                  have HZ := Lib.hid hz
                  clear hz
                  have cv := blkc V8.out.v
                  go_wp2_with fail
                  clear cv
                  refine (rEncode_any _ _ _ _ 0 _ _ HKS.out _).mono ?_
                  rintro e w19 ⟨v19, rfl, ho19, hb19⟩
                  have V19 := Lib.hid (V8.out.below hb19)
                  have HO19 := Lib.hid ho19
                  clear ho19 hb19 V8
                  rw [HZ.out]
                  have hk2 := HK5.out.2
                  by_cases hz0 : z = 0
                  · subst hz0
                    rw [show encE (((sq : Nat) : Int), ((cl : Nat) : Int), ((nu : Nat) : Int), ((kd : Nat) : Int), key, val, (0 : Int)) = encU (((sq : Nat) : Int), ((cl : Nat) : Int), ((nu : Nat) : Int), ((kd : Nat) : Int), key, val, (0 : Int)) from if_pos HZ.out] at HO19
                    have st1 := own_string Try.underlying49 Try.underlying5 Try.underlying9 HO19.out
                    have st2 := Kd.C_string (src := tBs) (dst := 9) (c := c) Try.underlying49 Try.underlying5 Try.underlying9 (SR.out.below V19.out.s.b).C
                    by_cases hsame : encU (((sq : Nat) : Int), ((cl : Nat) : Int), ((nu : Nat) : Int), ((kd : Nat) : Int), key, val, (0 : Int)) = bs
                    · rw [hsame] at st1
                      have hyes := (decU_iff SR.out.B (((sq : Nat) : Int), ((cl : Nat) : Int), ((nu : Nat) : Int), ((kd : Nat) : Int), key, val, (0 : Int))).2 ⟨HZ.out, hsame⟩
                      have cu := blkc V19.out.s.u
                      have zu := blkz V19.out.s.u
                      have cv := blkc V19.out.v
                      have HF := Lib.hid (fun (tm : Array Value) h2 h3 => V19.out.s.yes (tm := tm) hyes h2 h3)
                      clear EQ V19 HO19 hyes hsame
                      go_wp2_with fail
                      exact HF.out _ rfl rfl
                    · have hne : strOfNums (encU (((sq : Nat) : Int), ((cl : Nat) : Int), ((nu : Nat) : Int), ((kd : Nat) : Int), key, val, (0 : Int))) ≠ strOfNums bs := fun h => hsame (strOf_inj (encU_isB _) SR.out.B h)
                      have HNO := Lib.hid (no_other SR.out.B EQ.out hsame)
                      generalize strOfNums (encU (((sq : Nat) : Int), ((cl : Nat) : Int), ((nu : Nat) : Int), ((kd : Nat) : Int), key, val, (0 : Int))) = sa at *
                      generalize strOfNums bs = sb at *
                      have hne1 := ba_ne hne
                      clear hsame HO19
                      have cu := blkc V19.out.s.u
                      have zu := blkz V19.out.s.u
                      have HF := Lib.hid (fun (tm : Array Value) h2 h3 => V19.out.s.no (tm := tm) HNO.out h2 h3)
                      clear EQ V19 
                      go_wp2_with fail
                      exact HF.out _ rfl rfl
                  · have hz1 : (z != 0) = true := by simpa using hz0
                    have HNO := Lib.hid (eq_end EQ.out (show dK6 sq cl nu kd key val 0 r6 = none from if_neg (fun h => hz0 (HZ.out.symm.trans h.2))))
                    clear hz0 HO19
                    have cu := blkc V19.out.s.u
                    have zu := blkz V19.out.s.u
                    have HF := Lib.hid (fun (tm : Array Value) h2 h3 => V19.out.s.no (tm := tm) HNO.out h2 h3)
                    clear EQ V19 
                    go_wp2_with fail
                    exact HF.out _ rfl rfl
end Go.Proofs.Ytiboiociaedocaa.Leb
