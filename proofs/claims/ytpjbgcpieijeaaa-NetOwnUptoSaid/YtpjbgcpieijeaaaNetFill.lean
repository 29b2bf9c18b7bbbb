/- A net with some packets under way (filled); two packets compared (equal). -/
import Derived.Test.YtpjbgcpieijeaaaNetSendAny
set_option linter.unusedVariables false
set_option linter.unusedSimpArgs false
namespace Go.Proofs.Ytpjbgcpieijeaaa.Net
open Go.RowKit Go.Proofs.Ytpjbgcpieijeaaa.Mem Go.Proofs.YtpjbgcpieijeaaaW.PrintWords Go.Proofs.YtpjbgcpieijeaaaW.PrintLast Go.Proofs.Ytpjbgcpieijeaaa.Byt Go.Proofs.Ytpjbgcpieijeaaa.Opn Go.Deep Go.ChangeMaps
/-- A packet as it lies: from, to, the slice of its bytes, and these. -/
structure Pv where
  src : Int
  dst : Int
  sv : Value
  bs : List Int
def Pv.cells (p : Pv) : List Value := [.int .i64 p.src, .int .i64 p.dst, p.sv]
def Pv.plain (p : Pv) : PkT := (p.src, p.dst, p.bs)
def Fl.plain (f : Fl) : Int × Int × List Int × List Int := (f.src, f.dst, f.sb, f.nb)
def pcells (ps : List Pv) : List Value := ps.flatMap Pv.cells
theorem pcells_len : ∀ (ps : List Pv), (pcells ps).length = ps.length * 3
  | [] => rfl
  | p :: ps => by
    have := pcells_len ps
    simp only [pcells, List.flatMap_cons, List.length_append, List.length_cons] at this ⊢
    rw [this]
    simp only [Pv.cells, List.length_cons, List.length_nil]
    omega
theorem pcells_append (a b : List Pv) : pcells (a ++ b) = pcells a ++ pcells b := by simp [pcells]
theorem pcells_get : ∀ (ps : List Pv) (i : Nat) (p : Pv), ps[i]? = some p → ∀ j, j < 3 → (pcells ps)[i * 3 + j]? = p.cells[j]?
  | [], i, p, h, _, _ => by simp at h
  | q :: ps, 0, p, h, j, hj => by
    have : q = p := by simpa using h
    subst this
    simp only [pcells, List.flatMap_cons, Nat.zero_mul, Nat.zero_add]
    rw [List.getElem?_append_left (by simp only [Pv.cells, List.length_cons, List.length_nil]; omega)]
  | q :: ps, i + 1, p, h, j, hj => by
    have h1 := pcells_get ps i p (by simpa using h) j hj
    simp only [pcells, List.flatMap_cons] at h1 ⊢
    rw [List.getElem?_append_right (by simp only [Pv.cells, List.length_cons, List.length_nil]; omega), ← h1]
    congr 1
    simp only [Pv.cells, List.length_cons, List.length_nil]
    omega
/-- A packet whose bytes are read, and are none of the net's (O). -/
structure PvR (w : World) (O : Nat → Prop) (p : Pv) : Prop where
  rd : ∃ A c, p.sv = .slice A p.bs.length c ∧ p.bs.length ≤ c ∧ kB.C w A p.bs.length p.bs ∧ ∀ ad, A = some ad → 0 < p.bs.length → ¬ O ad.block
  rng : ∀ z ∈ p.bs, 0 ≤ z ∧ z < 256
  len : p.bs.length ≤ 140737488351232
theorem PvR.kept {w w1 : World} {O : Nat → Prop} {p : Pv} (h : PvR w O p) (hk : Kept w w1 O) : PvR w1 (fun k => O k ∨ w.heap.size ≤ k) p := by
  obtain ⟨A, c, h1, h2, h3, h4⟩ := h.rd
  exact ⟨⟨A, c, h1, h2, C_blk h3 (fun ad e hn hl => hk.2 _ hl (h4 ad e hn)), fun ad e hn ho => ho.elim (h4 ad e hn) (fun h5 => by have := C_lt h3 e hn; omega)⟩, h.rng, h.len⟩
theorem PvR.mono {w : World} {O O' : Nat → Prop} {p : Pv} (h : PvR w O p) (ho : ∀ k, O' k → O k) : PvR w O' p := by
  obtain ⟨A, c, h1, h2, h3, h4⟩ := h.rd
  exact ⟨⟨A, c, h1, h2, h3, fun ad e hn h5 => h4 ad e hn (ho _ h5)⟩, h.rng, h.len⟩
/-- Some packets in a row of the law's own. -/
def SomeR (w : World) (base : Nat) (v : Value) (ps : List Pv) : Prop := w.ownsRow base tPk 3 v ps.length (pcells ps)
/-- May a packet be sent over 4 nodes and 4 clients? -/
def okP (p : PkT) : Bool := addrB 4 4 p.1 && addrB 4 4 p.2.1
def letOf (p : PkT) : LtT := (p.1, p.2.1, strOfNums p.2.2)
/-- The packet of its own. -/
def ownP : PkT := (1, 2, [111, 119, 110])
/-- A net that holds some packets, and these. -/
structure FillR (w : World) (base : Nat) (O : Nat → Prop) (g m : Nat) (v : Value) (fls : List Fl) (sv : Value) (ps : List Pv) (qs : List PkT) : Prop where
  net : NetR w base O g m 4 4 v fls (qs.map letOf)
  some_ : SomeR w base sv ps
  so : ∀ k, sv.ownBlock = some k → ¬ O k
  pv : ∀ p ∈ ps, PvR w (fun k => O k ∨ sv.ownBlock = some k) p
  lt : ∀ k, O k → k < w.heap.size
  pp : ps.map Pv.plain = qs
  ff : fls.map Fl.plain = qs.map (fun q => (q.1, q.2.1, q.2.2, q.2.2))
theorem toList_inj {a b : ByteArray} (h : a.toList = b.toList) : a = b := by
  rw [ByteArray.toList_eq, ByteArray.toList_eq] at h
  cases a
  cases b
  simp at h
  rw [h]
theorem strOfNums_inj {bs bs' : List Int} (hr : ∀ z ∈ bs, 0 ≤ z ∧ z < 256) (hr' : ∀ z ∈ bs', 0 ≤ z ∧ z < 256) (h : strOfNums bs = strOfNums bs') : bs = bs' := by
  have h1 : bs.map (fun n => UInt8.ofNat n.toNat) = bs'.map (fun n => UInt8.ofNat n.toNat) := by
    have := congrArg (fun b => b.data.toList) h
    exact this
  have h2 : bs.length = bs'.length := by simpa using congrArg List.length h1
  refine List.ext_getElem h2 (fun i hi hi' => ?_)
  have h3 := congrArg (fun l => l[i]?) h1
  simp only [List.getElem?_map, List.getElem?_eq_getElem hi, List.getElem?_eq_getElem hi', Option.map_some, Option.some.injEq] at h3
  have h4 := congrArg UInt8.toNat h3
  have a1 := hr _ (List.getElem_mem hi)
  have a2 := hr' _ (List.getElem_mem hi')
  simp only [UInt8.toNat_ofNat'] at h4
  rw [Nat.mod_eq_of_lt (by omega), Nat.mod_eq_of_lt (by omega)] at h4
  omega
set_option maxHeartbeats 3200000 in
set_option maxRecDepth 100000 in
theorem equal_any {w : World} {x y x' y' : Int} {A A' : Option Addr} {c c' : Nat} {bs bs' : List Int} (h : kB.C w A bs.length bs) (h' : kB.C w A' bs'.length bs') (hr : ∀ z ∈ bs, 0 ≤ z ∧ z < 256) (hr' : ∀ z ∈ bs', 0 ≤ z ∧ z < 256) :
    Calls Try.prog 18 #[.agg #[.int .i64 x, .int .i64 y, .slice A bs.length c], .agg #[.int .i64 x', .int .i64 y', .slice A' bs'.length c']] w fun e w' => e = .returned (.bool (decide ((x, y, bs) = (x', y', bs')))) ∧ Below w.heap.size w w' := by
  have BA := below_alloc (Below.refl w.heap.size w) (.cells #[.int .i64 x, .int .i64 y, .slice A bs.length c] tPk)
  have BB := below_alloc (Below.refl _ (w.alloc (.cells #[.int .i64 x, .int .i64 y, .slice A bs.length c] tPk))) (.cells #[.int .i64 x', .int .i64 y', .slice A' bs'.length c'] tPk)
  have BS := Lib.hid (below_then BA BA.size BB)
  have PA := Lib.hid (blk_below (blk_new w (.cells #[.int .i64 x, .int .i64 y, .slice A bs.length c] tPk)) BB)
  have PB := blk_new (w.alloc (.cells #[.int .i64 x, .int .i64 y, .slice A bs.length c] tPk)) (.cells #[.int .i64 x', .int .i64 y', .slice A' bs'.length c'] tPk)
  rw [World.size_alloc] at PB
  have PB := Lib.hid PB
  have hc1 := Kd.C_string (src := 28) (dst := 9) (c := c) Try.underlying28 Try.underlying5 Try.underlying9 (Kd.C_below h BS.out)
  have hc2 := Kd.C_string (src := 28) (dst := 9) (c := c') Try.underlying28 Try.underlying5 Try.underlying9 (Kd.C_below h' BS.out)
  have HV := Lib.hid (And.intro hc1 hc2)
  have HEQ := Lib.hid (show (strOfNums bs = strOfNums bs') ↔ bs = bs' from ⟨strOfNums_inj hr hr', fun e => by rw [e]⟩)
  clear BA BB h h' hc1 hc2 hr hr'
  go_enter Try.func18, Try.ntmps18
  go_upto_region 1 with (fail)
  generalize (World.alloc (World.alloc _ _) _) = W at *
  have ca := blkc PA.out
  have cb := blkc PB.out
  have hc1 := HV.out.1
  have hc2 := HV.out.2
  by_cases hx : x = x'
  · subst hx
    by_cases hy : y = y'
    · subst hy
      go_wp2_with fail
      go_ret
      refine ⟨ret_bool ?_, BS.out⟩
      rw [Bool.eq_iff_iff]
      simp only [beq_iff_eq, decide_eq_true_eq, Prod.mk.injEq, true_and]
      rw [← HEQ.out]
      exact ⟨fun e => toList_inj e, fun e => by rw [e]⟩
    · have e1 : (y == y') = false := by simpa using hy
      have HD := Lib.hid (show false = decide ((x, y, bs) = (x, y', bs')) by symm; simp [hy])
      clear hy
      go_wp2_with fail
      go_ret
      exact ⟨ret_bool HD.out, BS.out⟩
  · have e1 : (x == x') = false := by simpa using hx
    have HD := Lib.hid (show false = decide ((x, y, bs) = (x', y', bs')) by symm; simp [hx])
    clear hx
    go_wp2_with fail
    go_ret
    exact ⟨ret_bool HD.out, BS.out⟩
section
variable {w w0 w1 w3 w4 : World} {base g m : Nat} {O : Nat → Prop} {v sv : Value} {fls : List Fl} {ps : List Pv} {qs : List PkT}
theorem FillR.below (h : FillR w base O g m v fls sv ps qs) (hb : Below w.heap.size w w1) : FillR w1 base O g m v fls sv ps qs :=
  ⟨h.net.below hb, own_move h.some_ (fun k hk => hb.block k (own_lt h.some_ k hk)), h.so, fun p hp => by
    obtain ⟨⟨A, c, h1, h2, h3, h4⟩, h5, h6⟩ := h.pv p hp
    exact ⟨⟨A, c, h1, h2, Kd.C_below h3 hb, h4⟩, h5, h6⟩, fun k hk => Nat.lt_of_lt_of_le (h.lt k hk) hb.size, h.pp, h.ff⟩
/-- One more packet: sent, and set down. -/
theorem FillR.step (h : FillR w3 base O g m v fls sv ps qs) {p : Pv} (hp : PvR w3 (fun k => O k ∨ sv.ownBlock = some k) p) {v' s1 s2 : Value} (hN : NetR w4 base (fun k => O k ∨ w3.heap.size ≤ k) g m 4 4 v' (fls ++ [⟨p.src, p.dst, s1, s2, p.bs, p.bs⟩]) (qs.map letOf ++ [(p.src, p.dst, strOfNums p.bs)])) (hk : Kept w3 w4 O)
    {v1 : Value} (ho : w1.ownsRow base tPk 3 v1 (ps.length + 1) (pcells ps ++ p.cells)) (hg : w4.grownBy w1 sv.ownBlock) (hat : v1.ownBlock = sv.ownBlock ∨ ∃ b, v1.ownBlock = some b ∧ w4.heap.size ≤ b) :
    FillR w1 base (fun k => (O k ∨ w3.heap.size ≤ k) ∧ k < w4.heap.size) g m v' (fls ++ [⟨p.src, p.dst, s1, s2, p.bs, p.bs⟩]) v1 (ps ++ [p]) (qs ++ [p.plain]) := by
  have hso : ∀ k, sv.ownBlock = some k → ¬ (O k ∨ w3.heap.size ≤ k) := fun k hk h1 => h1.elim (h.so k hk) (fun h2 => by have := own_lt h.some_ k hk; omega)
  have hpv : ∀ q, PvR w3 (fun k => O k ∨ sv.ownBlock = some k) q → PvR w1 (fun k => ((O k ∨ w3.heap.size ≤ k) ∧ k < w4.heap.size) ∨ v1.ownBlock = some k) q := fun q hq => by
    have h1 := hq.kept (hk.mono (fun k hk => .inl hk))
    have h2 := h1.kept (w1 := w1) ⟨hg.size, fun k hk hn => hg.block k hk (fun e => hn (.inl (.inr e.symm)))⟩
    refine h2.mono (fun k hk => ?_)
    rcases hk with ⟨h3 | h3, h4⟩ | h3
    · exact .inl (.inl (.inl h3))
    · exact .inl (.inr h3)
    · rcases hat with hat | ⟨b, hb, hb2⟩
      · exact .inl (.inl (.inr (by rw [← hat]; exact h3)))
      · rw [hb] at h3
        injection h3 with h3
        exact .inr (by omega)
  refine ⟨?_, by show w1.ownsRow base tPk 3 v1 (ps ++ [p]).length (pcells (ps ++ [p])); rw [List.length_append, pcells_append, show pcells [p] = p.cells by simp [pcells]]; exact ho, fun k hk => ?_, fun q hq => ?_, fun k hk => Nat.lt_of_lt_of_le hk.2 hg.size, by rw [List.map_append, h.pp]; rfl, by rw [List.map_append, List.map_append, h.ff]; rfl⟩
  · rw [List.map_append]
    exact hN.bound.move (fun k hk hlt => hg.block k hlt (fun e => hso k e.symm hk.1))
  · rcases hat with hat | ⟨b, hb, hb2⟩
    · exact fun h1 => hso k (by rw [← hat]; exact hk) h1.1
    · rw [hb] at hk
      injection hk with hk
      exact fun h1 => by have := h1.2; omega
  · rcases List.mem_append.1 hq with hq | hq
    · exact hpv q (h.pv q hq)
    · rw [List.mem_singleton.1 hq]
      exact hpv p hp
end
end Go.Proofs.Ytpjbgcpieijeaaa.Net
