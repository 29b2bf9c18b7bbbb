/- Lists of bytes that are held, beside a net and some packets: bytes written, bytes appended. -/
import Derived.Test.YtpjbgcpieijeaaaNetHeld
set_option linter.unusedVariables false
set_option linter.unusedSimpArgs false
namespace Go.Proofs.Ytpjbgcpieijeaaa.Net
open Go.RowKit Go.Proofs.Ytpjbgcpieijeaaa.Mem Go.Proofs.YtpjbgcpieijeaaaW.PrintWords Go.Proofs.YtpjbgcpieijeaaaW.PrintLast Go.Proofs.Ytpjbgcpieijeaaa.Byt Go.Proofs.Ytpjbgcpieijeaaa.Opn Go.Deep
section
variable {W W1 : World} {M bq base g m : Nat} {Ds : List Nat} {O : Nat → Prop} {v sv hv : Value} {fls : List Fl} {ps : List Pv} {sent : List LtT} {vs : List Value} {c : Nat → List Int}
theorem HeldR.kept {O : Nat → Prop} (h : HeldR W M hv vs c) (hk : Kept W W1 O) (hO : ∀ k, M ≤ k → k < W.heap.size → ¬ O k) : HeldR W1 M hv vs c :=
  ⟨own_move h.row (fun k e => hk.2 k (own_lt h.row k e) (hO k (own_base h.row k e) (own_lt h.row k e))), fun j x hx => ⟨(h.own j x hx).1.move (fun k e => hk.2 k (own_lt (h.own j x hx).1 k e) (hO k (own_base (h.own j x hx).1 k e) (own_lt (h.own j x hx).1 k e))), (h.own j x hx).2⟩, h.ap⟩
theorem Marks.kept {O : Nat → Prop} (h : Marks Ds W) (hk : Kept W W1 O) (hO : ∀ k, M ≤ k → k < W.heap.size → ¬ O k) (hM : ∀ d ∈ Ds, M ≤ d) : Marks Ds W1 := fun d hd => (hk.2 d (blk_lt (h d hd)) (hO d (hM d hd) (blk_lt (h d hd)))).trans (h d hd)
/-- One more is held: the other blocks lie as they lay. -/
theorem held_far {w5 : World} {v5 : Value} (hg : W.grownBy w5 hv.ownBlock) : ∀ k, k < W.heap.size → k ≠ bq → hv.ownBlock ≠ some k → (w5.setCell ⟨bq, 0, none⟩ v5).heap[k]? = W.heap[k]? := fun k h1 h2 h3 =>
  (Below.heap_setCell w5 ⟨bq, 0, none⟩ v5 k h2).trans (hg.block k h1 (fun e => h3 e.symm))
/-- A net, some packets, the row of what is held, the marks: all but the bytes that are held. -/
structure PB (M bq : Nat) (Ds : List Nat) (base : Nat) (O : Nat → Prop) (g m : Nat) (v : Value) (fls : List Fl) (sv : Value) (ps : List Pv) (sent : List LtT) (hv : Value) (vs : List Value) (W : World) : Prop where
  hold : HoldR W base O g m v fls sv ps sent
  box : W.heap[bq]? = some (.cells #[hv] tBss (0, 0))
  row : W.ownsRow M tBs 1 hv vs.length vs
  mks : Marks Ds W
  mo : ∀ d ∈ Ds, M ≤ d
  sl : ∀ k, sv.ownBlock = some k → k < M
  pl : ∀ p ∈ ps, ∀ ad n c', p.sv = .slice (some ad) n c' → 0 < p.bs.length → ad.block < M
  ap : Parted vs
theorem PB.far {O' : Nat → Prop} (h : HoldR W base O g m v fls sv ps sent) (hs : W.heap.size ≤ W1.heap.size) (hm : ∀ k, k < W.heap.size → (O k ∨ k < M) → W1.heap[k]? = W.heap[k]?) (sl : ∀ k, sv.ownBlock = some k → k < M) (pl : ∀ p ∈ ps, ∀ ad n c', p.sv = .slice (some ad) n c' → 0 < p.bs.length → ad.block < M) : HoldR W1 base O g m v fls sv ps sent :=
  ⟨h.net.move (fun k hk hl => hm k hl (.inl hk)), own_move h.some_ (fun k hk => hm k (own_lt h.some_ k hk) (.inr (sl k hk))), h.so, fun p hp => by
    obtain ⟨⟨A, n, h1, h2, h3, h4⟩, h5, h6⟩ := h.pv p hp
    exact ⟨⟨A, n, h1, h2, C_blk h3 (fun ad e hn hl => hm _ hl (.inr (pl p hp ad _ _ (by rw [h1, e]) hn))), h4⟩, h5, h6⟩, fun k hk => Nat.lt_of_lt_of_le (h.lt k hk) hs⟩
theorem PB.below (h : PB M bq Ds base O g m v fls sv ps sent hv vs W) (hb : Below W.heap.size W W1) : PB M bq Ds base O g m v fls sv ps sent hv vs W1 :=
  ⟨h.hold.below hb, blk_below h.box hb, pw_own_below h.row hb, h.mks.below hb, h.mo, h.sl, h.pl, h.ap⟩
/-- A block of bytes that is none of them changes. -/
theorem PB.off {kx : Nat} (h : PB M bq Ds base O g m v fls sv ps sent hv vs W) (hs : W.heap.size ≤ W1.heap.size) (hm : ∀ k, k < W.heap.size → k ≠ kx → W1.heap[k]? = W.heap[k]?) (h1 : ¬ O kx) (h2 : M ≤ kx) (h3 : ∀ o, W.heap[kx]? = some o → ∃ cs, o = .cells cs tU8 (0, 0)) : PB M bq Ds base O g m v fls sv ps sent hv vs W1 := by
  have ne : ∀ {k : Nat} {o : Obj}, W.heap[k]? = some o → (∀ cs, o ≠ .cells cs tU8 (0, 0)) → W1.heap[k]? = some o := fun {k o} hk ho => by
    refine (hm k (blk_lt hk) (fun e => ?_)).trans hk
    obtain ⟨cs, hc⟩ := h3 o (by rw [← e]; exact hk)
    exact ho cs hc
  refine ⟨PB.far (O' := O) h.hold hs (fun k hk hO => hm k hk (fun e => ?_)) h.sl h.pl, ne h.box (fun cs e => ?_), own_move h.row (fun k hk => ?_), fun d hd => ne (h.mks d hd) (fun cs e => by cases e), h.mo, h.sl, h.pl, h.ap⟩
  · subst e
    exact hO.elim h1 (fun h => by omega)
  · injection e with _ e _
    exact absurd e (by decide)
  · obtain ⟨cs, hc⟩ := own_typed h.row k hk
    rw [hc]
    exact ne hc (fun cs e => by injection e with _ e _; exact absurd e (by decide))
/-- What is held can be read. -/
def Rd (W : World) (x : Value) (xs : List Int) : Prop := ∃ A n, x = .slice A xs.length n ∧ xs.length ≤ n ∧ kB.C W A xs.length xs ∧ ∀ ad, A = some ad → ad = ⟨ad.block, 0, none⟩
theorem Ow.rd {x : Value} {xs : List Int} (h : Ow W base x xs) : Rd W x xs := by
  obtain ⟨A, n, h1, h2, h3⟩ := h.reads
  refine ⟨A, n, h1, h2, h3, fun ad e => ?_⟩
  rcases h.2 with ⟨h4, _⟩ | ⟨g, cap, cur, h4, _⟩
  · rw [h1, e] at h4
    cases h4
  · rw [h1, e] at h4
    injection h4 with h4
    rw [Option.some.inj h4]
theorem Rd.below {x : Value} {xs : List Int} (h : Rd W x xs) (hb : Below W.heap.size W W1) : Rd W1 x xs := by
  obtain ⟨A, n, h1, h2, h3, h4⟩ := h
  exact ⟨A, n, h1, h2, Kd.C_below h3 hb, h4⟩
theorem Rd.off {x : Value} {xs : List Int} {kx : Nat} (h : Rd W x xs) (hm : ∀ k, k < W.heap.size → k ≠ kx → W1.heap[k]? = W.heap[k]?) (hx : x.ownBlock ≠ some kx) : Rd W1 x xs := by
  obtain ⟨A, n, h1, h2, h3, h4⟩ := h
  refine ⟨A, n, h1, h2, C_blk h3 (fun ad e hn hl => hm _ hl (fun e2 => hx ?_)), h4⟩
  rw [h1, e]
  exact congrArg some e2
theorem Ow.off {x : Value} {xs : List Int} {kx : Nat} (h : Ow W base x xs) (hm : ∀ k, k < W.heap.size → k ≠ kx → W1.heap[k]? = W.heap[k]?) (hx : x.ownBlock ≠ some kx) : Ow W1 base x xs :=
  h.move (fun k hk => hm k (own_lt h k hk) (fun e => hx (by rw [← e]; exact hk)))
/-- A byte of one that is held is written. -/
theorem held_set {i k : Nat} {x : Value} {y0 : Int} (h : PB M bq Ds base O g m v fls sv ps sent hv vs W) (hH : ∀ (j : Nat) (x : Value), vs[j]? = some x → Ow W M x (c j)) (hi : vs[i]? = some x) (hk : (c i)[k]? = some y0) (hO : ∀ (j : Nat) (x : Value) (k : Nat), vs[j]? = some x → x.ownBlock = some k → ¬ O k) :
    ∃ ad n, x = .slice (some ad) (c i).length n ∧ (c i).length ≤ n ∧ W.cell? (ad.add k) = some (.int .u8 y0) ∧ W.frozen? (ad.add k) = false ∧ M ≤ (ad.add k).block ∧ ∀ y : Int, PB M bq Ds base O g m v fls sv ps sent hv vs (W.setCell (ad.add k) (.int .u8 y)) ∧ ∀ (j : Nat) (x : Value), vs[j]? = some x → Ow (W.setCell (ad.add k) (.int .u8 y)) M x (more c i ((c i).set k y) j) := by
  obtain ⟨ad, n, hv', hn, h1, h2, h3, h4⟩ := own_cell (hH i x hi) hk
  have hb := own_base (hH i x hi) _ h3
  obtain ⟨cs, hcs⟩ := (hH i x hi).typed h3
  have hm : ∀ y : Int, ∀ k', k' < W.heap.size → k' ≠ (ad.add k).block → (W.setCell (ad.add k) (.int .u8 y)).heap[k']? = W.heap[k']? := fun y k' _ hne => Below.heap_setCell W (ad.add k) _ k' hne
  refine ⟨ad, n, hv', hn, h1, h2, hb, fun y => ⟨h.off (by simp) (hm y) (hO i x _ hi h3) hb (fun o ho => ⟨cs, by rw [hcs] at ho; exact (Option.some.inj ho).symm⟩), fun j x' hj => ?_⟩⟩
  by_cases hij : j = i
  · subst hij
    rw [hi] at hj
    cases hj
    rw [more_at]
    exact h4 y
  · rw [more_ne _ _ hij]
    exact (hH j x' hj).off (hm y) (parted_at h.ap hi hj (fun e => hij e.symm) h3)
end
/-- A byte behind an own list: in place, or all of it in a new block. -/
theorem byte_app (W : World) (ty : TypeId) {base : Nat} {v : Value} {xs : List Int} (hown : Ow W base v xs) (ad : Addr) (y : Int) (hy : W.cell? (ad.add 0) = some (.int .u8 y)) (hbase : base ≤ W.heap.size) (hl : xs.length + 1 ≤ 140737488355328) :
    ∃ v1 w1, (Builtin.append_ #[tBs, tBs] ty #[v, .slice (some ad) 1 1]).run Try.prog W = .ok v1 w1 ∧ Ow w1 base v1 (xs ++ [y]) ∧ W.grownBy w1 v.ownBlock ∧
      ((∃ g cap, v = .slice (some ⟨g, 0, none⟩) xs.length cap ∧ v1 = .slice (some ⟨g, 0, none⟩) (xs.length + 1) cap ∧ W.grownBy w1 (some g)) ∨ (v1.ownBlock = some W.heap.size ∧ ∀ k, k < W.heap.size → w1.heap[k]? = W.heap[k]?)) := by
  obtain ⟨i0, hi, hzz⟩ := Option.map_eq_some_iff.1 info_u8
  simp only [Prod.mk.injEq] at hzz
  obtain ⟨hz0, hz1, hz2⟩ := hzz
  have hu := Try.underlying28
  have hol : (nums .u8 xs).length = xs.length := nums_length ..
  have hys : ∀ j u, [Value.int .u8 y][j]? = some u → W.cell? (ad.add j) = some u := fun j u hj => by
    cases j with
    | zero => simp at hj; subst hj; exact hy
    | succ j => simp at hj
  have hnl : nums .u8 (xs ++ [y]) = nums .u8 xs ++ [Value.int .u8 y] := by simp [nums]
  have h63 : xs.length + 1 ≤ maxLen := by simp only [maxLen]; omega
  unfold Ow at hown ⊢
  rw [List.length_append, List.length_singleton, hnl]
  have grown : ∀ (old : Nat), old < xs.length + 1 →
      (W.drew.alloc (.cells ((nums .u8 xs).toArray ++ [Value.int .u8 y].toArray ++ Builtin.zeroCells (Value.int .u8 0).cells (grownCap W (xs.length + 1) old tU8 - (xs.length + 1))) tU8)).ownsRow base tU8 1
        (.slice (some ⟨W.heap.size, 0, none⟩) (xs.length + 1) (grownCap W (xs.length + 1) old tU8)) (xs.length + 1) (nums .u8 xs ++ [Value.int .u8 y]) := by
    intro old ho
    have hge := grownCap_ge W (xs.length + 1) old tU8
    have hcm : grownCap W (xs.length + 1) old tU8 ≤ maxLen := grownCap_le_maxLen W (xs.length + 1) old tU8 h63
    have hzs : (Value.int .u8 0).cells.size = 1 := rfl
    refine ⟨by rw [List.length_append, hol, List.length_singleton, Nat.mul_one], .inr ⟨W.heap.size, _, _, rfl, hbase, heap_alloc_new W.drew _, hge, hcm, ?_, ?_⟩⟩
    · simp only [Array.size_append, List.size_toArray, size_zeroCells, hzs, hol, List.length_singleton]
      omega
    · simp only [Array.toList_append, List.append_assoc]
      rw [← List.append_assoc, show (xs.length + 1) * 1 = (nums .u8 xs ++ [Value.int .u8 y]).length by rw [List.length_append, hol, List.length_singleton, Nat.mul_one]]
      exact List.take_left
  rcases hown.2 with ⟨rfl, h0⟩ | ⟨g, cap, cur, rfl, hbg, hg, hnc2, hcm, hcs, htake⟩
  · have hx0 : xs = [] := List.eq_nil_of_length_eq_zero h0
    subst hx0
    have hrun := run_append_nil (P := Try.prog) W tBs ty tU8 i0 _ hu hi hz0 ad 1 1 [Value.int .u8 y] (by rw [hz1]; rfl) hys (by omega) (by simp [maxLen]) (by rw [hz2]; simp)
    have hgr := grown 0 (by simp)
    simp only [List.length_nil, Nat.zero_add, nums, List.map_nil, List.nil_append, Array.empty_append] at hgr ⊢
    exact ⟨_, _, hrun, by simpa [nums] using hgr, ⟨rfl, rfl, rfl, by simp, fun k hk _ => heap_alloc_old W.drew _ hk⟩, .inr ⟨rfl, fun k hk => heap_alloc_old W.drew _ hk⟩⟩
  · by_cases hroom : xs.length + 1 ≤ cap
    · obtain ⟨w1, hrun, ho, hgr⟩ := run_append_fits (P := Try.prog) W base tBs ty tU8 i0 1 hu hi hz1 g xs.length cap (nums .u8 xs) hown ad 1 1 [Value.int .u8 y] rfl hys (by simp [Value.oneCell']) hroom
      exact ⟨_, _, hrun, ho, hgr, .inl ⟨g, cap, rfl, rfl, hgr⟩⟩
    · have hnx := nextcap_le (need := xs.length + 1) (old := cap) (by omega)
      have hrun := run_append_grow (P := Try.prog) W tBs ty tU8 i0 _ hu hi hz0 ⟨g, 0, none⟩ xs.length cap (nums .u8 xs) (by rw [hol, hz1, Nat.mul_one]) (hown.cells (g := g) rfl) ad 1 1 [Value.int .u8 y] (by rw [hz1]; rfl) hys (by omega) (by omega) (by rw [hz2]; omega)
      exact ⟨_, _, hrun, grown cap (by omega), ⟨rfl, rfl, rfl, by simp, fun k hk _ => heap_alloc_old W.drew _ hk⟩, .inr ⟨rfl, fun k hk => heap_alloc_old W.drew _ hk⟩⟩
section
variable {P : Program} {ops : Array Oper} {rest : List Oper} {o : Oper} {a : Act} {W : World} {Q : Exit → Act → World → Prop}
/-- An append whose run is known. -/
theorem app_wpl (hgd : o.guard = none) (s x : Operand) (t : TypeId) (ho : o.op = .call { callee := .builtin .append, args := #[s, x], argTypes := #[t, t] }) {vs vx v1 : Value} {w1 : World} (hs : a.eval s = vs) (hx : a.eval x = vx) (hrun : (Builtin.append_ #[t, t] o.type #[vs, vx]).run P W = .ok v1 w1) (h : wpList P ops Q rest (a.put o.dst v1) w1) : wpList P ops Q (o :: rest) a W := by
  refine wpList_plain hgd fun K hK => ?_
  unfold Oper.wp execOp
  simp only [ho, resolve, invoke, builtin, Sem.run_bind, Sem.run_pure, Result.andThen_ok, List.map_toArray, List.map_cons, List.map_nil, hs, hx, hrun]
  exact hK _ _ h
end
section
variable {W w1 W1 : World} {M bq base g m S0 i : Nat} {Ds : List Nat} {O : Nat → Prop} {v sv hv : Value} {fls : List Fl} {ps : List Pv} {sent : List LtT} {vs : List Value} {c : Nat → List Int}
abbrev HbT := Value × List Int
/-- One byte has come behind x: in place, or in a new block. -/
def Grew (W w1 : World) (xv v1 : Value) (n : Nat) : Prop := (∃ g cap, xv = .slice (some ⟨g, 0, none⟩) n cap ∧ v1 = .slice (some ⟨g, 0, none⟩) (n + 1) cap ∧ W.grownBy w1 (some g)) ∨ (v1.ownBlock = some W.heap.size ∧ ∀ k, k < W.heap.size → w1.heap[k]? = W.heap[k]?)
theorem C_prefix {A : Option Addr} {xs ys : List Int} (h : kB.C W A ys.length ys) (hp : ∀ q, q < xs.length → ys[q]? = xs[q]?) (hl : xs.length ≤ ys.length) : kB.C W A xs.length xs := by
  refine ⟨rfl, by have := h.2.1; omega, fun hn => ?_⟩
  obtain ⟨ad, e, hc⟩ := h.2.2 (by omega)
  exact ⟨ad, e, fun j b hj => hc j b (by rw [hp j (List.getElem?_eq_some_iff.1 hj).1]; exact hj)⟩
theorem Rd.grew {x0 xv v1 : Value} {xb xs : List Int} {y : Int} (h0 : Rd W x0 xb) (hp : ∀ q, q < xb.length → xs[q]? = xb[q]?) (hl : xb.length ≤ xs.length) (ho : Ow w1 base v1 (xs ++ [y])) (hg : Grew W w1 xv v1 xs.length) : Rd w1 x0 xb := by
  rcases hg with ⟨g, cap, rfl, rfl, hg⟩ | ⟨_, hm⟩
  · by_cases he : x0.ownBlock = some g
    · obtain ⟨A, n, h1, h2, h3, h4⟩ := h0
      obtain ⟨A', n', h5, h6, h7⟩ := ho.reads
      rw [List.length_append, List.length_singleton] at h5
      injection h5 with h5 _ _
      subst h1
      cases A with
      | none => cases he
      | some ad =>
        have hb : ad.block = g := Option.some.inj he
        have ha := h4 ad rfl
        rw [hb] at ha
        subst ha
        rw [← h5] at h7
        exact ⟨_, n, rfl, h2, C_prefix h7 (fun q hq => by rw [List.getElem?_append_left (by omega)]; exact hp q hq) (by rw [List.length_append]; omega), h4⟩
    · exact h0.off (kx := g) (fun k h1 h2 => hg.block k h1 (fun e => h2 (Option.some.inj e))) he
  · obtain ⟨A, n, h1, h2, h3, h4⟩ := h0
    exact ⟨A, n, h1, h2, C_blk h3 (fun ad e hn hl => hm _ hl), h4⟩
/-- All that lies below a bound lies as it lay. -/
theorem PB.above (h : PB M bq Ds base O g m v fls sv ps sent hv vs W) (hs : W.heap.size ≤ W1.heap.size) (hm : ∀ k, k < S0 → W1.heap[k]? = W.heap[k]?) (h1 : ∀ k, O k → k < S0) (h2 : M ≤ S0) (h3 : bq < S0) (h4 : ∀ k, hv.ownBlock = some k → k < S0) (h5 : ∀ d ∈ Ds, d < S0) : PB M bq Ds base O g m v fls sv ps sent hv vs W1 :=
  ⟨PB.far (O' := O) h.hold hs (fun k _ hk => hm k (hk.elim (h1 k) (fun h => by omega))) h.sl h.pl, (hm bq h3).trans h.box, own_move h.row (fun k hk => hm k (h4 k hk)), fun d hd => (hm d (h5 d hd)).trans (h.mks d hd), h.mo, h.sl, h.pl, h.ap⟩
/-- While bytes are appended to one that is held. -/
structure GR (M bq : Nat) (Ds : List Nat) (base : Nat) (O : Nat → Prop) (g m : Nat) (v : Value) (fls : List Fl) (sv : Value) (ps : List Pv) (sent : List LtT) (hv : Value) (vs : List Value) (c : Nat → List Int) (S0 Si i : Nat) (mv : Value) (ms : List HbT) (x0 xv : Value) (xs : List Int) (W : World) : Prop where
  pb : PB M bq Ds base O g m v fls sv ps sent hv vs W
  rd : ∀ (j : Nat) (x : Value), vs[j]? = some x → Rd W x (c j)
  ow : ∀ (j : Nat) (x : Value), i < j → vs[j]? = some x → Ow W M x (c j)
  mr : W.ownsRow S0 tBs 1 mv ms.length (ms.map (·.1))
  mo : ∀ y ∈ ms, Ow W M y.1 y.2
  x : Ow W M xv xs
  blk : xv.ownBlock = x0.ownBlock ∨ ∃ b, xv.ownBlock = some b ∧ Si ≤ b
  pre : ∀ q, q < (c i).length → xs[q]? = (c i)[q]?
  len : (c i).length ≤ xs.length
  si : Si ≤ W.heap.size
theorem GR.step {mv x0 xv v1 : Value} {ms : List HbT} {xs : List Int} {y : Int} {Si : Nat} (h : GR M bq Ds base O g m v fls sv ps sent hv vs c S0 Si i mv ms x0 xv xs W) (hi : vs[i]? = some x0) (hM : M ≤ Si) (hO : ∀ k, x0.ownBlock = some k → ¬ O k) (hOs : ∀ k, O k → k < Si) (hvs : ∀ (j : Nat) (x : Value) (k : Nat), vs[j]? = some x → x.ownBlock = some k → k < Si) (hms : ∀ y ∈ ms, ∀ k, y.1.ownBlock = some k → k < Si ∧ x0.ownBlock ≠ some k)
    (ho : Ow w1 M v1 (xs ++ [y])) (hs : W.heap.size ≤ w1.heap.size) (hg : Grew W w1 xv v1 xs.length) : GR M bq Ds base O g m v fls sv ps sent hv vs c S0 Si i mv ms x0 v1 (xs ++ [y]) w1 := by
  -- a block that may change
  have key : ∃ kx, (∀ k, k < W.heap.size → k ≠ kx → w1.heap[k]? = W.heap[k]?) ∧ ((xv.ownBlock = some kx) ∨ W.heap.size ≤ kx) ∧ (v1.ownBlock = xv.ownBlock ∨ v1.ownBlock = some W.heap.size) := by
    rcases hg with ⟨g, cap, rfl, rfl, hg⟩ | ⟨h1, hm⟩
    · exact ⟨g, fun k h1 h2 => hg.block k h1 (fun e => h2 (Option.some.inj e)), .inl rfl, .inl rfl⟩
    · exact ⟨W.heap.size, fun k h1 _ => hm k h1, .inr (Nat.le_refl _), .inr h1⟩
  obtain ⟨kx, hm, hk, hv1⟩ := key
  have hkx : (xv.ownBlock = some kx ∧ x0.ownBlock = some kx) ∨ Si ≤ kx := by
    rcases hk with hk | hk
    · rcases h.blk with hb | ⟨b, hb, hl⟩
      · exact .inl ⟨hk, by rw [← hb]; exact hk⟩
      · rw [hb] at hk
        exact .inr (by have := Option.some.inj hk; omega)
    · exact .inr (by have := h.si; omega)
  have ne : ∀ (j : Nat) (x : Value), j ≠ i → vs[j]? = some x → x.ownBlock ≠ some kx := fun j x hj hx e => by
    rcases hkx with ⟨_, h2⟩ | h2
    · exact parted_at h.pb.ap hi hx (fun e => hj e.symm) h2 e
    · have := hvs j x kx hx e
      omega
  have nm : ∀ y ∈ ms, y.1.ownBlock ≠ some kx := fun y hy e => by
    have h1 := hms y hy kx e
    rcases hkx with ⟨_, h2⟩ | h2
    · exact h1.2 h2
    · omega
  have hty : ∀ o, W.heap[kx]? = some o → ∃ cs, o = .cells cs tU8 (0, 0) := fun o ho => by
    rcases hk with hk | hk
    · obtain ⟨cs, hc⟩ := h.x.typed hk
      rw [hc] at ho
      exact ⟨cs, (Option.some.inj ho).symm⟩
    · have := blk_lt ho
      omega
  have hMS : M ≤ kx := hk.elim (fun hk => own_base h.x kx hk) (fun h1 => by have := h.si; omega)
  refine ⟨h.pb.off hs hm (fun hO' => ?_) hMS hty, fun j x hx => ?_, fun j x hj hx => (h.ow j x hj hx).off hm (ne j x (by omega) hx), own_move h.mr (fun k hk2 => ?_), fun y hy => (h.mo y hy).off hm (nm y hy), ho, ?_, fun q hq => ?_, by have := h.len; rw [List.length_append]; omega, by have := h.si; omega⟩
  · rcases hkx with ⟨_, h2⟩ | h2
    · exact hO kx h2 hO'
    · have := hOs kx hO'
      omega
  · by_cases hj : j = i
    · subst hj
      rw [hi] at hx
      cases hx
      exact (h.rd j x0 hi).grew h.pre h.len ho hg
    · exact (h.rd j x hx).off hm (ne j x hj hx)
  · refine hm k (own_lt h.mr k hk2) (fun e => ?_)
    obtain ⟨cs, hc⟩ := own_typed h.mr k hk2
    rw [e] at hc
    obtain ⟨cs', hc'⟩ := hty _ hc
    injection hc' with _ hc' _
    exact absurd hc' (by decide)
  · rcases hv1 with h1 | h1
    · rw [h1]
      exact h.blk
    · exact .inr ⟨_, h1, h.si⟩
  · rw [List.getElem?_append_left (by have := h.len; omega)]
    exact h.pre q hq
theorem GR.below {mv x0 xv : Value} {ms : List HbT} {xs : List Int} {Si : Nat} (h : GR M bq Ds base O g m v fls sv ps sent hv vs c S0 Si i mv ms x0 xv xs W) (hb : Below W.heap.size W W1) : GR M bq Ds base O g m v fls sv ps sent hv vs c S0 Si i mv ms x0 xv xs W1 :=
  ⟨h.pb.below hb, fun j x hx => (h.rd j x hx).below hb, fun j x hj hx => (h.ow j x hj hx).below hb, pw_own_below h.mr hb, fun y hy => (h.mo y hy).below hb, h.x.below hb, h.blk, h.pre, h.len, Nat.le_trans h.si hb.size⟩
/-- The cell of one that is held. -/
theorem row_at {x : Value} (h : W.ownsRow M tBs 1 hv vs.length vs) (hi : vs[i]? = some x) : ∃ ad n, hv = .slice (some ad) vs.length n ∧ vs.length ≤ n ∧ W.cell? (ad.add i) = some x := by
  have hil : i < vs.length := (List.getElem?_eq_some_iff.1 hi).1
  rcases h.2 with ⟨rfl, h0⟩ | ⟨b, cap, cur, rfl, h1, h2, h3, h4, h5, h6⟩
  · omega
  · refine ⟨⟨b, 0, none⟩, cap, rfl, h3, ?_⟩
    rw [add_plain, blkc h2 i, ← hi, ← h6, List.getElem?_take_of_lt (by rw [Nat.mul_one]; exact hil), Array.getElem?_toList]
theorem row_at' {x : Value} {ad : Addr} {n n' : Nat} (h : W.ownsRow M tBs 1 (.slice (some ad) n n') vs.length vs) (hi : vs[i]? = some x) : W.cell? (ad.add i) = some x := by
  obtain ⟨ad', n2, e, _, h2⟩ := row_at h hi
  injection e with e _ _
  rw [Option.some.inj e]
  exact h2
theorem wsucc {i : Nat} (h : i ≤ 1000000000000000) : wrap64 ((i : Int) + 1) = ((i + 1 : Nat) : Int) := by unfold wrap64; omega
theorem wthree {k : Nat} (h : k ≤ 1000000000000000) : wrap64 (3 * (k : Int)) = 3 * (k : Int) := by unfold wrap64; omega
theorem wthree' {i k : Nat} (h : k ≤ 1000000000000000) (h2 : i ≤ 1000000000000000) : wrap64 ((i : Int) + 3 * (k : Int)) = (i : Int) + 3 * (k : Int) := by unfold wrap64; omega
theorem wfive {k : Nat} (h : k ≤ 1000000000000000) : wrap64 (5 * (k : Int)) = 5 * (k : Int) := by unfold wrap64; omega
theorem wfive' {i k : Nat} (h : k ≤ 1000000000000000) (h2 : i ≤ 1000000000000000) : wrap64 ((i : Int) + 101 + 5 * (k : Int)) = (i : Int) + 101 + 5 * (k : Int) := by unfold wrap64; omega
theorem whund {i : Nat} (h2 : i ≤ 1000000000000000) : wrap64 ((i : Int) + 101) = (i : Int) + 101 := by unfold wrap64; omega
theorem wnat {i : Nat} (h2 : i ≤ 1000000000000000) : wrap64 (i : Int) = (i : Int) := by unfold wrap64; omega
theorem wadd {i k : Nat} (h : k ≤ 1000000000000000) (h2 : i ≤ 1000000000000000) : wrap64 ((i : Int) + (k : Int)) = ((i + k : Nat) : Int) := by unfold wrap64; omega
def mkb (i k : Nat) : Int := IntKind.u8.wrap ((i : Int) + 3 * (k : Int))
def akb (i k : Nat) : Int := IntKind.u8.wrap ((i : Int) + 101 + 5 * (k : Int))
def Mkd (i : Nat) (xs : List Int) : Prop := ∀ k, k < xs.length → xs[k]? = some (mkb i k)
theorem set_next {f : Nat → Int} {xs : List Int} {k : Nat} (h : ∀ q, q < k → xs[q]? = some (f q)) (hk : k < xs.length) : ∀ q, q < k + 1 → (xs.set k (f k))[q]? = some (f q) := fun q hq => by
  rcases Nat.lt_or_ge q k with hl | hl
  · rw [List.getElem?_set_ne (by omega)]
    exact h q hl
  · have : q = k := by omega
    subst this
    rw [List.getElem?_set_self hk]
/-- What was appended: so many bytes behind what is held. -/
def Aft (i n : Nat) (xs : List Int) (k : Nat) : Prop := xs.length = n + k ∧ ∀ q, q < k → xs[n + q]? = some (akb i q)
theorem Aft.next {n k : Nat} {xs : List Int} (h : Aft i n xs k) : Aft i n (xs ++ [akb i k]) (k + 1) := by
  refine ⟨by rw [List.length_append, List.length_singleton, h.1]; omega, fun q hq => ?_⟩
  rcases Nat.lt_or_ge q k with hl | hl
  · rw [List.getElem?_append_left (by have := h.1; omega)]
    exact h.2 q hl
  · have : q = k := by omega
    subst this
    rw [List.getElem?_append_right (by have := h.1; omega)]
    have h0 : n + q - xs.length = 0 := by have := h.1; omega
    rw [h0]
    rfl
theorem Rd.above {x : Value} {xs : List Int} (h : Rd W x xs) (hm : ∀ k, k < S0 → W1.heap[k]? = W.heap[k]?) (hx : ∀ k, x.ownBlock = some k → k < S0) : Rd W1 x xs := by
  obtain ⟨A, n, h1, h2, h3, h4⟩ := h
  exact ⟨A, n, h1, h2, C_blk h3 (fun ad e hn hl => hm _ (hx _ (by rw [h1, e]; rfl))), h4⟩
theorem erase_at {f : Fl} {fls : List Fl} (n : Nat) : ((fls ++ [f]).eraseIdx 0)[n]? = (fls ++ [f])[n + 1]? := by
  cases fls with
  | nil => cases n <;> simp
  | cons a l => simp
end
/-- Was it sent? By the list of what may be sent. -/
theorem sent_is2 {w w0 : World} {g m : Nat} {O : Nat → Prop} {v sv : Value} {fls : List Fl} {ps : List Pv} {qs : List PkT} (h : HoldR w w0.heap.size O g m v fls sv ps (qs.map letOf)) {x y : Int} {A : Option Addr} {c : Nat} {bs : List Int} (hC : kB.C w A bs.length bs) (hxy : addrB 4 4 x = true ∧ addrB 4 4 y = true) (hr : ∀ z ∈ bs, 0 ≤ z ∧ z < 256) (hl : bs.length ≤ 140737488351232) (hq : ∀ q ∈ qs, ∀ z ∈ q.2.2, 0 ≤ z ∧ z < 256) {r : Bool} (hm : decide ((x, y, bs) ∈ qs) = r) :
    Calls Try.prog 21 #[.pointer (some ⟨g, 0, none⟩), .agg #[.int .i64 x, .int .i64 y, .slice A bs.length c]] w fun e w' => e = .returned (.bool r) ∧ Below w.heap.size w w' := by
  refine (sent_net h.net (lt_ok (bs := bs) h.net.nn h.net.nc hxy.1 hxy.2 hl) hC).mono ?_
  rintro e w1 ⟨r', rfl, hr', hb⟩
  refine ⟨?_, hb⟩
  have key : (x, y, strOfNums bs) ∈ qs.map letOf ↔ (x, y, bs) ∈ qs := by
    constructor
    · intro h1
      obtain ⟨⟨x', y', bs'⟩, h2, h3⟩ := List.mem_map.1 h1
      simp only [letOf, Prod.mk.injEq] at h3
      obtain ⟨rfl, rfl, h4⟩ := h3
      rw [← strOfNums_inj (hq _ h2) hr h4]
      exact h2
    · intro h1
      exact List.mem_map.2 ⟨_, h1, rfl⟩
  rw [key] at hr'
  subst hm
  congr 2
  rw [Bool.eq_iff_iff, hr', decide_eq_true_eq]
end Go.Proofs.Ytpjbgcpieijeaaa.Net
