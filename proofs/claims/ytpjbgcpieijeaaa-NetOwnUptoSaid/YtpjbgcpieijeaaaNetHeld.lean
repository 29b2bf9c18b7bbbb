/- Lists of bytes that are held: a row of slices of bytes, each with memory of its own; one more behind them. -/
import Derived.Test.YtpjbgcpieijeaaaNetCut
import Derived.Test.YtpjbgcpieijeaaaNetTurns
set_option linter.unusedVariables false
set_option linter.unusedSimpArgs false
namespace Go.Proofs.Ytpjbgcpieijeaaa.Net
open Go.RowKit Go.Proofs.Ytpjbgcpieijeaaa.Mem Go.Proofs.YtpjbgcpieijeaaaW.PrintWords Go.Proofs.YtpjbgcpieijeaaaW.PrintLast Go.Proofs.Ytpjbgcpieijeaaa.Byt Go.Proofs.Ytpjbgcpieijeaaa.Opn Go.Deep
abbrev tBs : TypeId := 28
abbrev tBss : TypeId := 45
theorem infoBs : (Try.prog.info? tBs).map (fun i => (i.zero, i.size, i.bytes)) = some (some (.slice none 0 0), 1, 24) := by kernel_rfl
def Parted (vs : List Value) : Prop := vs.Pairwise (fun a b => ∀ k, a.ownBlock = some k → b.ownBlock ≠ some k)
structure HeldR (w : World) (base : Nat) (hv : Value) (vs : List Value) (c : Nat → List Int) : Prop where
  row : w.ownsRow base tBs 1 hv vs.length vs
  own : ∀ j v, vs[j]? = some v → Ow w base v (c j) ∧ (c j).length ≤ 140737488351232
  ap : Parted vs
section
variable {w w1 : World} {base : Nat} {hv : Value} {vs : List Value} {c : Nat → List Int}
theorem HeldR.types (h : HeldR w base hv vs c) (hm : ∀ (k : Nat) (cs : Array Value) (t : TypeId), w.heap[k]? = some (.cells cs t (0, 0)) → (t = tBs ∨ t = tU8) → w1.heap[k]? = some (.cells cs t (0, 0))) : HeldR w1 base hv vs c :=
  ⟨own_move h.row (fun k hk => by obtain ⟨cs, hc⟩ := own_typed h.row k hk; rw [hm k _ _ hc (.inl rfl), hc]), fun j v hv => ⟨(h.own j v hv).1.move (fun k hk => by obtain ⟨cs, hc⟩ := (h.own j v hv).1.typed hk; rw [hm k _ _ hc (.inr rfl), hc]), (h.own j v hv).2⟩, h.ap⟩
theorem HeldR.below (h : HeldR w base hv vs c) (hb : Below w.heap.size w w1) : HeldR w1 base hv vs c := h.types (fun k cs t hk _ => blk_below hk hb)
theorem parted_at (h : Parted vs) {i j : Nat} {a b : Value} (hi : vs[i]? = some a) (hj : vs[j]? = some b) (hij : i ≠ j) {k : Nat} (hk : a.ownBlock = some k) : b.ownBlock ≠ some k := by
  unfold Parted at h
  rw [List.pairwise_iff_getElem] at h
  obtain ⟨hi1, rfl⟩ := List.getElem?_eq_some_iff.1 hi
  obtain ⟨hj1, rfl⟩ := List.getElem?_eq_some_iff.1 hj
  rcases Nat.lt_or_gt_of_ne hij with hl | hl
  · exact h i j hi1 hj1 hl k hk
  · exact fun e => h j i hj1 hi1 hl k e hk
theorem parted_snoc {x : Value} (h : Parted vs) (hx : ∀ k, x.ownBlock = some k → ∀ v ∈ vs, v.ownBlock ≠ some k) : Parted (vs ++ [x]) := by
  unfold Parted
  rw [List.pairwise_append]
  refine ⟨h, List.pairwise_singleton _ _, fun a ha b hb k hk e => ?_⟩
  rw [List.mem_singleton.1 hb] at e
  exact hx k e a ha hk
/-- Contents, and one more. -/
def more (c : Nat → List Int) (n : Nat) (xs : List Int) : Nat → List Int := fun j => if j = n then xs else c j
theorem more_at (c : Nat → List Int) (n : Nat) (xs : List Int) : more c n xs n = xs := if_pos rfl
theorem more_ne (c : Nat → List Int) {n j : Nat} (xs : List Int) (h : j ≠ n) : more c n xs j = c j := if_neg h
theorem snoc_at {α : Type} {l : List α} {x y : α} {j : Nat} (h : (l ++ [x])[j]? = some y) : (j = l.length ∧ y = x) ∨ (j ≠ l.length ∧ j < l.length ∧ l[j]? = some y) := by
  rcases Nat.lt_or_ge j l.length with hl | hl
  · rw [List.getElem?_append_left hl] at h
    exact .inr ⟨by omega, hl, h⟩
  · rw [List.getElem?_append_right hl] at h
    rcases Nat.eq_zero_or_pos (j - l.length) with h0 | h0
    · rw [h0] at h
      exact .inl ⟨by omega, (Option.some.inj h).symm⟩
    · rw [List.getElem?_eq_none (by simp only [List.length_singleton]; omega)] at h
      cases h
/-- One more is held: what of the rest holds still. -/
theorem held_more {W w5 : World} {bq b1 : Nat} {xv v5 : Value} {xb : List Int} (hw : base ≤ W.heap.size) (hbq : base ≤ bq) (hL : W.heap[bq]? = some (.cells #[hv] tBss (0, 0))) (hH : HeldR W base hv vs c) (hx : Ow W b1 xv xb) (hxl : xb.length ≤ 140737488351232)
    (hb1 : base ≤ b1) (hxn : ∀ k, xv.ownBlock = some k → ∀ v ∈ vs, v.ownBlock ≠ some k) (ho : w5.ownsRow base tBs 1 v5 (vs.length + 1) (vs ++ [xv])) (hg : W.grownBy w5 hv.ownBlock) :
    w5.heap[bq]? = some (.cells #[hv] tBss (0, 0)) ∧ (w5.setCell ⟨bq, 0, none⟩ v5).heap[bq]? = some (.cells #[v5] tBss (0, 0)) ∧ HeldR (w5.setCell ⟨bq, 0, none⟩ v5) base v5 (vs ++ [xv]) (more c vs.length xb) ∧ KeepsOthers W (w5.setCell ⟨bq, 0, none⟩ v5) ∧ KeepT W (w5.setCell ⟨bq, 0, none⟩ v5) ∧
      (∀ (k : Nat) (o : Obj), W.heap[k]? = some o → (∀ cs t, o = .cells cs t (0, 0) → t ≠ tBss ∧ t ≠ tBs) → (w5.setCell ⟨bq, 0, none⟩ v5).heap[k]? = some o) ∧ Below base W (w5.setCell ⟨bq, 0, none⟩ v5) := by
  have far : ∀ k, k ≠ bq → (w5.setCell ⟨bq, 0, none⟩ v5).heap[k]? = w5.heap[k]? := fun k hk => Below.heap_setCell w5 ⟨bq, 0, none⟩ v5 k hk
  have hty : ∀ (k : Nat) (o : Obj), W.heap[k]? = some o → (∀ cs t, o = .cells cs t (0, 0) → t ≠ tBss ∧ t ≠ tBs) → (w5.setCell ⟨bq, 0, none⟩ v5).heap[k]? = some o := fun k o hk h1 => by
    rw [far k (fun e => by rw [e, hL] at hk; exact (h1 _ _ (Option.some.inj hk).symm).1 rfl)]
    refine (hg.block k (by obtain ⟨hh, _⟩ := Array.getElem?_eq_some_iff.1 hk; exact hh) (fun e => ?_)).trans hk
    obtain ⟨cells, hc⟩ := own_typed hH.row k e.symm
    rw [hk] at hc
    exact (h1 _ _ (Option.some.inj hc)).2 rfl
  have hty2 : ∀ (k : Nat) (cs : Array Value) (t : TypeId), W.heap[k]? = some (.cells cs t (0, 0)) → t ≠ tBss → t ≠ tBs → (w5.setCell ⟨bq, 0, none⟩ v5).heap[k]? = some (.cells cs t (0, 0)) := fun k cs t hk h1 h2 => hty k _ hk (fun cs' t' e => by injection e with _ e _; subst e; exact ⟨h1, h2⟩)
  have hb : w5.heap[bq]? = some (.cells #[hv] tBss (0, 0)) := by
    refine (hg.block bq (blk_lt hL) (fun e => ?_)).trans hL
    obtain ⟨cells, hc⟩ := own_typed hH.row bq e.symm
    rw [hL] at hc
    injection hc with hc
    injection hc with _ hc _
    exact absurd hc (by decide)
  refine ⟨hb, by have := blk_set hb 0 v5; simpa using this, ⟨?_, fun j v hj => ?_, parted_snoc hH.ap hxn⟩, (KeepsOthers.of_grownBy hg fun j o ej hj => ?_).trans (KeepsOthers.setCell _ _ _), ⟨by have := hg.size; simpa using this, fun k cs t hk ht => hty2 k cs t hk (by rcases ht with rfl | rfl | rfl <;> decide) (by rcases ht with rfl | rfl | rfl <;> decide)⟩, hty, ((Below.refl base W).grown hg hw fun j ej => own_base hH.row j ej).setCell (p := ⟨bq, 0, none⟩) hbq v5⟩
  · rw [List.length_append, List.length_singleton]
    exact own_move ho (fun k hk => far k (fun e => by
      obtain ⟨cells, hc⟩ := own_typed ho k hk
      rw [e, hb] at hc
      injection hc with hc
      injection hc with _ hc _
      exact absurd hc (by decide)))
  · rcases snoc_at hj with ⟨rfl, rfl⟩ | ⟨h1, h2, h3⟩
    · rw [more_at]
      exact ⟨(hx.move (fun k hk => by obtain ⟨cs, hc⟩ := hx.typed hk; rw [hty2 k _ _ hc (by decide) (by decide), hc])).lower hb1, hxl⟩
    · rw [more_ne _ _ h1]
      exact ⟨(hH.own j v h3).1.move (fun k hk => by obtain ⟨cs, hc⟩ := (hH.own j v h3).1.typed hk; rw [hty2 k _ _ hc (by decide) (by decide), hc]), (hH.own j v h3).2⟩
  · obtain ⟨cells, hc⟩ := own_typed hH.row j ej
    rw [hj] at hc
    cases hc
    rfl
theorem held_more_a {W w5 : World} {tmp : Obj} {bq b1 : Nat} {xv v5 : Value} {xb : List Int} (hw : base ≤ W.heap.size) (hbq : base ≤ bq) (hL : W.heap[bq]? = some (.cells #[hv] tBss (0, 0))) (hH : HeldR W base hv vs c) (hx : Ow W b1 xv xb) (hxl : xb.length ≤ 140737488351232)
    (hb1 : base ≤ b1) (hxn : ∀ k, xv.ownBlock = some k → ∀ v ∈ vs, v.ownBlock ≠ some k) (ho : w5.ownsRow base tBs 1 v5 (vs.length + 1) (vs ++ [xv])) (hg : (W.alloc tmp).grownBy w5 hv.ownBlock) :
    w5.heap[bq]? = some (.cells #[hv] tBss (0, 0)) ∧ (w5.setCell ⟨bq, 0, none⟩ v5).heap[bq]? = some (.cells #[v5] tBss (0, 0)) ∧ HeldR (w5.setCell ⟨bq, 0, none⟩ v5) base v5 (vs ++ [xv]) (more c vs.length xb) ∧ KeepsOthers W (w5.setCell ⟨bq, 0, none⟩ v5) ∧ KeepT W (w5.setCell ⟨bq, 0, none⟩ v5) ∧
      (∀ (k : Nat) (o : Obj), W.heap[k]? = some o → (∀ cs t, o = .cells cs t (0, 0) → t ≠ tBss ∧ t ≠ tBs) → (w5.setCell ⟨bq, 0, none⟩ v5).heap[k]? = some o) ∧ Below base W (w5.setCell ⟨bq, 0, none⟩ v5) := by
  have ba := below_alloc (Below.refl W.heap.size W) tmp
  have h := held_more (W := W.alloc tmp) (by simp; omega) hbq (blk_below hL ba) (hH.below ba) (hx.below ba) hxl hb1 hxn ho hg
  exact ⟨h.1, h.2.1, h.2.2.1, (KeepsOthers.alloc W tmp).trans h.2.2.2.1, (KeepT.of_below ba).trans h.2.2.2.2.1, fun k o hk h1 => h.2.2.2.2.2.1 k o ((ba.block k (by obtain ⟨hh, _⟩ := Array.getElem?_eq_some_iff.1 hk; exact hh)).trans hk) h1, ((Below.refl base W).alloc hw tmp).trans h.2.2.2.2.2.2⟩
/-- The cell of one of them. -/
theorem HeldR.at (h : HeldR w base hv vs c) {i : Nat} {v : Value} (hi : vs[i]? = some v) : ∃ ad n, hv = .slice (some ad) vs.length n ∧ vs.length ≤ n ∧ w.cell? (ad.add i) = some v := by
  have hil : i < vs.length := (List.getElem?_eq_some_iff.1 hi).1
  rcases h.row.2 with ⟨rfl, h0⟩ | ⟨b, cap, cur, rfl, h1, h2, h3, h4, h5, h6⟩
  · omega
  · refine ⟨⟨b, 0, none⟩, cap, rfl, h3, ?_⟩
    rw [add_plain, blkc h2 i, ← hi, ← h6, List.getElem?_take_of_lt (by rw [Nat.mul_one]; exact hil), Array.getElem?_toList]
/-- The rounds' marks. -/
def Marks (Ds : List Nat) (W : World) : Prop := ∀ d ∈ Ds, W.heap[d]? = some (.deferred (some []))
theorem Marks.below {Ds : List Nat} {W W1 : World} (h : Marks Ds W) (hb : Below W.heap.size W W1) : Marks Ds W1 := fun d hd => (hb.block d (blk_lt (h d hd))).trans (h d hd)
theorem marks_own {β : Type} {Ds : List Nat} {B : Nat} (hB : ∀ d ∈ Ds, d < B) : OwnFrom B (fun (_ : β) W => Marks Ds W) := fun s X Y row h hg hr d hd => (hg.block d (blk_lt (h d hd)) (fun e => by have h1 := (hr d e.symm).1; have h2 := hB d hd; omega)).trans (h d hd)
/-- What is held while all is gathered: so many, in the box, beside what was there. -/
def HI (V : World) (bq : Nat) (Ds : List Nat) (n : Nat) (W : World) : Prop := (∃ hv vs c, vs.length = n ∧ W.heap[bq]? = some (.cells #[hv] tBss (0, 0)) ∧ HeldR W V.heap.size hv vs c) ∧ Below V.heap.size V W ∧ Marks Ds W
theorem HI.below {V W W1 : World} {bq n : Nat} {Ds : List Nat} (h : HI V bq Ds n W) (hb : Below W.heap.size W W1) : HI V bq Ds n W1 := by
  obtain ⟨⟨hv, vs, c, h1, h2, h3⟩, h4, h5⟩ := h
  exact ⟨⟨hv, vs, c, h1, blk_below h2 hb, h3.below hb⟩, below_then h4 h4.size hb, h5.below hb⟩
theorem ownFrom_cells {β : Type} (B : Nat) (Q : β → World → Prop) (hQ : ∀ s X Y, X.heap.size ≤ Y.heap.size → (∀ (k : Nat) (cs : Array Value) (t : TypeId), X.heap[k]? = some (.cells cs t (0, 0)) → Y.heap[k]? = some (.cells cs t (0, 0))) → Q s X → Q s Y) : OwnFrom B Q := fun s X Y row h hg hr =>
  hQ s X Y hg.size (fun k cs t hk => block_own B k (fun _ : Unit => .cells cs t (0, 0)) (fun _ => rfl) () X Y row hk hg hr) h
theorem hi_own {β : Type} {V : World} {bq B : Nat} {Ds : List Nat} (n : β → Nat) (hB : V.heap.size ≤ B) (hD : ∀ d ∈ Ds, d < B) : OwnFrom B (fun s W => HI V bq Ds (n s) W) :=
  OwnFrom.and (ownFrom_cells B (fun s W => ∃ (hv : Value) (vs : List Value) (c : Nat → List Int), vs.length = n s ∧ W.heap[bq]? = some (.cells #[hv] tBss (0, 0)) ∧ HeldR W V.heap.size hv vs c) (fun s X Y _ hc ⟨hv, vs, c, h1, h2, h3⟩ => ⟨hv, vs, c, h1, hc _ _ _ h2, h3.types (fun k cs t hk _ => hc k cs t hk)⟩)) (OwnFrom.and (ownFrom_below (Nat.le_refl _) hB) (marks_own hD))
/-- What a round is handed: the packet's block, bytes of its own that are none of those held. -/
def HA (V : World) (bq : Nat) (Ds : List Nat) (m : Nat) (FR : Nat → Nat → Int → Int → Option Addr → Nat → Nat → Act) (n : Nat) (x : ElT) (a' : Act) (W : World) : Prop := ∃ (Bx : Nat) (A9 : Option Addr) (n9 c9 : Nat) (hv : Value) (vs : List Value) (c : Nat → List Int),
  W.heap[Bx]? = some (.cells #[.int .i64 x.2.src, .int .i64 x.2.dst, .slice A9 n9 c9] tPk (0, 0)) ∧ x.2.sv = .slice A9 n9 c9 ∧ vs.length = n ∧ n < m ∧ W.heap[bq]? = some (.cells #[hv] tBss (0, 0)) ∧ HeldR W V.heap.size hv vs c ∧ Ow W V.heap.size x.2.sv x.2.bs ∧ x.2.bs.length ≤ 140737488351232 ∧ (∀ k, x.2.sv.ownBlock = some k → ∀ v ∈ vs, v.ownBlock ≠ some k) ∧ Below V.heap.size V W ∧ Marks Ds W ∧ a' = FR Bx x.1 x.2.src x.2.dst A9 n9 c9
theorem ha_own {V : World} {bq m n : Nat} {Ds : List Nat} {FR : Nat → Nat → Int → Int → Option Addr → Nat → Nat → Act} {B : Nat} (hB : V.heap.size ≤ B) (hD : ∀ d ∈ Ds, d < B) (x : ElT) (a' : Act) : OwnFrom B (fun (_ : Unit) W => HA V bq Ds m FR n x a' W) := fun s X Y row ⟨Bx, A9, n9, c9, hv, vs, c, h1, h0, h2, h3, h4, h5, h6, h7, h8, h10, h11, h9⟩ hg hr => by
  have hc : ∀ (k : Nat) (cs : Array Value) (t : TypeId), X.heap[k]? = some (.cells cs t (0, 0)) → Y.heap[k]? = some (.cells cs t (0, 0)) := fun k cs t hk => block_own B k (fun _ : Unit => .cells cs t (0, 0)) (fun _ => rfl) () X Y row hk hg hr
  exact ⟨Bx, A9, n9, c9, hv, vs, c, hc _ _ _ h1, h0, h2, h3, hc _ _ _ h4, h5.types (fun k cs t hk _ => hc k cs t hk), h6.move (fun k hk => by obtain ⟨cs, hk2⟩ := h6.typed hk; rw [hc _ _ _ hk2, hk2]), h7, h8, ownFrom_below (β := Unit) (Nat.le_refl _) hB () X Y row h10 hg hr, marks_own (β := Unit) hD () X Y row h11 hg hr, h9⟩
end
end Go.Proofs.Ytpjbgcpieijeaaa.Net
