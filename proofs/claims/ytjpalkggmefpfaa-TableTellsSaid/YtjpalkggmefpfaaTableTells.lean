/- TableTells, walked. -/
import Derived.Test.YtjpalkggmefpfaaTabRound
import Derived.Laws.EntriesVeiled
import Derived.LoopN
import Derived.RangeFuncNested
set_option linter.unusedVariables false
set_option linter.unusedSimpArgs false
namespace Go.Proofs.Ytjpalkggmefpfaa.Tab
open Go.RowKit Go.Proofs.Ytjpalkggmefpfaa.Mem Go.Proofs.YtjpalkggmefpfaaW.PrintWords Go.Proofs.YtjpalkggmefpfaaW.PrintLast Go.Deep Go.Proofs.Ytjpalkggmefpfaa.Opn
abbrev tSq : TypeId := 52
theorem blk_sp {n0 k : Nat} {w w1 : World} {cs : Array Value} {t : TypeId} (h : w.heap[k]? = some (.cells cs t (0, 0))) (hk : Kept w w1 (SP n0 w)) (h1 : t ≠ tTab) (h2 : t ≠ tPl) : w1.heap[k]? = some (.cells cs t (0, 0)) :=
  blk_kept h hk (fun ⟨_, cs2, t2, hc, ht⟩ => by
    rw [h] at hc
    cases hc
    exact ht.elim h1 h2)
theorem IterR.types {w w1 : World} {lb : Array Value} {d : Bool} {l : List Row} {a b : Int} (h : IterR w lb d l a b) (hk : ∀ (k : Nat) (cs : Array Value) (t : TypeId), w.heap[k]? = some (.cells cs t (0, 0)) → (t = tN ∨ t = tPN ∨ t = tI ∨ t = tB) → w1.heap[k]? = some (.cells cs t (0, 0))) : IterR w1 lb d l a b := by
  obtain ⟨b1, b2, b3, b4, root, t, e, h1, h2, h3, h4, h5, h6⟩ := h
  exact ⟨b1, b2, b3, b4, root, t, e, hk _ _ _ h1 (.inr (.inl rfl)), hk _ _ _ h2 (.inr (.inr (.inl rfl))), hk _ _ _ h3 (.inr (.inr (.inl rfl))), hk _ _ _ h4 (.inr (.inr (.inr rfl))), TR.imp (fun g _ _ _ hg => hk g _ _ hg (.inl rfl)) h5, h6⟩
theorem IterR.sp {n0 : Nat} {w w1 : World} {lb : Array Value} {d : Bool} {l : List Row} {a b : Int} (h : IterR w lb d l a b) (hk : Kept w w1 (SP n0 w)) : IterR w1 lb d l a b :=
  IterR.types h (fun k cs t hc ht => blk_sp hc hk (by rcases ht with rfl | rfl | rfl | rfl <;> decide) (by rcases ht with rfl | rfl | rfl | rfl <;> decide))
theorem IterR.set {w : World} {lb : Array Value} {d : Bool} {l : List Row} {a b : Int} {k : Nat} {cs : Array Value} {t : TypeId} (h : IterR w lb d l a b) (hk : w.heap[k]? = some (.cells cs t (0, 0))) (h0 : t ≠ tN ∧ t ≠ tPN ∧ t ≠ tI ∧ t ≠ tB) (j : Nat) (v : Value) : IterR (w.setCell ⟨k, j, none⟩ v) lb d l a b :=
  IterR.types h (fun i ci ti hi ht => blk_far (p := ⟨k, j, none⟩) hi (blk_ne hi hk (by rcases ht with rfl | rfl | rfl | rfl; exact fun e => h0.1 e.symm; exact fun e => h0.2.1 e.symm; exact fun e => h0.2.2.1 e.symm; exact fun e => h0.2.2.2 e.symm)) v)
theorem XR.far {n0 : Nat} {w : World} {A : Option Addr} {c : Nat} {l : List Row} {v : Nat} {cs : Array Value} {t : TypeId} (h : XR n0 w A c l) (hv : w.heap[v]? = some (.cells cs t (0, 0))) (ht : t ≠ tRow) (hn : n0 ≤ v) (j : Nat) (x : Value) : XR n0 (w.setCell ⟨v, j, none⟩ x) A c l := by
  have hne : ∀ ad, A = some ad → 0 < l.length → ¬ ad.block = v := fun ad ha hp e => by
    rcases h.2.2 ad ha hp with h1 | ⟨cs2, h1⟩
    · omega
    · rw [e, hv] at h1
      cases h1
      exact ht rfl
  refine ⟨Kd.C_foot_neS (S := fun k => k = v) ?_ h.1 hne _ ⟨by simp, fun i _ hi => Below.heap_setCell w ⟨v, j, none⟩ _ i hi⟩, h.2.1, fun ad ha hp => (h.2.2 ad ha hp).imp id (fun ⟨cs2, hc⟩ => ⟨cs2, blk_far (p := ⟨v, j, none⟩) hc (hne ad ha hp) x⟩)⟩
  intro W W' y cy hy
  rw [kR_cells hy]
  exact kR.K_of_M (kR_M W' 0 (fun _ => True) y)
theorem TabR.far {w : World} {g v j : Nat} {l : List Row} {x : Value} {cs : Array Value} {t : TypeId} (h : TabR w g l) (hv : w.heap[v]? = some (.cells cs t (0, 0))) (h1 : t ≠ tTab) (h2 : t ≠ tN) : TabR (w.setCell ⟨v, j, none⟩ x) g l := by
  obtain ⟨tr, root, a1, a2, a3⟩ := h
  exact ⟨tr, root, blk_far (p := ⟨v, j, none⟩) a1 (blk_ne a1 hv (fun e => h1 e.symm)) x, a2.set hv (fun e => h2 e.symm), a3⟩
theorem PlayR.far {n0 : Nat} {w : World} {b v : Nat} {g : Nat → Nat} {l : Nat → List Row} {A : Nat → Option Addr} {c : Nat → Nat} {cs : Array Value} {t : TypeId} (h : PlayR n0 w b g l A c) (hv : w.heap[v]? = some (.cells cs t (0, 0))) (h1 : t ≠ tTab) (h2 : t ≠ tN) (h3 : t ≠ tRow) (h4 : t ≠ tPl) (hn : n0 ≤ v) (k : Nat) (x : Value) : PlayR n0 (w.setCell ⟨v, k, none⟩ x) b g l A c := by
  obtain ⟨cs0, a1, a2⟩ := h.blk
  exact ⟨⟨cs0, blk_far (p := ⟨v, k, none⟩) a1 (blk_ne a1 hv (fun e => h4 e.symm)) x, a2⟩, fun j hj => (h.tab j hj).far hv h1 h2, h.ok, fun j hj => (h.xr j hj).far hv h3 hn k x, h.ge, h.ne, h.hb⟩
def three {α : Type} (x y z : α) : Nat → α := fun j => if j = 0 then x else if j = 1 then y else z
theorem play_new {n0 : Nat} {w : World} {b g0 g1 g2 : Nat} {A : Option Addr} {c : Nat} {l : List Row} (hb : w.heap[b]? = some (.cells #[.pointer (some ⟨g0, 0, none⟩), .pointer (some ⟨g1, 0, none⟩), .pointer (some ⟨g2, 0, none⟩), .slice A l.length c, .slice none 0 0, .slice none 0 0] tPl (0, 0))) (T0 : TabR w g0 l) (T1 : TabR w g1 []) (T2 : TabR w g2 []) (OK : LOk l) (X : XR n0 w A c l) (h0 : n0 ≤ g0) (h1 : n0 ≤ g1) (h2 : n0 ≤ g2) (h01 : g0 ≠ g1) (h02 : g0 ≠ g2) (h12 : g1 ≠ g2) (hn : n0 ≤ b) :
    PlayR n0 w b (three g0 g1 g2) (three l [] []) (three A none none) (three c 0 0) := by
  have hx : XR n0 w none 0 [] := ⟨⟨rfl, by decide, fun h => absurd h (by decide)⟩, Nat.le_refl _, fun ad ha => by cases ha⟩
  have cs3 : ∀ j, j < 3 → j = 0 ∨ j = 1 ∨ j = 2 := fun j hj => by omega
  refine ⟨⟨_, hb, rfl, fun j hj => ?_⟩, fun j hj => ?_, fun j hj => ?_, fun j hj => ?_, fun j hj => ?_, fun i j hi hj hij => ?_, hn⟩
  · rcases cs3 j hj with rfl | rfl | rfl <;> exact ⟨rfl, rfl⟩
  · rcases cs3 j hj with rfl | rfl | rfl
    · exact T0
    · exact T1
    · exact T2
  · rcases cs3 j hj with rfl | rfl | rfl
    · exact OK
    · exact LOk.nil
    · exact LOk.nil
  · rcases cs3 j hj with rfl | rfl | rfl
    · exact X
    · exact hx
    · exact hx
  · rcases cs3 j hj with rfl | rfl | rfl
    · exact h0
    · exact h1
    · exact h2
  · rcases cs3 i hi with rfl | rfl | rfl <;> rcases cs3 j hj with rfl | rfl | rfl
    · exact absurd rfl hij
    · exact h01
    · exact h02
    · exact fun e => h01 e.symm
    · exact absurd rfl hij
    · exact h12
    · exact fun e => h02 e.symm
    · exact fun e => h12 e.symm
    · exact absurd rfl hij
theorem postM_ret2 {F : Fence} {n D1 D0 : Nat} {P : Program} {fn : Func} {R : Ending → World → Prop} {a : Act} {w : World} {v : Value} {args1 args0 : Array Value} (hk1 : w.heap[D1]? = some (.deferred (some []))) (hk0 : (w.putObj D1 (.deferred none)).heap[D0]? = some (.deferred (some []))) (hr : (results fn a.tmps).run P ((w.putObj D1 (.deferred none)).putObj D0 (.deferred none)) = .ok v ((w.putObj D1 (.deferred none)).putObj D0 (.deferred none))) (hd : a.defers = [{ target := .collected D1, args := args1 }, { target := .collected D0, args := args0 }]) (hR : R (.returned v) ((w.putObj D1 (.deferred none)).putObj D0 (.deferred none))) : postM F n P fn R .ret a w := by
  show LeavesInM F n P fn a.tmps R a.defers .returning w
  rw [hd]
  exact ⟨by simp, .inl ⟨D1, _, rfl, run_takeDeferred hk1, ⟨by simp, .inl ⟨D0, _, rfl, run_takeDeferred hk0, ⟨v, hr, hR⟩⟩⟩⟩⟩
abbrev rQ : Row := ⟨⟨#[113]⟩, ⟨#[]⟩, 5⟩
theorem tells_end {w W : World} {D0 D1 br : Nat} (hne : D0 ≠ D1) (h0 : W.heap[D0]? = some (.deferred (some []))) (h1 : W.heap[D1]? = some (.deferred (some []))) (hr : W.heap[br]? = some (.cells #[.bool false] tB (0, 0))) (hB : Below w.heap.size w W) (hbr : w.heap.size ≤ br) (hd0 : w.heap.size ≤ D0) (hd1 : w.heap.size ≤ D1) :
    (W.setCell ⟨br, 0, none⟩ (.bool true)).heap[D1]? = some (.deferred (some [])) ∧ ((W.setCell ⟨br, 0, none⟩ (.bool true)).putObj D1 (.deferred none)).heap[D0]? = some (.deferred (some [])) ∧ ((((W.setCell ⟨br, 0, none⟩ (.bool true)).putObj D1 (.deferred none)).putObj D0 (.deferred none)).heap[br]? = some (.cells #[.bool true] tB (0, 0))) ∧ Below w.heap.size w (((W.setCell ⟨br, 0, none⟩ (.bool true)).putObj D1 (.deferred none)).putObj D0 (.deferred none)) := by
  have n0 : D0 ≠ br := fun e => by rw [e, hr] at h0; cases h0
  have n1 : D1 ≠ br := fun e => by rw [e, hr] at h1; cases h1
  have k0 : (W.setCell ⟨br, 0, none⟩ (.bool true)).heap[D0]? = some (.deferred (some [])) := (Below.heap_setCell W ⟨br, 0, none⟩ _ D0 n0).trans h0
  have k1 : (W.setCell ⟨br, 0, none⟩ (.bool true)).heap[D1]? = some (.deferred (some [])) := (Below.heap_setCell W ⟨br, 0, none⟩ _ D1 n1).trans h1
  have kr : (W.setCell ⟨br, 0, none⟩ (.bool true)).heap[br]? = some (.cells #[.bool true] tB (0, 0)) := blk_set hr 0 (.bool true)
  have g1 := grownBy_putObj' (W.setCell ⟨br, 0, none⟩ (.bool true)) D1 (.deferred none)
  have m0 := (g1.block D0 (blk_lt k0) (fun e => hne (Option.some.inj e))).trans k0
  have mr := (g1.block br (blk_lt kr) (fun e => n1 (Option.some.inj e).symm)).trans kr
  have g0 := grownBy_putObj' ((W.setCell ⟨br, 0, none⟩ (.bool true)).putObj D1 (.deferred none)) D0 (.deferred none)
  have nr := (g0.block br (blk_lt mr) (fun e => n0 (Option.some.inj e).symm)).trans mr
  have b1 := below_set (j := 0) (v := .bool true) hB hbr
  exact ⟨k1, m0, nr, (b1.trans (belowK_b (w := w) (Nat.le_refl _) _ D1 _ _ hd1 k1 rfl rfl)).trans (belowK_b (w := w) (Nat.le_refl _) _ D0 _ _ hd0 m0 rfl rfl)⟩
/-- What an iterator has captured, below a bound. -/
def IterL (nb : Nat) (w : World) (lb : Array Value) (down : Bool) (l : List Row) (a b : Int) : Prop := ∃ (b1 b2 b3 b4 : Nat) (root : Option Addr) (t : T), lb = #[.pointer (some ⟨b1, 0, none⟩), .pointer (some ⟨b2, 0, none⟩), .pointer (some ⟨b3, 0, none⟩), .pointer (some ⟨b4, 0, none⟩)] ∧
  w.heap[b1]? = some (bx (.pointer root) tPN) ∧ w.heap[b2]? = some (bx (.int .i64 a) tI) ∧ w.heap[b3]? = some (bx (.int .i64 b) tI) ∧ w.heap[b4]? = some (bx (.bool down) tB) ∧ TR w t root ∧ t.WF ∧ t.list = l ∧ b1 < nb ∧ b2 < nb ∧ b3 < nb ∧ b4 < nb
theorem IterL.of {w : World} {lb : Array Value} {d : Bool} {l : List Row} {a b : Int} (h : IterR w lb d l a b) : IterL w.heap.size w lb d l a b := by
  obtain ⟨b1, b2, b3, b4, root, t, e, h1, h2, h3, h4, h5, h6, h7⟩ := h
  exact ⟨b1, b2, b3, b4, root, t, e, h1, h2, h3, h4, h5, h6, h7, blk_lt h1, blk_lt h2, blk_lt h3, blk_lt h4⟩
theorem IterL.it {nb : Nat} {w : World} {lb : Array Value} {d : Bool} {l : List Row} {a b : Int} (h : IterL nb w lb d l a b) : IterR w lb d l a b := by
  obtain ⟨b1, b2, b3, b4, root, t, e, h1, h2, h3, h4, h5, h6, h7, _⟩ := h
  exact ⟨b1, b2, b3, b4, root, t, e, h1, h2, h3, h4, h5, h6, h7⟩
theorem IterL.types {nb : Nat} {w w1 : World} {lb : Array Value} {d : Bool} {l : List Row} {a b : Int} (h : IterL nb w lb d l a b) (hk : ∀ (k : Nat) (cs : Array Value) (t : TypeId), w.heap[k]? = some (.cells cs t (0, 0)) → (t = tN ∨ k < nb) → w1.heap[k]? = some (.cells cs t (0, 0))) : IterL nb w1 lb d l a b := by
  obtain ⟨b1, b2, b3, b4, root, t, e, h1, h2, h3, h4, h5, h6, h7, l1, l2, l3, l4⟩ := h
  exact ⟨b1, b2, b3, b4, root, t, e, hk _ _ _ h1 (.inr l1), hk _ _ _ h2 (.inr l2), hk _ _ _ h3 (.inr l3), hk _ _ _ h4 (.inr l4), TR.imp (fun g _ _ _ hg => hk g _ _ hg (.inl rfl)) h5, h6, h7, l1, l2, l3, l4⟩
theorem IterL.below {nb : Nat} {w w1 : World} {lb : Array Value} {d : Bool} {l : List Row} {a b : Int} (h : IterL nb w lb d l a b) (hb : Below w.heap.size w w1) : IterL nb w1 lb d l a b := h.types (fun k cs t hc _ => blk_below hc hb)
theorem IterL.set {nb : Nat} {w : World} {lb : Array Value} {d : Bool} {l : List Row} {a b : Int} {k : Nat} {cs : Array Value} {t : TypeId} (h : IterL nb w lb d l a b) (hk : w.heap[k]? = some (.cells cs t (0, 0))) (h0 : t ≠ tN) (hn : nb ≤ k) (j : Nat) (v : Value) : IterL nb (w.setCell ⟨k, j, none⟩ v) lb d l a b :=
  h.types (fun i ci ti hi ht => blk_far (p := ⟨k, j, none⟩) hi (ht.elim (fun e => blk_ne hi hk (by rw [e]; exact fun e2 => h0 e2.symm)) (fun hlt => by show i ≠ k; omega)) v)
/-- What lies while the iterators are gone over. -/
def TI (n0 : Nat) (w : World) (bn bw bd br g : Nat) (lb1 lb2 : Array Value) (l lt want : List Row) (lo hi : Int) (An : Option Addr) (cn : Nat) (dm : Option Nat) (m : Int) (W : World) : Prop :=
  W.heap[bn]? = some (bx (.int .i64 m) tI) ∧ W.heap[bw]? = some (.cells #[.slice An want.length cn] tRows (0, 0)) ∧ W.heap[bd]? = some (.cells #[.func (.func 68) #[] lb2] tSq (0, 0)) ∧ W.heap[br]? = some (.cells #[.bool false] tB (0, 0)) ∧ IterL bn W lb1 false l lo hi ∧ IterL bn W lb2 true l lo hi ∧ TabR W g lt ∧ XR n0 W An cn want ∧ Below n0 w W ∧ (∀ d, dm = some d → d < bn ∧ W.heap[d]? = some (.deferred (some [])))
theorem TI.below {n0 : Nat} {w : World} {bn bw bd br g : Nat} {lb1 lb2 : Array Value} {l lt want : List Row} {lo hi : Int} {An : Option Addr} {cn : Nat} {dm : Option Nat} {m : Int} {W W' : World} (h : TI n0 w bn bw bd br g lb1 lb2 l lt want lo hi An cn dm m W) (hb : Below W.heap.size W W') (hn : n0 ≤ W.heap.size) : TI n0 w bn bw bd br g lb1 lb2 l lt want lo hi An cn dm m W' := by
  obtain ⟨h1, h2, h3, h4, h5, h6, h7, h8, h9, h10⟩ := h
  exact ⟨blk_below h1 hb, blk_below h2 hb, blk_below h3 hb, blk_below h4 hb, h5.below hb, h6.below hb, h7.below hb, h8.below hb, h9.trans (hb.mono hn), fun d hd => ⟨(h10 d hd).1, (hb.block d (blk_lt (h10 d hd).2)).trans (h10 d hd).2⟩⟩
theorem iterL_own {β : Type} (B nb : Nat) (lb : Array Value) (d : Bool) (l : List Row) (a b : Int) : OwnFrom B (fun (_ : β) W => IterL nb W lb d l a b) := fun s X Y row h hg hr =>
  IterL.types h (fun k cs t hc _ => block_own B k (fun _ : Unit => .cells cs t (0, 0)) (fun _ => rfl) () X Y row hc hg hr)
theorem xr_own {β : Type} {B n0 : Nat} (A : Option Addr) (c : Nat) (l : List Row) (hn : n0 ≤ B) : OwnFrom B (fun (_ : β) W => XR n0 W A c l) := fun s X Y row h hg hr => by
  have hne : ∀ ad, A = some ad → 0 < l.length → some ad.block ≠ row := fun ad ha hp e => by
    obtain ⟨hB, o, ho, hc⟩ := hr ad.block e.symm
    rcases h.2.2 ad ha hp with h1 | ⟨cs, h1⟩
    · omega
    · rw [h1] at ho
      cases ho
      cases hc
  refine ⟨Kd.C_foot_neS (S := fun k => some k = row) ?_ h.1 (fun ad ha hp e => hne ad ha hp e) Y ⟨hg.size, fun k hk hn => hg.block k hk hn⟩, h.2.1, fun ad ha hp => (h.2.2 ad ha hp).imp id (fun ⟨cs, hc⟩ => ⟨cs, (hg.block ad.block (blk_lt hc) (hne ad ha hp)).trans hc⟩)⟩
  intro W W' y cy hy
  rw [kR_cells hy]
  exact kR.K_of_M (kR_M W' 0 (fun _ => True) y)
theorem ti_own {β : Type} {n0 : Nat} {w : World} {bn bw bd br g : Nat} {lb1 lb2 : Array Value} {l lt want : List Row} {lo hi : Int} {An : Option Addr} {cn : Nat} {dm : Option Nat} (m : β → Int) (B : Nat) (h1 : n0 ≤ w.heap.size) (h2 : n0 ≤ B) (h3 : bn ≤ B) : OwnFrom B (fun s W => TI n0 w bn bw bd br g lb1 lb2 l lt want lo hi An cn dm (m s) W) :=
  OwnFrom.and (block_own B bn (fun s => bx (.int .i64 (m s)) tI) (fun _ => rfl)) (OwnFrom.and (block_own B bw (fun _ => _) (fun _ => rfl)) (OwnFrom.and (block_own B bd (fun _ => _) (fun _ => rfl)) (OwnFrom.and (block_own B br (fun _ => _) (fun _ => rfl)) (OwnFrom.and (iterL_own B bn lb1 false l lo hi) (OwnFrom.and (iterL_own B bn lb2 true l lo hi) (OwnFrom.and (tabR_own B g (fun _ => lt)) (OwnFrom.and (xr_own An cn want h2) (OwnFrom.and (ownFrom_below h1 h2) (fun s X Y row h hg hr => fun d hd => ⟨(h d hd).1, (hg.block d (blk_lt (h d hd).2) (fun e => by have h4 := (hr d e.symm).1; have h5 := (h d hd).1; omega)).trans (h d hd).2⟩)))))))))
theorem keepI_own {β : Type} {b0 B : Nat} {W0 : World} (hB : W0.heap.size ≤ B) : OwnFrom B (fun (_ : β) W => KeepI b0 W0 W) := fun s X Y row h hg hr =>
  ⟨Nat.le_trans h.1 hg.size, fun k cs t hc ht => block_own B k (fun _ : Unit => .cells cs t (0, 0)) (fun _ => rfl) () X Y row (h.2 k cs t hc ht) hg hr⟩
theorem pure_own {β : Type} {B : Nat} (P : β → Prop) : OwnFrom B (fun s (_ : World) => P s) := fun _ _ _ _ h _ _ => h
theorem prefix_next' {want pre : List Row} {x : Row} (h : pre ++ [x] <+: want) : want[pre.length]? = some x := by
  obtain ⟨r, rfl⟩ := h
  rw [List.append_assoc, List.getElem?_append_right (Nat.le_refl _), Nat.sub_self]
  rfl
theorem TI.setI {n0 : Nat} {w : World} {bn bw bd br g : Nat} {lb1 lb2 : Array Value} {l lt want : List Row} {lo hi : Int} {An : Option Addr} {cn : Nat} {dm : Option Nat} {m : Int} {W : World} {k : Nat} {v0 : Value} (h : TI n0 w bn bw bd br g lb1 lb2 l lt want lo hi An cn dm m W) (hk : W.heap[k]? = some (bx v0 tI)) (hnk : bn < k) (hn : n0 ≤ bn) (v : Value) : TI n0 w bn bw bd br g lb1 lb2 l lt want lo hi An cn dm m (W.setCell ⟨k, 0, none⟩ v) := by
  obtain ⟨h1, h2, h3, h4, h5, h6, h7, h8, h9, h10⟩ := h
  exact ⟨blk_far (p := ⟨k, 0, none⟩) h1 (show bn ≠ k by omega) v, blk_far (p := ⟨k, 0, none⟩) h2 (blk_ne h2 hk (show tRows ≠ tI by decide)) v, blk_far (p := ⟨k, 0, none⟩) h3 (blk_ne h3 hk (show tSq ≠ tI by decide)) v, blk_far (p := ⟨k, 0, none⟩) h4 (blk_ne h4 hk (show tB ≠ tI by decide)) v, h5.set hk (by decide) (by omega) 0 v, h6.set hk (by decide) (by omega) 0 v, h7.far hk (by decide) (by decide), h8.far hk (by decide) (by omega) 0 v, h9.setCell (p := ⟨k, 0, none⟩) (by show n0 ≤ k; omega) v, fun d hd => ⟨(h10 d hd).1, (Below.heap_setCell W ⟨k, 0, none⟩ _ d (by have h11 := (h10 d hd).1; show d ≠ k; omega)).trans (h10 d hd).2⟩⟩
theorem TI.setN {n0 : Nat} {w : World} {bn bw bd br g : Nat} {lb1 lb2 : Array Value} {l lt want : List Row} {lo hi : Int} {An : Option Addr} {cn : Nat} {dm : Option Nat} {m : Int} {W : World} (h : TI n0 w bn bw bd br g lb1 lb2 l lt want lo hi An cn dm m W) (hn : n0 ≤ bn) (m' : Int) : TI n0 w bn bw bd br g lb1 lb2 l lt want lo hi An cn dm m' (W.setCell ⟨bn, 0, none⟩ (.int .i64 m')) := by
  obtain ⟨h1, h2, h3, h4, h5, h6, h7, h8, h9, h10⟩ := h
  exact ⟨blk_set h1 0 _, blk_far (p := ⟨bn, 0, none⟩) h2 (blk_ne h2 h1 (show tRows ≠ tI by decide)) _, blk_far (p := ⟨bn, 0, none⟩) h3 (blk_ne h3 h1 (show tSq ≠ tI by decide)) _, blk_far (p := ⟨bn, 0, none⟩) h4 (blk_ne h4 h1 (show tB ≠ tI by decide)) _, h5.set h1 (by decide) (Nat.le_refl _) 0 _, h6.set h1 (by decide) (Nat.le_refl _) 0 _, h7.far h1 (by decide) (by decide), h8.far h1 (by decide) hn 0 _, h9.setCell (p := ⟨bn, 0, none⟩) hn _, fun d hd => ⟨(h10 d hd).1, (Below.heap_setCell W ⟨bn, 0, none⟩ _ d (by have h11 := (h10 d hd).1; show d ≠ bn; omega)).trans (h10 d hd).2⟩⟩
theorem keepI_set {b0 k : Nat} {W0 W : World} {cs : Array Value} {t : TypeId} (h : KeepI b0 W0 W) (hk : W.heap[k]? = some (.cells cs t (0, 0))) (ht : t ≠ tN) (hlt : k < b0 ∨ W0.heap.size ≤ k) (j : Nat) (v : Value) : KeepI b0 W0 (W.setCell ⟨k, j, none⟩ v) :=
  ⟨by have := h.1; simpa using this, fun i ci ti hi hti => blk_far (p := ⟨k, j, none⟩) (h.2 i ci ti hi hti) (by
    rcases hti with rfl | ⟨hb, _⟩
    · exact blk_ne (h.2 i ci _ hi (.inl rfl)) hk (fun e => ht e.symm)
    · have h1 := blk_lt hi
      show i ≠ k
      omega) v⟩
theorem prefix_rev {want pre : List Row} {y : Row} {j : Nat} (h : pre ++ [y] <+: want.reverse) (hj : j + 1 + pre.length = want.length) : want[j]? = some y := by
  have h2 := prefix_next' h
  rw [List.getElem?_reverse (by omega)] at h2
  rw [← h2]
  congr 1
  omega
theorem prefix_next {want pre : List Row} {x : Row} (h : pre ++ [x] <+: want) : want[pre.length]? = some x := by
  obtain ⟨r, rfl⟩ := h
  rw [List.append_assoc, List.getElem?_append_right (Nat.le_refl _), Nat.sub_self]
  rfl
theorem prefix_not {want pre : List Row} {x y : Row} (hp : pre <+: want) (h : want[pre.length]? = some y) (hn : ¬ pre ++ [x] <+: want) : x ≠ y := by
  rintro rfl
  obtain ⟨r, rfl⟩ := hp
  rw [List.getElem?_append_right (Nat.le_refl _), Nat.sub_self] at h
  cases r with
  | nil => cases h
  | cons z r =>
    cases h
    exact hn ⟨r, by simp⟩
theorem prefix_end {want pre : List Row} {x : Row} (hp : pre <+: want) (h : want.length ≤ pre.length) : ¬ pre ++ [x] <+: want := fun hn => by
  have := hn.length_le
  simp at this
  omega
end Go.Proofs.Ytjpalkggmefpfaa.Tab
namespace Go.Proofs.Ytjpalkggmefpfaa.Tells
open Go.Proofs.Ytjpalkggmefpfaa.Tab hiding putAll
open Go.RowKit Go.Proofs.Ytjpalkggmefpfaa.Mem Go.Proofs.YtjpalkggmefpfaaW.PrintWords Go.Proofs.YtjpalkggmefpfaaW.PrintLast Go.Deep Go.Proofs.Ytjpalkggmefpfaa.Opn
attribute [local go_sem ↓] execOp_call_tmp
attribute [local go_sem] callVal_func
attribute [local go_sem] Oper.semAt_some
set_option maxHeartbeats 12800000 in
set_option maxRecDepth 100000 in
theorem tells_no {l : List Row} {A : Option Addr} {c : Nat} (f u : ByteArray) (script : List TStep) (Ag : Option Addr) (cg : Nat) (w : World) (hcap : l.length ≤ c) (hbig : l.length ≤ 3518437208780) (hC : kR.C w A l.length l) (hz : listErr l ≠ 0) :
    Calls Try.prog 7 #[.slice A l.length c, .agg #[.string f, .string u], .slice Ag script.length cg] w fun e w' => e = .returned (.bool true) ∧ Below w.heap.size w w' := by
  have X1 := Lib.hid (blk_new (w.alloc (.cells #[.string f, .string u] 39)) (.cells #[.bool false] tB))
  have B0 := Lib.hid (below_alloc (below_alloc (Below.refl w.heap.size w) (.cells #[.string f, .string u] 39)) (.cells #[.bool false] tB))
  have HC := Lib.hid hC
  have HZ := Lib.hid hz
  have hs0 : (w.alloc (.cells #[.string f, .string u] 39)).heap.size = w.heap.size + 1 := by simp
  clear hC hz
  refine (callsIn_wide (n := 5)).1 ?_
  refine callsIn_of_wp_marks Try.func7 rfl trivial ?_ rfl
  refine wpIn_wide.2 ?_
  refine Code.wp_mono (fun e a w h => postM_le e a w h) ?_
  simp only [Try.ntmps7, List.size_toArray, List.length_cons, List.length_nil, Nat.reduceAdd, Nat.reduceSub, Array.replicate_succ, Array.replicate_zero, List.push_toArray, List.append_toArray, List.nil_append, List.cons_append]
  rw [hs0] at X1
  go_wp2_with fail
  generalize (World.alloc _ _) = W0 at *
  refine (refList_any hcap (Kd.C_below HC.out B0.out) (by omega)).mono ?_
  rintro e w3 ⟨rfl, hb3⟩
  have X3 := Lib.hid (blk_below X1.out hb3)
  have B3 := Lib.hid (below_then B0.out B0.out.size hb3)
  have hne : (listErr l != 0) = true := by simpa using HZ.out
  have x1 := blk1 X3.out
  have z1 := blkz X3.out
  clear hb3
  go_wp2_with fail
  have X4 := Lib.hid (blk_set X3.out 0 (.bool true))
  have B4 := Lib.hid (below_set (j := 0) (v := .bool true) B3.out (show w.heap.size ≤ w.heap.size + 1 by omega))
  have x4 := blk1 X4.out
  exact postM_ret (v := .bool true) (by simp [results, Try.results7, go_sem, x4]) rfl ⟨rfl, B4.out⟩

set_option maxHeartbeats 12800000 in
set_option maxRecDepth 100000 in
theorem tells_ok {l : List Row} {A : Option Addr} {c : Nat} (f u : ByteArray) (script : List TStep) (Ag : Option Addr) (cg : Nat) (w : World) (hcap : l.length ≤ c) (hbig : l.length ≤ 3518437208780) (hC : kR.C w A l.length l) (hz : listErr l = 0) (hcg : script.length ≤ cg) (hlen : script.length ≤ 1649267441664) (hG : kTOp.C w Ag script.length script) (hrows : ∀ s, s ∈ script → s.rows.length ≤ 3518437208780) :
    Calls Try.prog 7 #[.slice A l.length c, .agg #[.string f, .string u], .slice Ag script.length cg] w fun e w' => e = .returned (.bool true) ∧ Below w.heap.size w w' := by
  have HG := Lib.hid hG
  have HR := Lib.hid hrows
  have X0 := Lib.hid (blk_below (blk_new w (.cells #[.string f, .string u] 39)) (below_alloc (Below.refl _ _) (.cells #[.bool false] tB)))
  have X1 := Lib.hid (blk_new (w.alloc (.cells #[.string f, .string u] 39)) (.cells #[.bool false] tB))
  have B0 := Lib.hid (below_alloc (below_alloc (Below.refl w.heap.size w) (.cells #[.string f, .string u] 39)) (.cells #[.bool false] tB))
  have HC := Lib.hid hC
  have HZ := Lib.hid hz
  have HOK := Lib.hid (listErr_ok hz)
  have HCAP := Lib.hid hcap
  have hs0 : (w.alloc (.cells #[.string f, .string u] 39)).heap.size = w.heap.size + 1 := by simp
  clear hC hz hG hrows
  refine (callsIn_wide (n := 5)).1 ?_
  refine callsIn_of_wp_marks Try.func7 rfl trivial ?_ rfl
  refine wpIn_wide.2 ?_
  refine Code.wp_mono (fun e a w h => postM_le e a w h) ?_
  simp only [Try.ntmps7, List.size_toArray, List.length_cons, List.length_nil, Nat.reduceAdd, Nat.reduceSub, Array.replicate_succ, Array.replicate_zero, List.push_toArray, List.append_toArray, List.nil_append, List.cons_append]
  rw [hs0] at X1
  go_wp2_with fail
  generalize (World.alloc _ _) = W0 at *
  refine (refList_any hcap (Kd.C_below HC.out B0.out) (by omega)).mono ?_
  rintro e w3 ⟨rfl, hb3⟩
  have X0 := Lib.hid (blk_below X0.out hb3)
  have X1 := Lib.hid (blk_below X1.out hb3)
  have B3 := Lib.hid (below_then B0.out B0.out.size hb3)
  have hz := HZ.out
  rw [hz]
  clear hz hb3 B0
  go_wp2_with fail
  refine (from_any HCAP.out (Kd.C_below HC.out B3.out) (by omega)).mono ?_
  rintro e w4 ⟨hcase, hb4⟩
  obtain ⟨g, rfl, hg, hT⟩ : ∃ g, e = Ending.returned (.tuple #[.pointer (some ⟨g, 0, none⟩), .int .i64 0]) ∧ w3.heap.size ≤ g ∧ TabR w4 g l := by
    rcases hcase with ⟨_, h⟩ | ⟨h, _⟩
    · exact h
    · exact absurd HZ.out h
  have X4 := Lib.hid (blk_below X0.out hb4)
  have Y4 := Lib.hid (blk_below X1.out hb4)
  have B4 := Lib.hid (below_then B3.out B3.out.size hb4)
  have T4 := Lib.hid hT
  have HG4 := Lib.hid (Nat.le_trans B3.out.size hg)
  have T4D := Lib.hid (T4.out.below (below_drew (Below.refl _ _)))
  have BD := Lib.hid (below_drew (Below.refl w4.heap.size w4))
  clear hcase hb4 hg hT X0 X1 B3
  have cq := blkc X4.out
  go_wp2_with fail
  clear cq
  refine start_ (n := 9) (S := fun w' => (∀ o, w'.cell? ⟨w.heap.size, o, none⟩ = #[Value.string f, .string u][o]?)) (ds := [8]) #[false, false, false, false, false, false, false, false, false] (by kernel_rfl) rfl rfl ((blkc X4.out)) (fun hHeld => ?_)
  refine pure_ (i := 0) (N := some 34) (v := ?_) (a' := ?_) #[true, false, false, false, false, false, false, false, false] rfl rfl (by kernel_rfl) (fun _ _ _ h => h) (Or.inl ⟨by rfl, ?_⟩) ?_ ?_
  rotate_left
  · intro w'
    go_simp
    with_reducible rfl
  rotate_left
  · simp only [Act.put, List.setIfInBounds_toArray, List.set_cons_zero, List.set_cons_succ, i64_w, i32_w]
    rfl
  refine pure_ (i := 3) (N := some 37) (v := ?_) (a' := ?_) #[true, false, false, true, false, false, false, false, false] rfl rfl (by kernel_rfl) (fun _ _ _ h => h) (Or.inl ⟨by rfl, ?_⟩) ?_ ?_
  rotate_left
  · intro w'
    go_simp
    with_reducible rfl
  rotate_left
  · simp only [Act.put, List.setIfInBounds_toArray, List.set_cons_zero, List.set_cons_succ, i64_w, i32_w]
    rfl
  refine take_ (i := 1) (N := some 35) (v := ?_) (a' := ?_) #[true, true, false, true, false, false, false, false, false] rfl rfl (by kernel_rfl) (fun _ _ _ h => h) (Or.inl ⟨by rfl, ?_⟩) hHeld ?_ ?_
  rotate_left
  · intro w' s0
    go_simp
    with_reducible rfl
  rotate_left
  · simp only [Act.put, List.setIfInBounds_toArray, List.set_cons_zero, List.set_cons_succ, i64_w, i32_w]
    rfl
  refine take_ (i := 4) (N := some 38) (v := ?_) (a' := ?_) #[true, true, false, true, true, false, false, false, false] rfl rfl (by kernel_rfl) (fun _ _ _ h => h) (Or.inl ⟨by rfl, ?_⟩) hHeld ?_ ?_
  rotate_left
  · intro w' s0
    go_simp
    with_reducible rfl
  rotate_left
  · simp only [Act.put, List.setIfInBounds_toArray, List.set_cons_zero, List.set_cons_succ, i64_w, i32_w]
    rfl
  refine join_ (σ := Array Value × Array Value × Nat) 2 #[true, true, true, true, true, true, true, false, false] (fun s => [(36, .func (.func 68) #[] s.1), (39, .func (.func 68) #[] s.2.1), (10, .pointer (some ⟨s.2.2, 0, none⟩))]) (fun s w' => IterR w' s.1 false l ((below f l).length : Int) (upTo l u) ∧ IterR w' s.2.1 true l ((below f l).length : Int) (upTo l u) ∧ w'.heap[s.2.2]? = some (.cells #[.nilFunc] tSq (0, 0)) ∧ Below w4.heap.size w4 w' ∧ w4.heap.size ≤ s.2.2) ?_ ?_
  rotate_left
  · intro hCont
    refine two_ (i := 2) (j := 6) (Ni := some 36) (Nj := some 10) #[true, true, true, true, true, false, false, false, false] #[true, true, false, true, true, false, true, false, false] rfl rfl rfl rfl (by kernel_rfl) (by decide) (by decide) (fun K hK => ?_) (fun K hK => ?_)
    · skip
      refine goes_ Try.func25 (by kernel_rfl) rfl #[.pointer (some ⟨g, 0, none⟩), .agg #[.string f, .string u]] (by rfl) rfl rfl (by simp only [List.map_toArray, List.map_cons, List.map_nil]; rfl) ?_
      with_reducible refine (rows_any T4D.out HOK.out f u).mono ?_
      rintro e wa ⟨lb1, rfl, hI1, hb1⟩
      refine ⟨_, rfl, ?_⟩
      have B1 := Lib.hid (below_then BD.out BD.out.size hb1)
      have T1 := Lib.hid (T4D.out.below hb1)
      have I1 := Lib.hid hI1
      clear hI1 hb1
      refine hK.out _ _ ((blkc (blk_below X4.out B1.out))) (fun hHeld => ?_)
      clear hK K
      refine norm_ (a' := ?_) ?_ ?_
      rotate_left
      · show Act.put _ (some 36) _ = _
        simp only [Act.put, List.setIfInBounds_toArray, List.set_cons_zero, List.set_cons_succ, i64_w, i32_w]
        rfl
      refine two_ (i := 5) (j := 6) (Ni := some 39) (Nj := some 10) #[true, true, true, true, true, true, false, false, false] #[true, true, true, true, true, false, true, false, false] rfl rfl rfl rfl (by kernel_rfl) (by decide) (by decide) (fun K hK => ?_) (fun K hK => ?_)
      · skip
        refine goes_ Try.func26 (by kernel_rfl) rfl #[.pointer (some ⟨g, 0, none⟩), .agg #[.string f, .string u]] (by rfl) rfl rfl (by simp only [List.map_toArray, List.map_cons, List.map_nil]; rfl) ?_
        with_reducible refine (down_any T1.out HOK.out f u).mono ?_
        rintro e wb ⟨lb2, rfl, hI2, hb2⟩
        refine ⟨_, rfl, ?_⟩
        have B2 := Lib.hid (below_then B1.out B1.out.size hb2)
        have I1 := Lib.hid (I1.out.below hb2)
        have I2 := Lib.hid hI2
        clear hI2 hb2
        refine hK.out _ _ ((blkc (blk_below X4.out B2.out))) (fun hHeld => ?_)
        clear hK K
        refine norm_ (a' := ?_) ?_ ?_
        rotate_left
        · show Act.put _ (some 39) _ = _
          simp only [Act.put, List.setIfInBounds_toArray, List.set_cons_zero, List.set_cons_succ, i64_w, i32_w]
          rfl
        refine one_ (i := 6) (N := some 10) #[true, true, true, true, true, true, true, false, false] rfl rfl (by kernel_rfl) (by decide) (fun K hK => ?_)
        refine value_ (w1 := ?_) (v := ?_) (by rfl) rfl ?_ ?_
        rotate_left 2
        · go_simp
          constructor
          · rfl
          · rfl
        have B3 := Lib.hid (below_alloc B2.out (.cells #[.nilFunc] tSq))
        have Z3 := Lib.hid (blk_new wb (.cells #[.nilFunc] tSq))
        have I1 := Lib.hid (I1.out.below (below_alloc (Below.refl _ _) (.cells #[.nilFunc] tSq)))
        have I2 := Lib.hid (I2.out.below (below_alloc (Below.refl _ _) (.cells #[.nilFunc] tSq)))
        refine hK.out _ _ ((blkc (blk_below X4.out B3.out))) (fun hHeld => ?_)
        clear hK K
        refine norm_ (a' := ?_) ?_ ?_
        rotate_left
        · show Act.put _ (some 10) _ = _
          simp only [Act.put, List.setIfInBounds_toArray, List.set_cons_zero, List.set_cons_succ, i64_w, i32_w]
          rfl
        exact norm_ (by simp only [putAll, Act.put, List.setIfInBounds_toArray, List.set_cons_zero, List.set_cons_succ]) (hCont (lb1, lb2, wb.heap.size) _ ⟨I1.out, I2.out, Z3.out, B3.out, B2.out.size⟩)
      · skip
        refine value_ (w1 := ?_) (v := ?_) (by rfl) rfl ?_ ?_
        rotate_left 2
        · go_simp
          constructor
          · rfl
          · rfl
        have B2 := Lib.hid (below_alloc B1.out (.cells #[.nilFunc] tSq))
        have Z2 := Lib.hid (blk_new wa (.cells #[.nilFunc] tSq))
        have I1 := Lib.hid (I1.out.below (below_alloc (Below.refl _ _) (.cells #[.nilFunc] tSq)))
        have T2 := Lib.hid (T1.out.below (below_alloc (Below.refl _ _) (.cells #[.nilFunc] tSq)))
        refine hK.out _ _ ((blkc (blk_below X4.out B2.out))) (fun hHeld => ?_)
        clear hK K
        refine norm_ (a' := ?_) ?_ ?_
        rotate_left
        · show Act.put _ (some 10) _ = _
          simp only [Act.put, List.setIfInBounds_toArray, List.set_cons_zero, List.set_cons_succ, i64_w, i32_w]
          rfl
        refine one_ (i := 5) (N := some 39) #[true, true, true, true, true, true, true, false, false] rfl rfl (by kernel_rfl) (by decide) (fun K hK => ?_)
        refine goes_ Try.func26 (by kernel_rfl) rfl #[.pointer (some ⟨g, 0, none⟩), .agg #[.string f, .string u]] (by rfl) rfl rfl (by simp only [List.map_toArray, List.map_cons, List.map_nil]; rfl) ?_
        with_reducible refine (down_any T2.out HOK.out f u).mono ?_
        rintro e wb ⟨lb2, rfl, hI2, hb2⟩
        refine ⟨_, rfl, ?_⟩
        have B3 := Lib.hid (below_then B2.out B2.out.size hb2)
        have Z3 := Lib.hid (blk_below Z2.out hb2)
        have I1 := Lib.hid (I1.out.below hb2)
        have I2 := Lib.hid hI2
        clear hI2 hb2
        refine hK.out _ _ ((blkc (blk_below X4.out B3.out))) (fun hHeld => ?_)
        clear hK K
        refine norm_ (a' := ?_) ?_ ?_
        rotate_left
        · show Act.put _ (some 39) _ = _
          simp only [Act.put, List.setIfInBounds_toArray, List.set_cons_zero, List.set_cons_succ, i64_w, i32_w]
          rfl
        exact norm_ (by simp only [putAll, Act.put, List.setIfInBounds_toArray, List.set_cons_zero, List.set_cons_succ]) (hCont (lb1, lb2, wa.heap.size) _ ⟨I1.out, I2.out, Z3.out, B3.out, B1.out.size⟩)
    · skip
      refine value_ (w1 := ?_) (v := ?_) (by rfl) rfl ?_ ?_
      rotate_left 2
      · go_simp
        constructor
        · rfl
        · rfl
      have B1 := Lib.hid (below_alloc (Below.refl w4.heap.size w4) (.cells #[.nilFunc] tSq)).drew
      have Z1 := Lib.hid (blk_drew (blk_new w4 (.cells #[.nilFunc] tSq)))
      have T1 := Lib.hid (T4.out.below B1.out)
      refine hK.out _ _ ((blkc (blk_below X4.out B1.out))) (fun hHeld => ?_)
      clear hK K
      refine norm_ (a' := ?_) ?_ ?_
      rotate_left
      · show Act.put _ (some 10) _ = _
        simp only [Act.put, List.setIfInBounds_toArray, List.set_cons_zero, List.set_cons_succ, i64_w, i32_w]
        rfl
      refine one_ (i := 2) (N := some 36) #[true, true, true, true, true, false, true, false, false] rfl rfl (by kernel_rfl) (by decide) (fun K hK => ?_)
      refine goes_ Try.func25 (by kernel_rfl) rfl #[.pointer (some ⟨g, 0, none⟩), .agg #[.string f, .string u]] (by rfl) rfl rfl (by simp only [List.map_toArray, List.map_cons, List.map_nil]; rfl) ?_
      with_reducible refine (rows_any T1.out HOK.out f u).mono ?_
      rintro e wa ⟨lb1, rfl, hI1, hb1⟩
      refine ⟨_, rfl, ?_⟩
      have B2 := Lib.hid (below_then B1.out B1.out.size hb1)
      have Z2 := Lib.hid (blk_below Z1.out hb1)
      have T2 := Lib.hid (T1.out.below hb1)
      have I1 := Lib.hid hI1
      clear hI1 hb1
      refine hK.out _ _ ((blkc (blk_below X4.out B2.out))) (fun hHeld => ?_)
      clear hK K
      refine norm_ (a' := ?_) ?_ ?_
      rotate_left
      · show Act.put _ (some 36) _ = _
        simp only [Act.put, List.setIfInBounds_toArray, List.set_cons_zero, List.set_cons_succ, i64_w, i32_w]
        rfl
      refine one_ (i := 5) (N := some 39) #[true, true, true, true, true, true, true, false, false] rfl rfl (by kernel_rfl) (by decide) (fun K hK => ?_)
      refine goes_ Try.func26 (by kernel_rfl) rfl #[.pointer (some ⟨g, 0, none⟩), .agg #[.string f, .string u]] (by rfl) rfl rfl (by simp only [List.map_toArray, List.map_cons, List.map_nil]; rfl) ?_
      with_reducible refine (down_any T2.out HOK.out f u).mono ?_
      rintro e wb ⟨lb2, rfl, hI2, hb2⟩
      refine ⟨_, rfl, ?_⟩
      have B3 := Lib.hid (below_then B2.out B2.out.size hb2)
      have Z3 := Lib.hid (blk_below Z2.out hb2)
      have I1 := Lib.hid (I1.out.below hb2)
      have I2 := Lib.hid hI2
      clear hI2 hb2
      refine hK.out _ _ ((blkc (blk_below X4.out B3.out))) (fun hHeld => ?_)
      clear hK K
      refine norm_ (a' := ?_) ?_ ?_
      rotate_left
      · show Act.put _ (some 39) _ = _
        simp only [Act.put, List.setIfInBounds_toArray, List.set_cons_zero, List.set_cons_succ, i64_w, i32_w]
        rfl
      exact norm_ (by simp only [putAll, Act.put, List.setIfInBounds_toArray, List.set_cons_zero, List.set_cons_succ]) (hCont (lb1, lb2, w4.heap.size) _ ⟨I1.out, I2.out, Z3.out, B3.out, Nat.le_refl _⟩)
  rintro ⟨lb1, lb2, bd⟩ w5 ⟨hI1, hI2, hZ5, hB5, hq5⟩
  have I1 := Lib.hid (show IterR w5 lb1 false l ((below f l).length : Int) (upTo l u) from hI1)
  have I2 := Lib.hid (show IterR w5 lb2 true l ((below f l).length : Int) (upTo l u) from hI2)
  have Z5 := Lib.hid (show w5.heap[bd]? = some (.cells #[.nilFunc] tSq (0, 0)) from hZ5)
  have B5 := Lib.hid hB5
  have HQ5 := Lib.hid (show w4.heap.size ≤ bd from hq5)
  clear hI1 hI2 hZ5 hB5 hq5
  have hHeld := blkc (blk_below X4.out B5.out)
  refine norm_ (a' := ?_) ?_ ?_
  rotate_left
  · simp only [putAll, Act.put, List.setIfInBounds_toArray, List.set_cons_zero, List.set_cons_succ]
    rfl
  refine pure_ (i := 7) (N := some 9) (v := ?_) (a' := ?_) #[true, true, true, true, true, true, true, true, false] rfl rfl (by kernel_rfl) (fun _ _ _ h => h) (Or.inl ⟨by rfl, ?_⟩) ?_ ?_
  rotate_left
  · intro w'
    go_simp
    with_reducible rfl
  rotate_left
  · simp only [Act.put, List.setIfInBounds_toArray, List.set_cons_zero, List.set_cons_succ, i64_w, i32_w]
    rfl
  refine last_ (i := 8) (N := none) #[true, true, true, true, true, true, true, true, true] rfl rfl (by kernel_rfl) (by decide) (fun K hK => ?_)
  have cz5 := blkc Z5.out 0
  have zz5 := blkz Z5.out 0
  refine skip_ (w1 := ?_) (by rfl) rfl ?_ ?_
  rotate_left
  · go_simp
    rfl
  refine hK.out _ _ ?_
  clear hK K
  refine done_ (by kernel_rfl) ?_
  have hs5 : w.heap.size ≤ w5.heap.size := Nat.le_trans B4.out.size B5.out.size
  have B6 := Lib.hid (below_set (j := 0) (v := .func (.func 68) #[] lb2) (below_then B4.out B4.out.size B5.out) (Nat.le_trans B4.out.size HQ5.out))
  have Z6 := Lib.hid (blk_set Z5.out 0 (.func (.func 68) #[] lb2))
  have J1 := Lib.hid (IterR.set I1.out Z5.out (by decide) 0 (.func (.func 68) #[] lb2))
  have J2 := Lib.hid (IterR.set I2.out Z5.out (by decide) 0 (.func (.func 68) #[] lb2))
  have X6 := Lib.hid (blk_far (p := ⟨bd, 0, none⟩) (blk_below X4.out B5.out) (blk_ne (blk_below X4.out B5.out) Z5.out (show 39 ≠ tSq by decide)) (.func (.func 68) #[] lb2))
  have Y6 := Lib.hid (blk_far (p := ⟨bd, 0, none⟩) (blk_below Y4.out B5.out) (blk_ne (blk_below Y4.out B5.out) Z5.out (show tB ≠ tSq by decide)) (.func (.func 68) #[] lb2))
  have T6 : Hid (TabR (w5.setCell ⟨bd, 0, none⟩ (.func (.func 68) #[] lb2)) g l) := Lib.hid (by
    obtain ⟨t, root, h1, h2, h3⟩ := T4.out.below B5.out
    exact ⟨t, root, blk_far (p := ⟨bd, 0, none⟩) h1 (blk_ne h1 Z5.out (show tTab ≠ tSq by decide)) _, h2.set Z5.out (show tN ≠ tSq by decide), h3⟩)
  clear I1 I2 Z5 B5 HQ5 X4 Y4 T4 T4D BD
  generalize (World.setCell w5 _ _) = W6 at *
  have hq1 := fun u => seq_nil u (.func 68) lb1
  have hq2 := fun u => seq_nil u (.func 68) lb2
  have cz := blkc Z6.out 0
  have cx := blkc X6.out
  go_wp2_with fail
  clear hq1 hq2 cz cx
  refine (rrows_any (Kd.C_below HC.out B6.out) HOK.out.len f u).mono ?_
  rintro e w7 ⟨An, cn, rfl, hXW, hb7⟩
  obtain ⟨want, hwant⟩ : ∃ x, rowsIn l f u = x := ⟨_, rfl⟩
  rw [hwant] at hXW ⊢
  have HWN := Lib.hid hwant
  have hwl : want.length ≤ 1048576 := by rw [← hwant]; exact Nat.le_trans (rowsIn_le l f u) HOK.out.len
  have bw := below_then hb7 hb7.size (below_alloc (Below.refl w7.heap.size w7) (.cells #[.slice An want.length cn] tRows))
  have XW := Lib.hid ((hXW.mono (Nat.zero_le w.heap.size)).below (below_alloc (Below.refl w7.heap.size w7) (.cells #[.slice An want.length cn] tRows)))
  have ZW := Lib.hid (blk_new w7 (.cells #[.slice An want.length cn] tRows))
  have B7 := Lib.hid (below_then B6.out B6.out.size bw)
  have J1 := Lib.hid (J1.out.below bw)
  have J2 := Lib.hid (J2.out.below bw)
  have ZD := Lib.hid (blk_below Z6.out bw)
  have ZR := Lib.hid (blk_below Y6.out bw)
  have T7 := Lib.hid (T6.out.below bw)
  clear hwant hXW hb7 bw X6 Y6 Z6 B6 T6
  go_upto_region 10 with (fail)
  generalize w7.heap.size = bw at *
  generalize (World.alloc w7 _) = W7 at *
  go_wp2_with fail
  refine (new_some W7).mono ?_
  rintro e w8 ⟨g1, rfl, hg1, hT8, hb8⟩
  have HG1 := Lib.hid (And.intro (Nat.le_trans B7.out.size hg1) (show g ≠ g1 by have := T7.out.lt; omega))
  have T8 := Lib.hid (T7.out.below hb8)
  have U8 := Lib.hid hT8
  have XW := Lib.hid (XW.out.below hb8)
  have ZW := Lib.hid (blk_below ZW.out hb8)
  have B8 := Lib.hid (below_then B7.out B7.out.size hb8)
  have J1 := Lib.hid (J1.out.below hb8)
  have J2 := Lib.hid (J2.out.below hb8)
  have ZD := Lib.hid (blk_below ZD.out hb8)
  have ZR := Lib.hid (blk_below ZR.out hb8)
  clear hg1 hT8 hb8 B7 T7
  go_wp2_with fail
  refine (new_some w8).mono ?_
  rintro e w9 ⟨g2, rfl, hg2, hT9, hb9⟩
  have HG2 := Lib.hid (And.intro (Nat.le_trans B8.out.size hg2) (And.intro (show g ≠ g2 by have := T8.out.lt; omega) (show g1 ≠ g2 by have := U8.out.lt; omega)))
  have bp := below_then hb9 hb9.size (below_alloc (Below.refl w9.heap.size w9) (.cells #[.pointer (some ⟨g, 0, none⟩), .pointer (some ⟨g1, 0, none⟩), .pointer (some ⟨g2, 0, none⟩), .slice A l.length c, .slice none 0 0, .slice none 0 0] tPl))
  have T9 := Lib.hid (T8.out.below bp)
  have U9 := Lib.hid (U8.out.below bp)
  have V9 := Lib.hid (hT9.below (below_alloc (Below.refl w9.heap.size w9) (.cells #[.pointer (some ⟨g, 0, none⟩), .pointer (some ⟨g1, 0, none⟩), .pointer (some ⟨g2, 0, none⟩), .slice A l.length c, .slice none 0 0, .slice none 0 0] tPl)))
  have XW := Lib.hid (XW.out.below bp)
  have ZW := Lib.hid (blk_below ZW.out bp)
  have B9 := Lib.hid (below_then B8.out B8.out.size bp)
  have J1 := Lib.hid (J1.out.below bp)
  have J2 := Lib.hid (J2.out.below bp)
  have ZD := Lib.hid (blk_below ZD.out bp)
  have ZR := Lib.hid (blk_below ZR.out bp)
  have hw9 : w.heap.size ≤ w9.heap.size := Nat.le_trans B8.out.size hb9.size
  have XL : XR w.heap.size (w9.alloc (.cells #[.pointer (some ⟨g, 0, none⟩), .pointer (some ⟨g1, 0, none⟩), .pointer (some ⟨g2, 0, none⟩), .slice A l.length c, .slice none 0 0, .slice none 0 0] tPl)) A c l := ⟨Kd.C_below HC.out B9.out, HCAP.out, fun ad ha hn => .inl (by subst ha; exact Kd.C_lt HC.out hn (by decide))⟩
  have PL := Lib.hid (play_new (blk_new w9 (.cells #[.pointer (some ⟨g, 0, none⟩), .pointer (some ⟨g1, 0, none⟩), .pointer (some ⟨g2, 0, none⟩), .slice A l.length c, .slice none 0 0, .slice none 0 0] tPl)) T9.out U9.out V9.out HOK.out XL (Nat.le_trans (Nat.le_refl _) HG4.out) HG1.out.1 HG2.out.1 HG1.out.2 HG2.out.2.1 HG2.out.2.2 hw9)
  have GZ : Hid (three g g1 g2 0 = g) := Lib.hid rfl
  clear hg2 hT9 hb9 bp B8 T8 U8 T9 U9 V9 XL HG1 HG2 hw9
  go_upto_region 11 with (fail)
  generalize w9.heap.size = b at *
  generalize (World.alloc w9 _) = W9 at *
  generalize three g g1 g2 = gs at *
  go_wp2_with fail
  go_loopg [59] script.length (fun kq v59 w' => ∃ (k : Nat) (g' : Nat → Nat) (l' : Nat → List Row) (A' : Nat → Option Addr) (c' : Nat → Nat), v59 = .int .i64 (k : Int) ∧ Hid (k + kq = script.length) ∧ Hid (PlayR w.heap.size w' b g' l' A' c') ∧ Hid (g' 0 = g) ∧ Hid (IterR w' lb1 false l ((below f l).length : Int) (upTo l u)) ∧ Hid (IterR w' lb2 true l ((below f l).length : Int) (upTo l u)) ∧ Hid (w'.heap[bd]? = some (.cells #[.func (.func 68) #[] lb2] tSq (0, 0))) ∧ Hid (w'.heap[bw]? = some (.cells #[.slice An want.length cn] tRows (0, 0))) ∧ Hid (w'.heap[w.heap.size + 1]? = some (.cells #[.bool false] tB (0, 0))) ∧ Hid (XR w.heap.size w' An cn want) ∧ Hid (Below w.heap.size w w'))
  case atStart => exact ⟨0, gs, _, _, _, rfl, (show _ + _ = _ by omega), PL, GZ, J1, J2, ZD, ZW, ZR, XW, B9⟩
  case round =>
    clear PL GZ J1 J2 ZD ZW ZR XW B9
    obtain ⟨k, g', l', A', c', rfl, HK, PL, GZ, J1, J2, ZD, ZW, ZR, XW, B⟩ := hrel
    cases gk with
    | zero =>
      have hk : k = script.length := HK.out
      have c2 : decide (k < script.length) = false := by simp; omega
      clear hk HK
      go_wp2_with fail
      have TG := Lib.hid (show TabR wr g (l' 0) from by have h := PL.out.tab 0 (by decide); rw [GZ.out] at h; exact h)
      have OKL := Lib.hid (PL.out.ok 0 (by decide))
      generalize l' 0 = lt at *
      clear PL GZ
      have HDM : Hid (∀ d, (none : Option Nat) = some d → d < wr.heap.size ∧ wr.heap[d]? = some (.deferred (some []))) := Lib.hid (fun d hd => by cases hd)
      have HSEG := Lib.hid (show segD false l ((below f l).length : Int) (upTo l u) = want by rw [seg_in HOK.out.up, HWN.out])
      have hbl : (below f l).length ≤ l.length := List.length_filter_le ..
      have hup : 0 ≤ upTo l u ∧ upTo l u ≤ l.length := by
        unfold upTo
        have : (below u l).length ≤ l.length := List.length_filter_le ..
        split <;> omega
      have hll := HOK.out.len
      have HLB := Lib.hid (show l.length ≤ 1099511627776 ∧ 0 ≤ ((below f l).length : Int) ∧ ((below f l).length : Int) ≤ 1152921504606846976 ∧ -1152921504606846976 ≤ upTo l u ∧ upTo l u ≤ 1152921504606846976 by omega)
      clear hbl hup hll
      refine wp_loop_rounds 3 ?_
      rw [rounds_succ]
      have ba := below_alloc (Below.refl wr.heap.size wr) (.cells #[.int .i64 0] tI)
      have I0 : Hid (TI w.heap.size w wr.heap.size bw bd (w.heap.size + 1) g lb1 lb2 l lt want ((below f l).length : Int) (upTo l u) An cn none 0 (wr.alloc (.cells #[.int .i64 0] tI))) := Lib.hid ⟨blk_new wr _, blk_below ZW.out ba, blk_below ZD.out ba, blk_below ZR.out ba, (IterL.of J1.out).below ba, (IterL.of J2.out).below ba, TG.out.below ba, XW.out.below ba, below_then B.out B.out.size ba, fun d hd => ⟨(HDM.out d hd).1, (ba.block d (HDM.out d hd).1).trans (HDM.out d hd).2⟩⟩
      have HBN := Lib.hid (show w.heap.size ≤ wr.heap.size ∧ w.heap.size + 1 < wr.heap.size ∧ bw < wr.heap.size ∧ bd < wr.heap.size from ⟨B.out.size, blk_lt ZR.out, blk_lt ZW.out, blk_lt ZD.out⟩)
      have hsn : (wr.alloc (.cells #[.int .i64 0] tI)).heap.size = wr.heap.size + 1 := by simp
      clear ba J1 J2 ZD ZW ZR TG XW B hsn
      have HWL := Lib.hid hwl
      have HBN1 := Lib.hid (show wr.heap.size < (wr.alloc (.cells #[.int .i64 0] tI)).heap.size by simp)
      go_upto_region 23 with (fail)
      generalize wr.heap.size = bn at *
      generalize (World.alloc wr _) = W1 at *
      go_wp2_with fail
      refine (wpIn_wide (n := 5)).1 ?_
      have hn0 : w.heap.size ≤ W1.heap.size := I0.out.2.2.2.2.2.2.2.2.1.size
      have H00 : Hid (TI w.heap.size w bn bw bd (w.heap.size + 1) g lb1 lb2 l lt want ((below f l).length : Int) (upTo l u) An cn none (([] : List Row).length : Int) W1 ∧ [] <+: want) := Lib.hid ⟨I0.out, List.nil_prefix⟩
      refine wpIn_rangeFunc_ownH rfl (by omega) (gf := 68) (lb := lb1) rfl trivial (enters_of Try.func68 (by kernel_rfl) rfl)
        (walk1_stops (b0 := W1.heap.size) I0.out.2.2.2.2.1.it HLB.out.1 (Nat.le_refl _) HLB.out.2.1 HLB.out.2.2.1 HLB.out.2.2.2.1 HLB.out.2.2.2.2)
        (fun h k => KeepI.trans h k) (fun W k o o' _ h hc _ => KeepI.putObj W k o o' h hc) (Below.refl _ _) (fun _ => rfl)
        (fun pre W => TI w.heap.size w bn bw bd (w.heap.size + 1) g lb1 lb2 l lt want ((below f l).length : Int) (upTo l u) An cn none (pre.length : Int) W ∧ pre <+: want) (fun _ pre _ => ¬ pre <+: want)
        (OwnFrom.and (ti_own (fun pre : List Row => (pre.length : Int)) _ (Nat.le_refl _) hn0 (Nat.le_of_lt HBN1.out)) (pure_own _)) (fun c => pure_own _) H00.out
        (fun x a' W => ∃ Bx, W.heap[Bx]? = some (.cells #[.string x.key, .string x.value, .int .i64 x.version] tRow (0, 0)) ∧ a' = { tmps := #[.slice A l.length c, .agg #[.string f, .string u], .slice Ag script.length cg, undef, .pointer (some ⟨w.heap.size, 0, none⟩), undef, .pointer (some ⟨w.heap.size + 1, 0, none⟩), .pointer (some ⟨g, 0, none⟩), .int .i64 0, .func (.func 68) #[] lb1, .pointer (some ⟨bd, 0, none⟩), .pointer (some ⟨bw, 0, none⟩), .pointer (some ⟨b, 0, none⟩), undef, u14, .int .i64 0, .pointer (some ⟨bn, 0, none⟩), .pointer (some ⟨Bx, 0, none⟩), undef, undef, .slice A l.length c, .int .i64 0, .bool false, .tuple #[.pointer (some ⟨g, 0, none⟩), .int .i64 0], .slice A l.length c, .tuple #[.pointer (some ⟨g, 0, none⟩), .int .i64 0], .pointer (some ⟨g, 0, none⟩), .int .i64 0, .int .i64 0, .bool false, .bool false, .pointer (some ⟨g, 0, none⟩), .bool false, .bool false, .pointer (some ⟨g, 0, none⟩), .agg #[.string f, .string u], .func (.func 68) #[] lb1, .pointer (some ⟨g, 0, none⟩), .agg #[.string f, .string u], .func (.func 68) #[] lb2, .func (.func 68) #[] lb1, .bool false, .bool false, .func (.func 68) #[] lb2, .bool false, .bool false, .slice A l.length c, .agg #[.string f, .string u], .slice An want.length cn, .pointer (some ⟨g, 0, none⟩), .pointer (some ⟨g1, 0, none⟩), .pointer (some ⟨g2, 0, none⟩), .agg #[.pointer (some ⟨g, 0, none⟩), .pointer (some ⟨g1, 0, none⟩), .pointer (some ⟨g2, 0, none⟩)], .slice A l.length c, .agg #[.slice A l.length c, .slice none 0 0, .slice none 0 0], .agg #[.pointer (some ⟨g, 0, none⟩), .pointer (some ⟨g1, 0, none⟩), .pointer (some ⟨g2, 0, none⟩), .slice A l.length c, .slice none 0 0, .slice none 0 0], .pointer (some ⟨b, 0, none⟩), .slice Ag script.length cg, .int .i64 script.length, .int .i64 k, .bool false, u61, u62, u63, u64, u65, u66, u67, u68, u69, u70, u71, u72, .int .i64 0, .bool true, undef, undef, .func (.func 68) #[] lb1, x.val, undef, undef, undef, undef, undef, undef, undef, undef, undef, undef, undef, undef, undef, undef, undef, undef, undef, undef, undef, undef, undef, undef, undef, undef, undef, undef, undef, undef, undef, undef, undef, undef, undef, undef, undef, undef, undef, undef, undef, undef, undef, undef, undef, undef, undef, undef, undef], defers := [] })
        (fun x a' => fun s X Y row hs hg hr => by obtain ⟨Bx, h1, h2⟩ := hs; exact ⟨Bx, block_own W1.heap.size Bx (fun _ : Unit => .cells #[.string x.key, .string x.value, .int .i64 x.version] tRow (0, 0)) (fun _ => rfl) () X Y row h1 hg hr, h2⟩) ?assign ?body ?done ?stop
      case assign =>
        intro lp pre x W K hI hK
        have hw : w.heap.size ≤ W.heap.size := hI.1.2.2.2.2.2.2.2.2.1.size
        have HB := below_alloc (Below.refl W.heap.size W) (.cells #[.string x.key, .string x.value, .int .i64 x.version] tRow)
        have HK := Lib.hid (hK _ _ ((KeepsOthers.alloc _ _).from _) (KeepI.of_below HB) ⟨hI.1.below HB hw, hI.2⟩ ⟨W.heap.size, blk_new W (.cells #[.string x.key, .string x.value, .int .i64 x.version] tRow), rfl⟩)
        clear hK hI HB
        gi_wp2
        exact HK.out
      case body =>
        rintro lp pre x a' W hlp ⟨r, hr⟩ ⟨hTI, hpre⟩ ⟨Bx, hbx, rfl⟩ hlt
        have TIW := Lib.hid hTI
        have HPRE := Lib.hid hpre
        have HBX := Lib.hid hbx
        have HRL := Lib.hid hr
        have hpl : pre.length ≤ want.length := hpre.length_le
        have cn0 := blk1 hTI.1
        have cw0 := blkc hTI.2.1 0
        have cx := blkc hbx
        clear hTI hpre hbx hr hlt
        by_cases hx : pre ++ [x] <+: want
        · have hat := prefix_next hx
          have HX := Lib.hid hx
          have hlt2 : pre.length < want.length := (List.getElem?_eq_some_iff.1 hat).1
          obtain ⟨ad, hA, y0, y1, y2⟩ := at_R TIW.out.2.2.2.2.2.2.2.1.1 hat
          cases hA
          have d1 : decide (want.length ≤ pre.length) = false := by simp; omega
          have p1 := eq_true (show 0 ≤ (pre.length : Int) by omega)
          have p2 := eq_true hlt2
          have hne := fun W => run_neR x x W
          rw [(Row.eqb_iff x x).2 rfl] at hne
          simp only [Bool.not_true] at hne
          clear hx hat
          gi_wp2_with fail
          refine startIn_ (n := 12) (S := fun w' => w'.cell? ⟨bn, 0, none⟩ = some (.int .i64 pre.length) ∧ w'.cell? ⟨bw, 0, none⟩ = #[Value.slice (some ad) want.length cn][0]? ∧ (∀ o, w'.cell? ⟨Bx, o, none⟩ = #[Value.string x.key, .string x.value, .int .i64 x.version][o]?) ∧ w'.cell? (ad.add (pre.length * 3)) = some (.string x.key) ∧ w'.cell? ⟨(ad.add (pre.length * 3)).block, (ad.add (pre.length * 3)).off + 1, none⟩ = some (.string x.value) ∧ w'.cell? ⟨(ad.add (pre.length * 3)).block, (ad.add (pre.length * 3)).off + 2, none⟩ = some (.int .i64 x.version)) (ds := []) #[false, false, false, false, false, false, false, false, false, false, false, false] (by kernel_rfl) rfl rfl ⟨cn0, cw0, cx, y0, y1, y2⟩ (fun hHeld => ?_)
          refine take_ (i := 0) (N := some 79) (v := ?_) (a' := ?_) #[true, false, false, false, false, false, false, false, false, false, false, false] rfl rfl (by kernel_rfl) (fun _ _ _ h => h) (Or.inl ⟨by rfl, ?_⟩) hHeld ?_ ?_
          rotate_left
          · rintro w' ⟨s0, s1, s2, s3, s4, s5⟩
            go_simp
            with_reducible rfl
          rotate_left
          · simp only [Act.put, List.setIfInBounds_toArray, List.set_cons_zero, List.set_cons_succ, i64_w, i32_w]
            rfl
          refine take_ (i := 1) (N := some 80) (v := ?_) (a' := ?_) #[true, true, false, false, false, false, false, false, false, false, false, false] rfl rfl (by kernel_rfl) (fun _ _ _ h => h) (Or.inl ⟨by rfl, ?_⟩) hHeld ?_ ?_
          rotate_left
          · rintro w' ⟨s0, s1, s2, s3, s4, s5⟩
            go_simp
            with_reducible rfl
          rotate_left
          · simp only [Act.put, List.setIfInBounds_toArray, List.set_cons_zero, List.set_cons_succ, i64_w, i32_w]
            rfl
          refine pure_ (i := 2) (N := some 81) (v := ?_) (a' := ?_) #[true, true, true, false, false, false, false, false, false, false, false, false] rfl rfl (by kernel_rfl) (fun _ _ _ h => h) (Or.inl ⟨by rfl, ?_⟩) ?_ ?_
          rotate_left
          · intro w'
            go_simp
            with_reducible rfl
          rotate_left
          · simp only [Act.put, List.setIfInBounds_toArray, List.set_cons_zero, List.set_cons_succ, i64_w, i32_w]
            rfl
          refine pure_ (i := 3) (N := some 82) (v := ?_) (a' := ?_) #[true, true, true, true, false, false, false, false, false, false, false, false] rfl rfl (by kernel_rfl) (fun _ _ _ h => h) (Or.inl ⟨by rfl, ?_⟩) ?_ ?_
          rotate_left
          · intro w'
            go_simp
            with_reducible rfl
          rotate_left
          · simp only [Act.put, List.setIfInBounds_toArray, List.set_cons_zero, List.set_cons_succ, i64_w, i32_w]
            rfl
          refine pure_ (i := 4) (N := some 83) (v := ?_) (a' := ?_) #[true, true, true, true, true, false, false, false, false, false, false, false] rfl rfl (by kernel_rfl) (fun _ _ _ h => h) (Or.inl ⟨by rfl, ?_⟩) ?_ ?_
          rotate_left
          · intro w'
            go_simp
            with_reducible rfl
          rotate_left
          · simp only [Act.put, List.setIfInBounds_toArray, List.set_cons_zero, List.set_cons_succ, i64_w, i32_w]
            rfl
          refine take_ (i := 5) (N := some 84) (v := ?_) (a' := ?_) #[true, true, true, true, true, true, false, false, false, false, false, false] rfl rfl (by kernel_rfl) (fun _ _ _ h => h) (Or.inl ⟨by rfl, ?_⟩) hHeld ?_ ?_
          rotate_left
          · rintro w' ⟨s0, s1, s2, s3, s4, s5⟩
            go_simp
            with_reducible rfl
          rotate_left
          · simp only [Act.put, List.setIfInBounds_toArray, List.set_cons_zero, List.set_cons_succ, i64_w, i32_w]
            rfl
          refine take_ (i := 6) (N := some 85) (v := ?_) (a' := ?_) #[true, true, true, true, true, true, true, false, false, false, false, false] rfl rfl (by kernel_rfl) (fun _ _ _ h => h) (Or.inl ⟨by rfl, ?_⟩) hHeld ?_ ?_
          rotate_left
          · rintro w' ⟨s0, s1, s2, s3, s4, s5⟩
            go_simp
            with_reducible rfl
          rotate_left
          · simp only [Act.put, List.setIfInBounds_toArray, List.set_cons_zero, List.set_cons_succ, i64_w, i32_w]
            rfl
          refine take_ (i := 7) (N := some 86) (v := ?_) (a' := ?_) #[true, true, true, true, true, true, true, true, false, false, false, false] rfl rfl (by kernel_rfl) (fun _ _ _ h => h) (Or.inl ⟨by rfl, ?_⟩) hHeld ?_ ?_
          rotate_left
          · rintro w' ⟨s0, s1, s2, s3, s4, s5⟩
            go_simp
            with_reducible rfl
          rotate_left
          · simp only [Act.put, List.setIfInBounds_toArray, List.set_cons_zero, List.set_cons_succ, i64_w, i32_w]
            rfl
          refine pure_ (i := 8) (N := some 87) (v := ?_) (a' := ?_) #[true, true, true, true, true, true, true, true, true, false, false, false] rfl rfl (by kernel_rfl) (fun _ _ _ h => h) (Or.inl ⟨by rfl, ?_⟩) ?_ ?_
          rotate_left
          · intro w'
            go_simp
            with_reducible rfl
          rotate_left
          · simp only [Act.put, List.setIfInBounds_toArray, List.set_cons_zero, List.set_cons_succ, i64_w, i32_w]
            rfl
          refine take_ (i := 9) (N := some 88) (v := ?_) (a' := ?_) #[true, true, true, true, true, true, true, true, true, true, false, false] rfl rfl (by kernel_rfl) (fun _ _ _ h => h) (Or.inl ⟨by rfl, ?_⟩) hHeld ?_ ?_
          rotate_left
          · rintro w' ⟨s0, s1, s2, s3, s4, s5⟩
            go_simp
            with_reducible rfl
          rotate_left
          · simp only [Act.put, List.setIfInBounds_toArray, List.set_cons_zero, List.set_cons_succ, i64_w, i32_w]
            rfl
          refine pure_ (i := 10) (N := some 89) (v := ?_) (a' := ?_) #[true, true, true, true, true, true, true, true, true, true, true, false] rfl rfl (by kernel_rfl) (fun _ _ _ h => h) (Or.inl ⟨by rfl, ?_⟩) ?_ ?_
          rotate_left
          · intro w'
            go_simp
            with_reducible rfl
          rotate_left
          · simp only [Act.put, List.setIfInBounds_toArray, List.set_cons_zero, List.set_cons_succ, i64_w, i32_w]
            rfl
          refine pure_ (i := 11) (N := some 90) (v := ?_) (a' := ?_) #[true, true, true, true, true, true, true, true, true, true, true, true] rfl rfl (by kernel_rfl) (fun _ _ _ h => h) (Or.inl ⟨by rfl, ?_⟩) ?_ ?_
          rotate_left
          · intro w'
            go_simp
            with_reducible rfl
          rotate_left
          · simp only [Act.put, List.setIfInBounds_toArray, List.set_cons_zero, List.set_cons_succ, i64_w, i32_w]
            rfl
          refine done_ (by kernel_rfl) ?_
          have hdw := below_drew (Below.refl W.heap.size W)
          have hwW : w.heap.size ≤ W.heap.size := TIW.out.2.2.2.2.2.2.2.2.1.size
          have TID := Lib.hid (TIW.out.below hdw hwW)
          have KF := Lib.hid (show KeepsFrom W1.heap.size W W.drew from ⟨Nat.le_refl _, fun _ _ _ h0 _ => h0⟩)
          have KI := Lib.hid (KeepI.of_below (b0 := W1.heap.size) hdw)
          have HRD := Lib.hid (show W.drew.heap[lp]? = some (.loop r) from HRL.out)
          have hsd : W.drew.heap.size = W.heap.size := rfl
          clear hdw y0 y1 y2 cn0 cw0 cx d1 p1 p2 hne
          by_cases hp0 : pre = []
          · subst hp0
            have HSD := Lib.hid hsd
            clear hsd
            generalize W.drew = W5 at *
            have cn0 := blk1 TID.out.1
            have cw0 := blkc TID.out.2.1 0
            have ba6 := below_alloc (Below.refl W5.heap.size W5) (.cells #[.int .i64 want.length] tI)
            have h5w : w.heap.size ≤ W5.heap.size := TID.out.2.2.2.2.2.2.2.2.1.size
            have TI6 := Lib.hid (TID.out.below ba6 h5w)
            have BK6 := Lib.hid (blk_new W5 (.cells #[.int .i64 want.length] tI))
            have KF6 := Lib.hid (KF.out.trans ((KeepsOthers.alloc W5 (.cells #[.int .i64 want.length] tI)).from _))
            have KI6 := Lib.hid (KeepI.trans KI.out (KeepI.of_below ba6))
            have HR6 := Lib.hid ((ba6.block lp (blk_lt HRD.out)).trans HRD.out)
            have hs6 : (W5.alloc (.cells #[.int .i64 want.length] tI)).heap.size = W5.heap.size + 1 := by simp
            have cd0 := blkc (blk_below TID.out.2.2.1 ba6) 0
            have HBN2 := Lib.hid (blk_lt TID.out.1)
            clear ba6 TID KF KI HRD
            gi_wp2_with fail
            have hbnk : bn < W5.heap.size := HBN2.out
            have hWk : W.heap.size ≤ W5.heap.size := Nat.le_of_eq HSD.out.symm
            have hW6 : W.heap.size ≤ (W5.alloc (.cells #[.int .i64 want.length] tI)).heap.size := by omega
            have hk6 : W5.heap.size < (W5.alloc (.cells #[.int .i64 want.length] tI)).heap.size := by omega
            generalize (World.alloc W5 _) = W6 at *
            generalize W5.heap.size = bk at *
            have HBK := Lib.hid (And.intro hbnk (And.intro hWk (And.intro hW6 hk6)))
            clear hs6 HSD h5w cd0 cn0 cw0
            have H66 : Hid ((TI w.heap.size w bn bw bd (w.heap.size + 1) g lb1 lb2 l lt want ((below f l).length : Int) (upTo l u) (some ad) cn none 0 W6 ∧ (∃ kv : Nat, kv + ([] : List Row).length = want.length ∧ W6.heap[bk]? = some (bx (.int .i64 kv) tI)) ∧ [] <+: want.reverse) ∧ KeepI W1.heap.size W W6 ∧ KeepsFrom W1.heap.size W W6) := Lib.hid ⟨⟨TI6.out, ⟨want.length, rfl, BK6.out⟩, List.nil_prefix⟩, KI6.out, KF6.out⟩
            obtain ⟨F2, hF2⟩ : ∃ F : Row → Nat → Act, ∀ (x2 : Row) (By : Nat), F x2 By = { tmps := #[.slice A l.length c, .agg #[.string f, .string u], .slice Ag script.length cg, undef, .pointer (some ⟨w.heap.size, 0, none⟩), undef, .pointer (some ⟨w.heap.size + 1, 0, none⟩), .pointer (some ⟨g, 0, none⟩), .int .i64 0, .func (.func 68) #[] lb1, .pointer (some ⟨bd, 0, none⟩), .pointer (some ⟨bw, 0, none⟩), .pointer (some ⟨b, 0, none⟩), undef, u14, .int .i64 0, .pointer (some ⟨bn, 0, none⟩), .pointer (some ⟨Bx, 0, none⟩), .pointer (some ⟨bk, 0, none⟩), .pointer (some ⟨By, 0, none⟩), .slice A l.length c, .int .i64 0, .bool false, .tuple #[.pointer (some ⟨g, 0, none⟩), .int .i64 0], .slice A l.length c, .tuple #[.pointer (some ⟨g, 0, none⟩), .int .i64 0], .pointer (some ⟨g, 0, none⟩), .int .i64 0, .int .i64 0, .bool false, .bool false, .pointer (some ⟨g, 0, none⟩), .bool false, .bool false, .pointer (some ⟨g, 0, none⟩), .agg #[.string f, .string u], .func (.func 68) #[] lb1, .pointer (some ⟨g, 0, none⟩), .agg #[.string f, .string u], .func (.func 68) #[] lb2, .func (.func 68) #[] lb1, .bool false, .bool false, .func (.func 68) #[] lb2, .bool false, .bool false, .slice A l.length c, .agg #[.string f, .string u], .slice (some ad) want.length cn, .pointer (some ⟨g, 0, none⟩), .pointer (some ⟨g1, 0, none⟩), .pointer (some ⟨g2, 0, none⟩), .agg #[.pointer (some ⟨g, 0, none⟩), .pointer (some ⟨g1, 0, none⟩), .pointer (some ⟨g2, 0, none⟩)], .slice A l.length c, .agg #[.slice A l.length c, .slice none 0 0, .slice none 0 0], .agg #[.pointer (some ⟨g, 0, none⟩), .pointer (some ⟨g1, 0, none⟩), .pointer (some ⟨g2, 0, none⟩), .slice A l.length c, .slice none 0 0, .slice none 0 0], .pointer (some ⟨b, 0, none⟩), .slice Ag script.length cg, .int .i64 script.length, .int .i64 k, .bool false, u61, u62, u63, u64, u65, u66, u67, u68, u69, u70, u71, u72, .int .i64 0, .bool true, undef, undef, .func (.func 68) #[] lb1, x.val, .int .i64 ([] : List Row).length, .slice (some ad) want.length cn, .int .i64 want.length, .bool false, .bool false, .agg #[.string x.key, .string x.value, .int .i64 x.version], .slice (some ad) want.length cn, .int .i64 ([] : List Row).length, .pointer (some (ad.add (([] : List Row).length * 3))), .agg #[.string x.key, .string x.value, .int .i64 x.version], .bool false, .bool false, .int .i64 0, .bool true, .slice (some ad) want.length cn, .int .i64 want.length, .func (.func 68) #[] lb2, x2.val, undef, undef, undef, undef, undef, undef, undef, undef, undef, undef, undef, undef, undef, undef, undef, undef, undef, undef, undef, undef, undef, undef, undef, undef, undef, undef, undef, undef, undef], defers := [] } := ⟨fun x2 By => _, fun _ _ => rfl⟩
            have HF2 := Lib.hid hF2
            clear hF2
            refine wpIn_rangeFunc_ownN (l₀ := lp) (r₀ := r) rfl HR6.out (by omega) (gf := 68) (lb := lb2) rfl trivial (enters_of Try.func68 (by kernel_rfl) rfl)
              ((walk1_stops (b0 := W6.heap.size) TI6.out.2.2.2.2.2.1.it HLB.out.1 (Nat.le_refl _) HLB.out.2.1 HLB.out.2.2.1 HLB.out.2.2.2.1 HLB.out.2.2.2.2).inRound lp)
              (fun h k => KeepI.trans h k) (fun W k o o' _ h hc _ => KeepI.putObj W k o o' h hc) (Below.refl _ _) (fun _ => rfl)
              (fun pre2 W' => (TI w.heap.size w bn bw bd (w.heap.size + 1) g lb1 lb2 l lt want ((below f l).length : Int) (upTo l u) (some ad) cn none 0 W' ∧ (∃ kv : Nat, kv + pre2.length = want.length ∧ W'.heap[bk]? = some (bx (.int .i64 kv) tI)) ∧ pre2 <+: want.reverse) ∧ KeepI W1.heap.size W W' ∧ KeepsFrom W1.heap.size W W') (fun _ pre2 _ => ¬ pre2 <+: want.reverse)
              (OwnFrom.and (OwnFrom.and (ti_own (fun _ : List Row => (0 : Int)) _ (Nat.le_refl _) (Nat.le_trans hwW hW6) (Nat.le_of_lt (Nat.lt_trans hbnk hk6))) (OwnFrom.and (fun s X Y row ⟨kv, h1, h2⟩ hg hr => ⟨kv, h1, block_own W6.heap.size bk (fun _ : Unit => bx (.int .i64 kv) tI) (fun _ => rfl) () X Y row h2 hg hr⟩) (pure_own _))) (OwnFrom.and (keepI_own hW6) (ownFrom_keepsFrom hW6))) (fun c => pure_own _) H66.out
              (fun x2 a' W' => ∃ By, W'.heap[By]? = some (.cells #[.string x2.key, .string x2.value, .int .i64 x2.version] tRow (0, 0)) ∧ a' = F2 x2 By)
              (fun x2 a' => fun s X Y row hs hg hr => by obtain ⟨By, h1, h2⟩ := hs; exact ⟨By, block_own W6.heap.size By (fun _ : Unit => .cells #[.string x2.key, .string x2.value, .int .i64 x2.version] tRow (0, 0)) (fun _ => rfl) () X Y row h1 hg hr, h2⟩) ?assign2 ?body2 ?done2 ?stop2
            case assign2 =>
              intro lp2 pre2 y W' K hI hK
              obtain ⟨⟨hi1, ⟨kv, hi2, hi3⟩, hi4⟩, hi5, hi6⟩ := hI
              have hw : w.heap.size ≤ W'.heap.size := hi1.2.2.2.2.2.2.2.2.1.size
              have HB := below_alloc (Below.refl W'.heap.size W') (.cells #[.string y.key, .string y.value, .int .i64 y.version] tRow)
              have HK := Lib.hid (hK _ _ ((KeepsOthers.alloc _ _).from _) (KeepI.of_below HB) ⟨⟨hi1.below HB hw, ⟨kv, hi2, blk_below hi3 HB⟩, hi4⟩, KeepI.trans hi5 (KeepI.of_below HB), hi6.trans ((KeepsOthers.alloc _ _).from _)⟩ ⟨W'.heap.size, blk_new W' (.cells #[.string y.key, .string y.value, .int .i64 y.version] tRow), (HF2.out y W'.heap.size).symm⟩)
              clear hK hi1 hi2 hi3 hi4 hi5 hi6 HB
              gi_wp2
              exact HK.out
            case body2 =>
              rintro lp2 pre2 y a'' W' _ _ ⟨⟨hTI2, ⟨kv, hkv, hbk⟩, hpre2⟩, hki, hkf⟩ ⟨By, hby, rfl⟩ hlt2
              rw [HF2.out]
              have TI2 := Lib.hid hTI2
              have BK2 := Lib.hid hbk
              have KI2 := Lib.hid hki
              have KF2 := Lib.hid hkf
              have HP2 := Lib.hid hpre2
              have HKV := Lib.hid hkv
              have hkl : kv ≤ 1048576 := by have := HWL.out; omega
              have ck := blk1 hbk
              have zk := blkz hbk
              have BK3 := Lib.hid (blk_set hbk 0 (.int .i64 ((kv : Int) - 1)))
              have TI3 := Lib.hid (hTI2.setI hbk HBK.out.1 HBN.out.1 (.int .i64 ((kv : Int) - 1)))
              have BY3 := Lib.hid (blk_far (p := ⟨bk, 0, none⟩) hby (blk_ne hby hbk (show tRow ≠ tI by decide)) (.int .i64 ((kv : Int) - 1)))
              have KF3 := Lib.hid (show KeepsFrom W6.heap.size W' (W'.setCell ⟨bk, 0, none⟩ (.int .i64 ((kv : Int) - 1))) from (KeepsOthers.setCell _ _ _).from _)
              have KI3 := Lib.hid (keepI_set (KeepI.refl W6.heap.size W') hbk (by decide) (.inl HBK.out.2.2.2) 0 (.int .i64 ((kv : Int) - 1)))
              have KFB := Lib.hid (hkf.trans ((KeepsOthers.setCell W' ⟨bk, 0, none⟩ (.int .i64 ((kv : Int) - 1))).from _))
              have KIB := Lib.hid (keepI_set hki hbk (by decide) (.inr HBK.out.2.1) 0 (.int .i64 ((kv : Int) - 1)))
              have hfk : wrap64 ((kv : Int) - 1) = (kv : Int) - 1 := by rw [← i64_w]; exact IntWalk.i64_in _ (by omega)
              clear hTI2 hbk hki hkf hpre2 hby hlt2 hkv
              gi_wp2_with fail
              clear ck zk hfk
              generalize (World.setCell W' _ _) = W8 at *
              have ck := blk1 BK3.out
              have cw2 := blkc TI3.out.2.1 0
              have cy2 := blkc BY3.out
              cases kv with
              | zero =>
                have HNX := Lib.hid (prefix_end (x := y) HP2.out (by rw [List.length_reverse]; have := HKV.out; omega))
                have ck1 : W8.cell? ⟨bk, 0, none⟩ = some (.int .i64 (-1)) := ck
                have KFR := Lib.hid (KF3.out.trans ((show KeepsFrom W6.heap.size W8 W8.drew from ⟨Nat.le_refl _, fun _ _ _ h0 _ => h0⟩).trans ((KeepsOthers.setCell W8.drew ⟨w.heap.size + 1, 0, none⟩ (.bool false)).from _)))
                have TIR := Lib.hid (TI3.out.below (below_drew (Below.refl _ _)) TI3.out.2.2.2.2.2.2.2.2.1.size)
                clear ck KF3 KI3 TI2 BK2 KI2 KF2 KFB KIB
                show Code.wpIn (Fence.wide.inRound lp2) _ _ _ _ _ _
                refine startIn_ (n := 10) (S := fun w' => w'.cell? ⟨bk, 0, none⟩ = some (.int .i64 (-1)) ∧ w'.cell? ⟨bw, 0, none⟩ = #[Value.slice (some ad) want.length cn][0]? ∧ (∀ o, w'.cell? ⟨By, o, none⟩ = #[Value.string y.key, .string y.value, .int .i64 y.version][o]?)) (ds := []) #[false, false, false, false, false, false, false, false, false, false] (by kernel_rfl) rfl rfl ⟨ck1, cw2, cy2⟩ (fun hHeld => ?_)
                refine take_ (i := 0) (N := some 99) (v := ?_) (a' := ?_) #[true, false, false, false, false, false, false, false, false, false] rfl rfl (by kernel_rfl) (fun _ _ _ h => h) (Or.inl ⟨by rfl, ?_⟩) hHeld ?_ ?_
                rotate_left
                · rintro w' ⟨s0, s1, s2⟩
                  go_simp
                  with_reducible rfl
                rotate_left
                · simp only [Act.put, List.setIfInBounds_toArray, List.set_cons_zero, List.set_cons_succ, i64_w, i32_w]
                  rfl
                refine pure_ (i := 1) (N := some 100) (v := ?_) (a' := ?_) #[true, true, false, false, false, false, false, false, false, false] rfl rfl (by kernel_rfl) (fun _ _ _ h => h) (Or.inl ⟨by rfl, ?_⟩) ?_ ?_
                rotate_left
                · intro w'
                  go_simp
                  with_reducible rfl
                rotate_left
                · simp only [Act.put, List.setIfInBounds_toArray, List.set_cons_zero, List.set_cons_succ, i64_w, i32_w]
                  rfl
                refine pure_ (i := 2) (N := some 101) (v := ?_) (a' := ?_) #[true, true, true, false, false, false, false, false, false, false] rfl rfl (by kernel_rfl) (fun _ _ _ h => h) (Or.inl ⟨by rfl, ?_⟩) ?_ ?_
                rotate_left
                · intro w'
                  go_simp
                  with_reducible rfl
                rotate_left
                · simp only [Act.put, List.setIfInBounds_toArray, List.set_cons_zero, List.set_cons_succ, i64_w, i32_w]
                  rfl
                refine pure_ (i := 3) (N := some 102) (v := undef) (a' := ?_) #[true, true, true, true, false, false, false, false, false, false] rfl rfl (by kernel_rfl) (fun _ _ _ h => h) (Or.inr ⟨by rfl, rfl⟩) ?_ ?_
                rotate_left
                · simp only [Act.put, List.setIfInBounds_toArray, List.set_cons_zero, List.set_cons_succ, i64_w, i32_w]
                  rfl
                refine pure_ (i := 4) (N := some 103) (v := undef) (a' := ?_) #[true, true, true, true, true, false, false, false, false, false] rfl rfl (by kernel_rfl) (fun _ _ _ h => h) (Or.inr ⟨by rfl, rfl⟩) ?_ ?_
                rotate_left
                · simp only [Act.put, List.setIfInBounds_toArray, List.set_cons_zero, List.set_cons_succ, i64_w, i32_w]
                  rfl
                refine pure_ (i := 5) (N := some 104) (v := undef) (a' := ?_) #[true, true, true, true, true, true, false, false, false, false] rfl rfl (by kernel_rfl) (fun _ _ _ h => h) (Or.inr ⟨by rfl, rfl⟩) ?_ ?_
                rotate_left
                · simp only [Act.put, List.setIfInBounds_toArray, List.set_cons_zero, List.set_cons_succ, i64_w, i32_w]
                  rfl
                refine pure_ (i := 6) (N := some 105) (v := undef) (a' := ?_) #[true, true, true, true, true, true, true, false, false, false] rfl rfl (by kernel_rfl) (fun _ _ _ h => h) (Or.inr ⟨by rfl, rfl⟩) ?_ ?_
                rotate_left
                · simp only [Act.put, List.setIfInBounds_toArray, List.set_cons_zero, List.set_cons_succ, i64_w, i32_w]
                  rfl
                refine pure_ (i := 7) (N := some 106) (v := undef) (a' := ?_) #[true, true, true, true, true, true, true, true, false, false] rfl rfl (by kernel_rfl) (fun _ _ _ h => h) (Or.inr ⟨by rfl, rfl⟩) ?_ ?_
                rotate_left
                · simp only [Act.put, List.setIfInBounds_toArray, List.set_cons_zero, List.set_cons_succ, i64_w, i32_w]
                  rfl
                refine pure_ (i := 8) (N := some 107) (v := undef) (a' := ?_) #[true, true, true, true, true, true, true, true, true, false] rfl rfl (by kernel_rfl) (fun _ _ _ h => h) (Or.inr ⟨by rfl, rfl⟩) ?_ ?_
                rotate_left
                · simp only [Act.put, List.setIfInBounds_toArray, List.set_cons_zero, List.set_cons_succ, i64_w, i32_w]
                  rfl
                refine pure_ (i := 9) (N := some 108) (v := ?_) (a' := ?_) #[true, true, true, true, true, true, true, true, true, true] rfl rfl (by kernel_rfl) (fun _ _ _ h => h) (Or.inl ⟨by rfl, ?_⟩) ?_ ?_
                rotate_left
                · intro w'
                  go_simp
                  with_reducible rfl
                rotate_left
                · simp only [Act.put, List.setIfInBounds_toArray, List.set_cons_zero, List.set_cons_succ, i64_w, i32_w]
                  rfl
                refine done_ (by kernel_rfl) ?_
                have cbr := blk1 TIR.out.2.2.2.1
                have zbr := blkz TIR.out.2.2.2.1
                gi_wp2_with fail
                exact ⟨KFR.out, HNX.out⟩
              | succ j =>
                have hi1 : ((j + 1 : Nat) : Int) - 1 = (j : Int) := by omega
                rw [hi1] at BK3 ck
                have ck1 : W8.cell? ⟨bk, 0, none⟩ = some (.int .i64 (j : Int)) := ck
                clear ck hi1
                have hjl : j < want.length := by have := HKV.out; omega
                have TIR := Lib.hid (TI3.out.below (below_drew (Below.refl _ _)) TI3.out.2.2.2.2.2.2.2.2.1.size)
                have KD8 := Lib.hid (show KeepsFrom W6.heap.size W8 W8.drew from ⟨Nat.le_refl _, fun _ _ _ h0 _ => h0⟩)
                have p1 := eq_true (show 0 ≤ (j : Int) by omega)
                have p2 := eq_true hjl
                have d1 : ((j : Int) < 0) = False := _root_.eq_false (by omega)
                have hz := List.getElem?_eq_getElem hjl
                generalize want[j] = z at *
                obtain ⟨ad2, hA2, z0, z1, z2⟩ := at_R TI3.out.2.2.2.2.2.2.2.1.1 hz
                cases hA2
                have HZT := Lib.hid hz
                clear hz hjl
                by_cases hy : pre2 ++ [y] <+: want.reverse
                · have hzy : y = z := by
                    have h1 := prefix_rev hy (j := j) (by have := HKV.out; omega)
                    rw [HZT.out] at h1
                    exact (Option.some.inj h1).symm
                  subst hzy
                  have HY := Lib.hid hy
                  have hne := fun W => run_neR y y W
                  rw [(Row.eqb_iff y y).2 rfl] at hne
                  simp only [Bool.not_true] at hne
                  clear hy
                  show Code.wpIn (Fence.wide.inRound lp2) _ _ _ _ _ _
                  refine startIn_ (n := 10) (S := fun w' => w'.cell? ⟨bk, 0, none⟩ = some (.int .i64 (j : Int)) ∧ w'.cell? ⟨bw, 0, none⟩ = #[Value.slice (some ad) want.length cn][0]? ∧ (∀ o, w'.cell? ⟨By, o, none⟩ = #[Value.string y.key, .string y.value, .int .i64 y.version][o]?) ∧ w'.cell? (ad.add (j * 3)) = some (.string y.key) ∧ w'.cell? ⟨(ad.add (j * 3)).block, (ad.add (j * 3)).off + 1, none⟩ = some (.string y.value) ∧ w'.cell? ⟨(ad.add (j * 3)).block, (ad.add (j * 3)).off + 2, none⟩ = some (.int .i64 y.version)) (ds := []) #[false, false, false, false, false, false, false, false, false, false] (by kernel_rfl) rfl rfl ⟨ck1, cw2, cy2, z0, z1, z2⟩ (fun hHeld => ?_)
                  refine take_ (i := 0) (N := some 99) (v := ?_) (a' := ?_) #[true, false, false, false, false, false, false, false, false, false] rfl rfl (by kernel_rfl) (fun _ _ _ h => h) (Or.inl ⟨by rfl, ?_⟩) hHeld ?_ ?_
                  rotate_left
                  · rintro w' ⟨s0, s1, s2, s3, s4, s5⟩
                    go_simp
                    with_reducible rfl
                  rotate_left
                  · simp only [Act.put, List.setIfInBounds_toArray, List.set_cons_zero, List.set_cons_succ, i64_w, i32_w]
                    rfl
                  refine pure_ (i := 1) (N := some 100) (v := ?_) (a' := ?_) #[true, true, false, false, false, false, false, false, false, false] rfl rfl (by kernel_rfl) (fun _ _ _ h => h) (Or.inl ⟨by rfl, ?_⟩) ?_ ?_
                  rotate_left
                  · intro w'
                    go_simp
                    with_reducible rfl
                  rotate_left
                  · simp only [Act.put, List.setIfInBounds_toArray, List.set_cons_zero, List.set_cons_succ, i64_w, i32_w]
                    rfl
                  refine pure_ (i := 2) (N := some 101) (v := ?_) (a' := ?_) #[true, true, true, false, false, false, false, false, false, false] rfl rfl (by kernel_rfl) (fun _ _ _ h => h) (Or.inl ⟨by rfl, ?_⟩) ?_ ?_
                  rotate_left
                  · intro w'
                    go_simp
                    with_reducible rfl
                  rotate_left
                  · simp only [Act.put, List.setIfInBounds_toArray, List.set_cons_zero, List.set_cons_succ, i64_w, i32_w]
                    rfl
                  refine take_ (i := 3) (N := some 102) (v := ?_) (a' := ?_) #[true, true, true, true, false, false, false, false, false, false] rfl rfl (by kernel_rfl) (fun _ _ _ h => h) (Or.inl ⟨by rfl, ?_⟩) hHeld ?_ ?_
                  rotate_left
                  · rintro w' ⟨s0, s1, s2, s3, s4, s5⟩
                    go_simp
                    with_reducible rfl
                  rotate_left
                  · simp only [Act.put, List.setIfInBounds_toArray, List.set_cons_zero, List.set_cons_succ, i64_w, i32_w]
                    rfl
                  refine take_ (i := 4) (N := some 103) (v := ?_) (a' := ?_) #[true, true, true, true, true, false, false, false, false, false] rfl rfl (by kernel_rfl) (fun _ _ _ h => h) (Or.inl ⟨by rfl, ?_⟩) hHeld ?_ ?_
                  rotate_left
                  · rintro w' ⟨s0, s1, s2, s3, s4, s5⟩
                    go_simp
                    with_reducible rfl
                  rotate_left
                  · simp only [Act.put, List.setIfInBounds_toArray, List.set_cons_zero, List.set_cons_succ, i64_w, i32_w]
                    rfl
                  refine take_ (i := 5) (N := some 104) (v := ?_) (a' := ?_) #[true, true, true, true, true, true, false, false, false, false] rfl rfl (by kernel_rfl) (fun _ _ _ h => h) (Or.inl ⟨by rfl, ?_⟩) hHeld ?_ ?_
                  rotate_left
                  · rintro w' ⟨s0, s1, s2, s3, s4, s5⟩
                    go_simp
                    with_reducible rfl
                  rotate_left
                  · simp only [Act.put, List.setIfInBounds_toArray, List.set_cons_zero, List.set_cons_succ, i64_w, i32_w]
                    rfl
                  refine pure_ (i := 6) (N := some 105) (v := ?_) (a' := ?_) #[true, true, true, true, true, true, true, false, false, false] rfl rfl (by kernel_rfl) (fun _ _ _ h => h) (Or.inl ⟨by rfl, ?_⟩) ?_ ?_
                  rotate_left
                  · intro w'
                    go_simp
                    with_reducible rfl
                  rotate_left
                  · simp only [Act.put, List.setIfInBounds_toArray, List.set_cons_zero, List.set_cons_succ, i64_w, i32_w]
                    rfl
                  refine take_ (i := 7) (N := some 106) (v := ?_) (a' := ?_) #[true, true, true, true, true, true, true, true, false, false] rfl rfl (by kernel_rfl) (fun _ _ _ h => h) (Or.inl ⟨by rfl, ?_⟩) hHeld ?_ ?_
                  rotate_left
                  · rintro w' ⟨s0, s1, s2, s3, s4, s5⟩
                    go_simp
                    with_reducible rfl
                  rotate_left
                  · simp only [Act.put, List.setIfInBounds_toArray, List.set_cons_zero, List.set_cons_succ, i64_w, i32_w]
                    rfl
                  refine pure_ (i := 8) (N := some 107) (v := ?_) (a' := ?_) #[true, true, true, true, true, true, true, true, true, false] rfl rfl (by kernel_rfl) (fun _ _ _ h => h) (Or.inl ⟨by rfl, ?_⟩) ?_ ?_
                  rotate_left
                  · intro w'
                    go_simp
                    with_reducible rfl
                  rotate_left
                  · simp only [Act.put, List.setIfInBounds_toArray, List.set_cons_zero, List.set_cons_succ, i64_w, i32_w]
                    rfl
                  refine pure_ (i := 9) (N := some 108) (v := ?_) (a' := ?_) #[true, true, true, true, true, true, true, true, true, true] rfl rfl (by kernel_rfl) (fun _ _ _ h => h) (Or.inl ⟨by rfl, ?_⟩) ?_ ?_
                  rotate_left
                  · intro w'
                    go_simp
                    with_reducible rfl
                  rotate_left
                  · simp only [Act.put, List.setIfInBounds_toArray, List.set_cons_zero, List.set_cons_succ, i64_w, i32_w]
                    rfl
                  refine done_ (by kernel_rfl) ?_
                  clear z0 z1 z2 ck1 cw2 cy2 hne p1 p2 d1
                  have FIN : Hid (KeepsFrom W6.heap.size W' W8.drew ∧ KeepI W6.heap.size W' W8.drew ∧ ((TI w.heap.size w bn bw bd (w.heap.size + 1) g lb1 lb2 l lt want ((below f l).length : Int) (upTo l u) (some ad) cn none 0 W8.drew ∧ (∃ kv : Nat, kv + (pre2 ++ [y]).length = want.length ∧ W8.drew.heap[bk]? = some (bx (.int .i64 kv) tI)) ∧ pre2 ++ [y] <+: want.reverse) ∧ KeepI W1.heap.size W W8.drew ∧ KeepsFrom W1.heap.size W W8.drew)) := Lib.hid ⟨KF3.out.trans KD8.out, KeepI.trans KI3.out (KeepI.of_below (below_drew (Below.refl _ _))), ⟨TIR.out, ⟨j, by rw [List.length_append, List.length_singleton]; have := HKV.out; omega, BK3.out⟩, HY.out⟩, KeepI.trans KIB.out (KeepI.of_below (below_drew (Below.refl _ _))), KFB.out.trans ⟨Nat.le_refl _, fun _ _ _ h0 _ => h0⟩⟩
                  gi_wp2_with fail
                  exact FIN.out
                · have hzy : y ≠ z := by
                    refine prefix_not HP2.out ?_ hy
                    rw [List.getElem?_reverse (by have := HKV.out; omega), ← HZT.out]
                    congr 1
                    have := HKV.out
                    omega
                  have HNX := Lib.hid hy
                  have hyz : y.eqb z = false := by cases h : y.eqb z with | false => rfl | true => exact absurd ((Row.eqb_iff y z).1 h) hzy
                  have hne := fun W => run_neR y z W
                  rw [hyz] at hne
                  simp only [Bool.not_false] at hne
                  have KFR := Lib.hid ((KF3.out.trans KD8.out).trans ((KeepsOthers.setCell W8.drew ⟨w.heap.size + 1, 0, none⟩ (.bool false)).from _))
                  clear hy hzy hyz
                  show Code.wpIn (Fence.wide.inRound lp2) _ _ _ _ _ _
                  refine startIn_ (n := 10) (S := fun w' => w'.cell? ⟨bk, 0, none⟩ = some (.int .i64 (j : Int)) ∧ w'.cell? ⟨bw, 0, none⟩ = #[Value.slice (some ad) want.length cn][0]? ∧ (∀ o, w'.cell? ⟨By, o, none⟩ = #[Value.string y.key, .string y.value, .int .i64 y.version][o]?) ∧ w'.cell? (ad.add (j * 3)) = some (.string z.key) ∧ w'.cell? ⟨(ad.add (j * 3)).block, (ad.add (j * 3)).off + 1, none⟩ = some (.string z.value) ∧ w'.cell? ⟨(ad.add (j * 3)).block, (ad.add (j * 3)).off + 2, none⟩ = some (.int .i64 z.version)) (ds := []) #[false, false, false, false, false, false, false, false, false, false] (by kernel_rfl) rfl rfl ⟨ck1, cw2, cy2, z0, z1, z2⟩ (fun hHeld => ?_)
                  refine take_ (i := 0) (N := some 99) (v := ?_) (a' := ?_) #[true, false, false, false, false, false, false, false, false, false] rfl rfl (by kernel_rfl) (fun _ _ _ h => h) (Or.inl ⟨by rfl, ?_⟩) hHeld ?_ ?_
                  rotate_left
                  · rintro w' ⟨s0, s1, s2, s3, s4, s5⟩
                    go_simp
                    with_reducible rfl
                  rotate_left
                  · simp only [Act.put, List.setIfInBounds_toArray, List.set_cons_zero, List.set_cons_succ, i64_w, i32_w]
                    rfl
                  refine pure_ (i := 1) (N := some 100) (v := ?_) (a' := ?_) #[true, true, false, false, false, false, false, false, false, false] rfl rfl (by kernel_rfl) (fun _ _ _ h => h) (Or.inl ⟨by rfl, ?_⟩) ?_ ?_
                  rotate_left
                  · intro w'
                    go_simp
                    with_reducible rfl
                  rotate_left
                  · simp only [Act.put, List.setIfInBounds_toArray, List.set_cons_zero, List.set_cons_succ, i64_w, i32_w]
                    rfl
                  refine pure_ (i := 2) (N := some 101) (v := ?_) (a' := ?_) #[true, true, true, false, false, false, false, false, false, false] rfl rfl (by kernel_rfl) (fun _ _ _ h => h) (Or.inl ⟨by rfl, ?_⟩) ?_ ?_
                  rotate_left
                  · intro w'
                    go_simp
                    with_reducible rfl
                  rotate_left
                  · simp only [Act.put, List.setIfInBounds_toArray, List.set_cons_zero, List.set_cons_succ, i64_w, i32_w]
                    rfl
                  refine take_ (i := 3) (N := some 102) (v := ?_) (a' := ?_) #[true, true, true, true, false, false, false, false, false, false] rfl rfl (by kernel_rfl) (fun _ _ _ h => h) (Or.inl ⟨by rfl, ?_⟩) hHeld ?_ ?_
                  rotate_left
                  · rintro w' ⟨s0, s1, s2, s3, s4, s5⟩
                    go_simp
                    with_reducible rfl
                  rotate_left
                  · simp only [Act.put, List.setIfInBounds_toArray, List.set_cons_zero, List.set_cons_succ, i64_w, i32_w]
                    rfl
                  refine take_ (i := 4) (N := some 103) (v := ?_) (a' := ?_) #[true, true, true, true, true, false, false, false, false, false] rfl rfl (by kernel_rfl) (fun _ _ _ h => h) (Or.inl ⟨by rfl, ?_⟩) hHeld ?_ ?_
                  rotate_left
                  · rintro w' ⟨s0, s1, s2, s3, s4, s5⟩
                    go_simp
                    with_reducible rfl
                  rotate_left
                  · simp only [Act.put, List.setIfInBounds_toArray, List.set_cons_zero, List.set_cons_succ, i64_w, i32_w]
                    rfl
                  refine take_ (i := 5) (N := some 104) (v := ?_) (a' := ?_) #[true, true, true, true, true, true, false, false, false, false] rfl rfl (by kernel_rfl) (fun _ _ _ h => h) (Or.inl ⟨by rfl, ?_⟩) hHeld ?_ ?_
                  rotate_left
                  · rintro w' ⟨s0, s1, s2, s3, s4, s5⟩
                    go_simp
                    with_reducible rfl
                  rotate_left
                  · simp only [Act.put, List.setIfInBounds_toArray, List.set_cons_zero, List.set_cons_succ, i64_w, i32_w]
                    rfl
                  refine pure_ (i := 6) (N := some 105) (v := ?_) (a' := ?_) #[true, true, true, true, true, true, true, false, false, false] rfl rfl (by kernel_rfl) (fun _ _ _ h => h) (Or.inl ⟨by rfl, ?_⟩) ?_ ?_
                  rotate_left
                  · intro w'
                    go_simp
                    with_reducible rfl
                  rotate_left
                  · simp only [Act.put, List.setIfInBounds_toArray, List.set_cons_zero, List.set_cons_succ, i64_w, i32_w]
                    rfl
                  refine take_ (i := 7) (N := some 106) (v := ?_) (a' := ?_) #[true, true, true, true, true, true, true, true, false, false] rfl rfl (by kernel_rfl) (fun _ _ _ h => h) (Or.inl ⟨by rfl, ?_⟩) hHeld ?_ ?_
                  rotate_left
                  · rintro w' ⟨s0, s1, s2, s3, s4, s5⟩
                    go_simp
                    with_reducible rfl
                  rotate_left
                  · simp only [Act.put, List.setIfInBounds_toArray, List.set_cons_zero, List.set_cons_succ, i64_w, i32_w]
                    rfl
                  refine pure_ (i := 8) (N := some 107) (v := ?_) (a' := ?_) #[true, true, true, true, true, true, true, true, true, false] rfl rfl (by kernel_rfl) (fun _ _ _ h => h) (Or.inl ⟨by rfl, ?_⟩) ?_ ?_
                  rotate_left
                  · intro w'
                    go_simp
                    with_reducible rfl
                  rotate_left
                  · simp only [Act.put, List.setIfInBounds_toArray, List.set_cons_zero, List.set_cons_succ, i64_w, i32_w]
                    rfl
                  refine pure_ (i := 9) (N := some 108) (v := ?_) (a' := ?_) #[true, true, true, true, true, true, true, true, true, true] rfl rfl (by kernel_rfl) (fun _ _ _ h => h) (Or.inl ⟨by rfl, ?_⟩) ?_ ?_
                  rotate_left
                  · intro w'
                    go_simp
                    with_reducible rfl
                  rotate_left
                  · simp only [Act.put, List.setIfInBounds_toArray, List.set_cons_zero, List.set_cons_succ, i64_w, i32_w]
                    rfl
                  refine done_ (by kernel_rfl) ?_
                  have cbr := blk1 TIR.out.2.2.2.1
                  have zbr := blkz TIR.out.2.2.2.1
                  gi_wp2_with fail
                  exact ⟨KFR.out, HNX.out⟩
            case done2 =>
              rintro ys W' hys ⟨⟨hTI2, ⟨kv, hkv, hbk⟩, hpre2⟩, hki, hkf⟩
              have HS2 : segD true l ((below f l).length : Int) (upTo l u) = want.reverse := by show (seg l _ _).reverse = _; rw [show seg l ((below f l).length : Int) (upTo l u) = want from HSEG.out]
              rw [HS2] at hys
              obtain rfl : kv = 0 := by rw [hys, List.length_reverse] at hkv; omega
              have TI7 := Lib.hid hTI2
              have KI7 := Lib.hid hki
              have KF7 := Lib.hid hkf
              have ck := blk1 hbk
              clear hTI2 hki hkf hpre2 hkv HS2 hys
              have cn9 := blk1 TI7.out.1
              have zn9 := blkz TI7.out.1
              have TN := Lib.hid (TI7.out.setN HBN.out.1 1)
              have KN := Lib.hid (KF7.out.trans ((KeepsOthers.setCell W' ⟨bn, 0, none⟩ (.int .i64 1)).from _))
              have IN := Lib.hid (keepI_set KI7.out TI7.out.1 (by decide) (.inl HBN1.out) 0 (.int .i64 1))
              gi_wp2_with fail
              exact ⟨KN.out, IN.out, TN.out, HX.out⟩
            case stop2 =>
              rintro c pre2 W' hp hf
              rw [show segD true l ((below f l).length : Int) (upTo l u) = want.reverse by show (seg l _ _).reverse = _; rw [show seg l ((below f l).length : Int) (upTo l u) = want from HSEG.out]] at hp
              exact absurd hp hf
          · have h3 : 0 < pre.length := List.length_pos_iff.2 hp0
            have hWd : W.drew = W.drew := rfl
            clear hsd HRD HRL hWd
            have HLX := Lib.hid (show (((pre ++ [x]).length : Nat) : Int) = (pre.length : Int) + 1 by simp)
            generalize W.drew = W5 at *
            have HPL := Lib.hid hpl
            clear TIW HPRE HBX hp0 hpl
            generalize pre.length = pl at *
            obtain ⟨m, rfl⟩ : ∃ m, pl = m + 1 := ⟨pl - 1, by omega⟩
            have e0 : (((m + 1 : Nat) : Int)) = (m : Int) + 1 := by simp
            rw [e0] at TID HLX
            have d1 : ((m : Int) + 1 == 0) = false := by simp; omega
            have d2 : ((m : Int) + 1 = 0) = False := _root_.eq_false (by omega)
            have hml : (m : Int) + 1 ≤ 1048576 := by have := HWL.out; have := HPL.out; omega
            have hf9 : wrap64 ((m : Int) + 1 + 1) = (m : Int) + 1 + 1 := by rw [← i64_w]; exact IntWalk.i64_in _ (by omega)
            clear h3 hlt2 e0 hml
            have cn9 := blk1 TID.out.1
            have zn9 := blkz TID.out.1
            have TN := Lib.hid (TID.out.setN HBN.out.1 ((m : Int) + 1 + 1))
            have KN := Lib.hid (KF.out.trans ((KeepsOthers.setCell W5 ⟨bn, 0, none⟩ (.int .i64 ((m : Int) + 1 + 1))).from _))
            have IN := Lib.hid (keepI_set KI.out TID.out.1 (by decide) (.inl HBN1.out) 0 (.int .i64 ((m : Int) + 1 + 1)))
            have TNF := Lib.hid (show TI w.heap.size w bn bw bd (w.heap.size + 1) g lb1 lb2 l lt want ((below f l).length : Int) (upTo l u) (some ad) cn none (((pre ++ [x]).length : Nat) : Int) (W5.setCell ⟨bn, 0, none⟩ (.int .i64 ((m : Int) + 1 + 1))) from by rw [HLX.out]; exact TN.out)
            clear TN TID KF KI HLX
            gi_wp2_with fail
            exact ⟨KN.out, IN.out, TNF.out, HX.out⟩
        · have HNX := Lib.hid hx
          have KFR := Lib.hid ((show KeepsFrom W1.heap.size W W.drew from ⟨Nat.le_refl _, fun _ _ _ h0 _ => h0⟩).trans ((KeepsOthers.setCell W.drew ⟨w.heap.size + 1, 0, none⟩ (.bool false)).from _))
          have TIR := Lib.hid (TIW.out.below (below_drew (Below.refl _ _)) TIW.out.2.2.2.2.2.2.2.2.1.size)
          by_cases hlt2 : pre.length < want.length
          · have hat := List.getElem?_eq_getElem hlt2
            generalize want[pre.length] = y at *
            have hxy : x ≠ y := prefix_not HPRE.out hat hx
            obtain ⟨ad, hA, y0, y1, y2⟩ := at_R TIW.out.2.2.2.2.2.2.2.1.1 hat
            cases hA
            have d1 : decide (want.length ≤ pre.length) = false := by simp; omega
            have p1 := eq_true (show 0 ≤ (pre.length : Int) by omega)
            have p2 := eq_true hlt2
            have hyz : x.eqb y = false := by cases h : x.eqb y with | false => rfl | true => exact absurd ((Row.eqb_iff x y).1 h) hxy
            have hne := fun W => run_neR x y W
            rw [hyz] at hne
            simp only [Bool.not_false] at hne
            clear hx hat hxy hyz
            gi_wp2_with fail
            refine startIn_ (n := 12) (S := fun w' => w'.cell? ⟨bn, 0, none⟩ = some (.int .i64 pre.length) ∧ w'.cell? ⟨bw, 0, none⟩ = #[Value.slice (some ad) want.length cn][0]? ∧ (∀ o, w'.cell? ⟨Bx, o, none⟩ = #[Value.string x.key, .string x.value, .int .i64 x.version][o]?) ∧ w'.cell? (ad.add (pre.length * 3)) = some (.string y.key) ∧ w'.cell? ⟨(ad.add (pre.length * 3)).block, (ad.add (pre.length * 3)).off + 1, none⟩ = some (.string y.value) ∧ w'.cell? ⟨(ad.add (pre.length * 3)).block, (ad.add (pre.length * 3)).off + 2, none⟩ = some (.int .i64 y.version)) (ds := []) #[false, false, false, false, false, false, false, false, false, false, false, false] (by kernel_rfl) rfl rfl ⟨cn0, cw0, cx, y0, y1, y2⟩ (fun hHeld => ?_)
            refine take_ (i := 0) (N := some 79) (v := ?_) (a' := ?_) #[true, false, false, false, false, false, false, false, false, false, false, false] rfl rfl (by kernel_rfl) (fun _ _ _ h => h) (Or.inl ⟨by rfl, ?_⟩) hHeld ?_ ?_
            rotate_left
            · rintro w' ⟨s0, s1, s2, s3, s4, s5⟩
              go_simp
              with_reducible rfl
            rotate_left
            · simp only [Act.put, List.setIfInBounds_toArray, List.set_cons_zero, List.set_cons_succ, i64_w, i32_w]
              rfl
            refine take_ (i := 1) (N := some 80) (v := ?_) (a' := ?_) #[true, true, false, false, false, false, false, false, false, false, false, false] rfl rfl (by kernel_rfl) (fun _ _ _ h => h) (Or.inl ⟨by rfl, ?_⟩) hHeld ?_ ?_
            rotate_left
            · rintro w' ⟨s0, s1, s2, s3, s4, s5⟩
              go_simp
              with_reducible rfl
            rotate_left
            · simp only [Act.put, List.setIfInBounds_toArray, List.set_cons_zero, List.set_cons_succ, i64_w, i32_w]
              rfl
            refine pure_ (i := 2) (N := some 81) (v := ?_) (a' := ?_) #[true, true, true, false, false, false, false, false, false, false, false, false] rfl rfl (by kernel_rfl) (fun _ _ _ h => h) (Or.inl ⟨by rfl, ?_⟩) ?_ ?_
            rotate_left
            · intro w'
              go_simp
              with_reducible rfl
            rotate_left
            · simp only [Act.put, List.setIfInBounds_toArray, List.set_cons_zero, List.set_cons_succ, i64_w, i32_w]
              rfl
            refine pure_ (i := 3) (N := some 82) (v := ?_) (a' := ?_) #[true, true, true, true, false, false, false, false, false, false, false, false] rfl rfl (by kernel_rfl) (fun _ _ _ h => h) (Or.inl ⟨by rfl, ?_⟩) ?_ ?_
            rotate_left
            · intro w'
              go_simp
              with_reducible rfl
            rotate_left
            · simp only [Act.put, List.setIfInBounds_toArray, List.set_cons_zero, List.set_cons_succ, i64_w, i32_w]
              rfl
            refine pure_ (i := 4) (N := some 83) (v := ?_) (a' := ?_) #[true, true, true, true, true, false, false, false, false, false, false, false] rfl rfl (by kernel_rfl) (fun _ _ _ h => h) (Or.inl ⟨by rfl, ?_⟩) ?_ ?_
            rotate_left
            · intro w'
              go_simp
              with_reducible rfl
            rotate_left
            · simp only [Act.put, List.setIfInBounds_toArray, List.set_cons_zero, List.set_cons_succ, i64_w, i32_w]
              rfl
            refine take_ (i := 5) (N := some 84) (v := ?_) (a' := ?_) #[true, true, true, true, true, true, false, false, false, false, false, false] rfl rfl (by kernel_rfl) (fun _ _ _ h => h) (Or.inl ⟨by rfl, ?_⟩) hHeld ?_ ?_
            rotate_left
            · rintro w' ⟨s0, s1, s2, s3, s4, s5⟩
              go_simp
              with_reducible rfl
            rotate_left
            · simp only [Act.put, List.setIfInBounds_toArray, List.set_cons_zero, List.set_cons_succ, i64_w, i32_w]
              rfl
            refine take_ (i := 6) (N := some 85) (v := ?_) (a' := ?_) #[true, true, true, true, true, true, true, false, false, false, false, false] rfl rfl (by kernel_rfl) (fun _ _ _ h => h) (Or.inl ⟨by rfl, ?_⟩) hHeld ?_ ?_
            rotate_left
            · rintro w' ⟨s0, s1, s2, s3, s4, s5⟩
              go_simp
              with_reducible rfl
            rotate_left
            · simp only [Act.put, List.setIfInBounds_toArray, List.set_cons_zero, List.set_cons_succ, i64_w, i32_w]
              rfl
            refine take_ (i := 7) (N := some 86) (v := ?_) (a' := ?_) #[true, true, true, true, true, true, true, true, false, false, false, false] rfl rfl (by kernel_rfl) (fun _ _ _ h => h) (Or.inl ⟨by rfl, ?_⟩) hHeld ?_ ?_
            rotate_left
            · rintro w' ⟨s0, s1, s2, s3, s4, s5⟩
              go_simp
              with_reducible rfl
            rotate_left
            · simp only [Act.put, List.setIfInBounds_toArray, List.set_cons_zero, List.set_cons_succ, i64_w, i32_w]
              rfl
            refine pure_ (i := 8) (N := some 87) (v := ?_) (a' := ?_) #[true, true, true, true, true, true, true, true, true, false, false, false] rfl rfl (by kernel_rfl) (fun _ _ _ h => h) (Or.inl ⟨by rfl, ?_⟩) ?_ ?_
            rotate_left
            · intro w'
              go_simp
              with_reducible rfl
            rotate_left
            · simp only [Act.put, List.setIfInBounds_toArray, List.set_cons_zero, List.set_cons_succ, i64_w, i32_w]
              rfl
            refine take_ (i := 9) (N := some 88) (v := ?_) (a' := ?_) #[true, true, true, true, true, true, true, true, true, true, false, false] rfl rfl (by kernel_rfl) (fun _ _ _ h => h) (Or.inl ⟨by rfl, ?_⟩) hHeld ?_ ?_
            rotate_left
            · rintro w' ⟨s0, s1, s2, s3, s4, s5⟩
              go_simp
              with_reducible rfl
            rotate_left
            · simp only [Act.put, List.setIfInBounds_toArray, List.set_cons_zero, List.set_cons_succ, i64_w, i32_w]
              rfl
            refine pure_ (i := 10) (N := some 89) (v := ?_) (a' := ?_) #[true, true, true, true, true, true, true, true, true, true, true, false] rfl rfl (by kernel_rfl) (fun _ _ _ h => h) (Or.inl ⟨by rfl, ?_⟩) ?_ ?_
            rotate_left
            · intro w'
              go_simp
              with_reducible rfl
            rotate_left
            · simp only [Act.put, List.setIfInBounds_toArray, List.set_cons_zero, List.set_cons_succ, i64_w, i32_w]
              rfl
            refine pure_ (i := 11) (N := some 90) (v := ?_) (a' := ?_) #[true, true, true, true, true, true, true, true, true, true, true, true] rfl rfl (by kernel_rfl) (fun _ _ _ h => h) (Or.inl ⟨by rfl, ?_⟩) ?_ ?_
            rotate_left
            · intro w'
              go_simp
              with_reducible rfl
            rotate_left
            · simp only [Act.put, List.setIfInBounds_toArray, List.set_cons_zero, List.set_cons_succ, i64_w, i32_w]
              rfl
            refine done_ (by kernel_rfl) ?_
            have cbr := blk1 TIR.out.2.2.2.1
            have zbr := blkz TIR.out.2.2.2.1
            gi_wp2_with fail
            exact ⟨KFR.out, HNX.out⟩
          · have d1 : decide (want.length ≤ pre.length) = true := by simp; omega
            clear hx
            gi_wp2_with fail
            refine startIn_ (n := 12) (S := fun w' => w'.cell? ⟨bn, 0, none⟩ = some (.int .i64 pre.length) ∧ w'.cell? ⟨bw, 0, none⟩ = #[Value.slice An want.length cn][0]? ∧ (∀ o, w'.cell? ⟨Bx, o, none⟩ = #[Value.string x.key, .string x.value, .int .i64 x.version][o]?)) (ds := []) #[false, false, false, false, false, false, false, false, false, false, false, false] (by kernel_rfl) rfl rfl ⟨cn0, cw0, cx⟩ (fun hHeld => ?_)
            refine take_ (i := 0) (N := some 79) (v := ?_) (a' := ?_) #[true, false, false, false, false, false, false, false, false, false, false, false] rfl rfl (by kernel_rfl) (fun _ _ _ h => h) (Or.inl ⟨by rfl, ?_⟩) hHeld ?_ ?_
            rotate_left
            · rintro w' ⟨s0, s1, s2⟩
              go_simp
              with_reducible rfl
            rotate_left
            · simp only [Act.put, List.setIfInBounds_toArray, List.set_cons_zero, List.set_cons_succ, i64_w, i32_w]
              rfl
            refine take_ (i := 1) (N := some 80) (v := ?_) (a' := ?_) #[true, true, false, false, false, false, false, false, false, false, false, false] rfl rfl (by kernel_rfl) (fun _ _ _ h => h) (Or.inl ⟨by rfl, ?_⟩) hHeld ?_ ?_
            rotate_left
            · rintro w' ⟨s0, s1, s2⟩
              go_simp
              with_reducible rfl
            rotate_left
            · simp only [Act.put, List.setIfInBounds_toArray, List.set_cons_zero, List.set_cons_succ, i64_w, i32_w]
              rfl
            refine pure_ (i := 2) (N := some 81) (v := ?_) (a' := ?_) #[true, true, true, false, false, false, false, false, false, false, false, false] rfl rfl (by kernel_rfl) (fun _ _ _ h => h) (Or.inl ⟨by rfl, ?_⟩) ?_ ?_
            rotate_left
            · intro w'
              go_simp
              with_reducible rfl
            rotate_left
            · simp only [Act.put, List.setIfInBounds_toArray, List.set_cons_zero, List.set_cons_succ, i64_w, i32_w]
              rfl
            refine pure_ (i := 3) (N := some 82) (v := ?_) (a' := ?_) #[true, true, true, true, false, false, false, false, false, false, false, false] rfl rfl (by kernel_rfl) (fun _ _ _ h => h) (Or.inl ⟨by rfl, ?_⟩) ?_ ?_
            rotate_left
            · intro w'
              go_simp
              with_reducible rfl
            rotate_left
            · simp only [Act.put, List.setIfInBounds_toArray, List.set_cons_zero, List.set_cons_succ, i64_w, i32_w]
              rfl
            refine pure_ (i := 4) (N := some 83) (v := ?_) (a' := ?_) #[true, true, true, true, true, false, false, false, false, false, false, false] rfl rfl (by kernel_rfl) (fun _ _ _ h => h) (Or.inl ⟨by rfl, ?_⟩) ?_ ?_
            rotate_left
            · intro w'
              go_simp
              with_reducible rfl
            rotate_left
            · simp only [Act.put, List.setIfInBounds_toArray, List.set_cons_zero, List.set_cons_succ, i64_w, i32_w]
              rfl
            refine pure_ (i := 5) (N := some 84) (v := undef) (a' := ?_) #[true, true, true, true, true, true, false, false, false, false, false, false] rfl rfl (by kernel_rfl) (fun _ _ _ h => h) (Or.inr ⟨by rfl, rfl⟩) ?_ ?_
            rotate_left
            · simp only [Act.put, List.setIfInBounds_toArray, List.set_cons_zero, List.set_cons_succ, i64_w, i32_w]
              rfl
            refine pure_ (i := 6) (N := some 85) (v := undef) (a' := ?_) #[true, true, true, true, true, true, true, false, false, false, false, false] rfl rfl (by kernel_rfl) (fun _ _ _ h => h) (Or.inr ⟨by rfl, rfl⟩) ?_ ?_
            rotate_left
            · simp only [Act.put, List.setIfInBounds_toArray, List.set_cons_zero, List.set_cons_succ, i64_w, i32_w]
              rfl
            refine pure_ (i := 7) (N := some 86) (v := undef) (a' := ?_) #[true, true, true, true, true, true, true, true, false, false, false, false] rfl rfl (by kernel_rfl) (fun _ _ _ h => h) (Or.inr ⟨by rfl, rfl⟩) ?_ ?_
            rotate_left
            · simp only [Act.put, List.setIfInBounds_toArray, List.set_cons_zero, List.set_cons_succ, i64_w, i32_w]
              rfl
            refine pure_ (i := 8) (N := some 87) (v := undef) (a' := ?_) #[true, true, true, true, true, true, true, true, true, false, false, false] rfl rfl (by kernel_rfl) (fun _ _ _ h => h) (Or.inr ⟨by rfl, rfl⟩) ?_ ?_
            rotate_left
            · simp only [Act.put, List.setIfInBounds_toArray, List.set_cons_zero, List.set_cons_succ, i64_w, i32_w]
              rfl
            refine pure_ (i := 9) (N := some 88) (v := undef) (a' := ?_) #[true, true, true, true, true, true, true, true, true, true, false, false] rfl rfl (by kernel_rfl) (fun _ _ _ h => h) (Or.inr ⟨by rfl, rfl⟩) ?_ ?_
            rotate_left
            · simp only [Act.put, List.setIfInBounds_toArray, List.set_cons_zero, List.set_cons_succ, i64_w, i32_w]
              rfl
            refine pure_ (i := 10) (N := some 89) (v := undef) (a' := ?_) #[true, true, true, true, true, true, true, true, true, true, true, false] rfl rfl (by kernel_rfl) (fun _ _ _ h => h) (Or.inr ⟨by rfl, rfl⟩) ?_ ?_
            rotate_left
            · simp only [Act.put, List.setIfInBounds_toArray, List.set_cons_zero, List.set_cons_succ, i64_w, i32_w]
              rfl
            refine pure_ (i := 11) (N := some 90) (v := ?_) (a' := ?_) #[true, true, true, true, true, true, true, true, true, true, true, true] rfl rfl (by kernel_rfl) (fun _ _ _ h => h) (Or.inl ⟨by rfl, ?_⟩) ?_ ?_
            rotate_left
            · intro w'
              go_simp
              with_reducible rfl
            rotate_left
            · simp only [Act.put, List.setIfInBounds_toArray, List.set_cons_zero, List.set_cons_succ, i64_w, i32_w]
              rfl
            refine done_ (by kernel_rfl) ?_
            have cbr := blk1 TIR.out.2.2.2.1
            have zbr := blkz TIR.out.2.2.2.1
            gi_wp2_with fail
            exact ⟨KFR.out, HNX.out⟩
      case done =>
        rintro D0 ys W hD hys ⟨hTI, hpre⟩ hKD
        rw [HSEG.out] at hys
        rw [hys] at hTI
        have TIO := Lib.hid hTI
        have DK := Lib.hid hKD
        have HD0W := Lib.hid (Nat.le_trans hn0 hD)
        have cn0 := blk1 hTI.1
        have cw0 := blkc hTI.2.1 0
        clear hTI hpre hKD hD hys
        go_wp2_with fail
        clear cn0 cw0
        rw [rounds_succ]
        have ZW := Lib.hid TIO.out.2.1
        have ZD := Lib.hid TIO.out.2.2.1
        have ZR := Lib.hid TIO.out.2.2.2.1
        have J1 := Lib.hid TIO.out.2.2.2.2.1.it
        have J2 := Lib.hid TIO.out.2.2.2.2.2.1.it
        have TG := Lib.hid TIO.out.2.2.2.2.2.2.1
        have XW := Lib.hid TIO.out.2.2.2.2.2.2.2.1
        have B := Lib.hid TIO.out.2.2.2.2.2.2.2.2.1
        have HDM : Hid (∀ d, some D0 = some d → d < W.heap.size ∧ W.heap[d]? = some (.deferred (some []))) := Lib.hid (fun d hd => by cases hd; exact ⟨blk_lt DK.out, DK.out⟩)
        clear TIO DK H00 I0 HBN HBN1 hn0 HWL
        have ba := below_alloc (Below.refl W.heap.size W) (.cells #[.int .i64 0] tI)
        have I0 : Hid (TI w.heap.size w W.heap.size bw bd (w.heap.size + 1) g lb1 lb2 l lt want ((below f l).length : Int) (upTo l u) An cn (some D0) 0 (W.alloc (.cells #[.int .i64 0] tI))) := Lib.hid ⟨blk_new W _, blk_below ZW.out ba, blk_below ZD.out ba, blk_below ZR.out ba, (IterL.of J1.out).below ba, (IterL.of J2.out).below ba, TG.out.below ba, XW.out.below ba, below_then B.out B.out.size ba, fun d hd => ⟨(HDM.out d hd).1, (ba.block d (HDM.out d hd).1).trans (HDM.out d hd).2⟩⟩
        have HBN := Lib.hid (show w.heap.size ≤ W.heap.size ∧ w.heap.size + 1 < W.heap.size ∧ bw < W.heap.size ∧ bd < W.heap.size from ⟨B.out.size, blk_lt ZR.out, blk_lt ZW.out, blk_lt ZD.out⟩)
        have hsn : (W.alloc (.cells #[.int .i64 0] tI)).heap.size = W.heap.size + 1 := by simp
        clear ba J1 J2 ZD ZW ZR TG XW B hsn
        have HWL := Lib.hid hwl
        have HBN1 := Lib.hid (show W.heap.size < (W.alloc (.cells #[.int .i64 0] tI)).heap.size by simp)
        go_upto_region 23 with (fail)
        generalize W.heap.size = bn at *
        generalize (World.alloc W _) = W1 at *
        go_wp2_with fail
        refine (wpIn_wide (n := 5)).1 ?_
        have hn0 : w.heap.size ≤ W1.heap.size := I0.out.2.2.2.2.2.2.2.2.1.size
        have H00 : Hid (TI w.heap.size w bn bw bd (w.heap.size + 1) g lb1 lb2 l lt want ((below f l).length : Int) (upTo l u) An cn (some D0) (([] : List Row).length : Int) W1 ∧ [] <+: want) := Lib.hid ⟨I0.out, List.nil_prefix⟩
        refine wpIn_rangeFunc_ownH rfl (by omega) (gf := 68) (lb := lb1) rfl trivial (enters_of Try.func68 (by kernel_rfl) rfl)
          (walk1_stops (b0 := W1.heap.size) I0.out.2.2.2.2.1.it HLB.out.1 (Nat.le_refl _) HLB.out.2.1 HLB.out.2.2.1 HLB.out.2.2.2.1 HLB.out.2.2.2.2)
          (fun h k => KeepI.trans h k) (fun W k o o' _ h hc _ => KeepI.putObj W k o o' h hc) (Below.refl _ _) (fun _ => rfl)
          (fun pre W => TI w.heap.size w bn bw bd (w.heap.size + 1) g lb1 lb2 l lt want ((below f l).length : Int) (upTo l u) An cn (some D0) (pre.length : Int) W ∧ pre <+: want) (fun _ pre _ => ¬ pre <+: want)
          (OwnFrom.and (ti_own (fun pre : List Row => (pre.length : Int)) _ (Nat.le_refl _) hn0 (Nat.le_of_lt HBN1.out)) (pure_own _)) (fun c => pure_own _) H00.out
          (fun x a' W => ∃ Bx, W.heap[Bx]? = some (.cells #[.string x.key, .string x.value, .int .i64 x.version] tRow (0, 0)) ∧ a' = { tmps := #[.slice A l.length c, .agg #[.string f, .string u], .slice Ag script.length cg, undef, .pointer (some ⟨w.heap.size, 0, none⟩), undef, .pointer (some ⟨w.heap.size + 1, 0, none⟩), .pointer (some ⟨g, 0, none⟩), .int .i64 0, .func (.func 68) #[] lb1, .pointer (some ⟨bd, 0, none⟩), .pointer (some ⟨bw, 0, none⟩), .pointer (some ⟨b, 0, none⟩), undef, u14, .int .i64 1, .pointer (some ⟨bn, 0, none⟩), .pointer (some ⟨Bx, 0, none⟩), undef, undef, .slice A l.length c, .int .i64 0, .bool false, .tuple #[.pointer (some ⟨g, 0, none⟩), .int .i64 0], .slice A l.length c, .tuple #[.pointer (some ⟨g, 0, none⟩), .int .i64 0], .pointer (some ⟨g, 0, none⟩), .int .i64 0, .int .i64 0, .bool false, .bool false, .pointer (some ⟨g, 0, none⟩), .bool false, .bool false, .pointer (some ⟨g, 0, none⟩), .agg #[.string f, .string u], .func (.func 68) #[] lb1, .pointer (some ⟨g, 0, none⟩), .agg #[.string f, .string u], .func (.func 68) #[] lb2, .func (.func 68) #[] lb1, .bool false, .bool false, .func (.func 68) #[] lb2, .bool false, .bool false, .slice A l.length c, .agg #[.string f, .string u], .slice An want.length cn, .pointer (some ⟨g, 0, none⟩), .pointer (some ⟨g1, 0, none⟩), .pointer (some ⟨g2, 0, none⟩), .agg #[.pointer (some ⟨g, 0, none⟩), .pointer (some ⟨g1, 0, none⟩), .pointer (some ⟨g2, 0, none⟩)], .slice A l.length c, .agg #[.slice A l.length c, .slice none 0 0, .slice none 0 0], .agg #[.pointer (some ⟨g, 0, none⟩), .pointer (some ⟨g1, 0, none⟩), .pointer (some ⟨g2, 0, none⟩), .slice A l.length c, .slice none 0 0, .slice none 0 0], .pointer (some ⟨b, 0, none⟩), .slice Ag script.length cg, .int .i64 script.length, .int .i64 k, .bool false, u61, u62, u63, u64, u65, u66, u67, u68, u69, u70, u71, u72, .int .i64 1, .bool true, .int .i64 0, .int .i64 1, .func (.func 68) #[] lb1, x.val, undef, undef, undef, undef, undef, undef, undef, undef, undef, undef, undef, undef, undef, undef, undef, undef, undef, undef, undef, undef, undef, undef, undef, undef, undef, undef, undef, undef, undef, undef, undef, undef, undef, undef, .int .i64 want.length, .slice An want.length cn, .int .i64 want.length, .bool false, undef, undef, undef, undef, undef, undef, undef, undef, undef], defers := [] })
          (fun x a' => fun s X Y row hs hg hr => by obtain ⟨Bx, h1, h2⟩ := hs; exact ⟨Bx, block_own W1.heap.size Bx (fun _ : Unit => .cells #[.string x.key, .string x.value, .int .i64 x.version] tRow (0, 0)) (fun _ => rfl) () X Y row h1 hg hr, h2⟩) ?assignB ?bodyB ?doneB ?stopB
        case assignB =>
          intro lp pre x W K hI hK
          have hw : w.heap.size ≤ W.heap.size := hI.1.2.2.2.2.2.2.2.2.1.size
          have HB := below_alloc (Below.refl W.heap.size W) (.cells #[.string x.key, .string x.value, .int .i64 x.version] tRow)
          have HK := Lib.hid (hK _ _ ((KeepsOthers.alloc _ _).from _) (KeepI.of_below HB) ⟨hI.1.below HB hw, hI.2⟩ ⟨W.heap.size, blk_new W (.cells #[.string x.key, .string x.value, .int .i64 x.version] tRow), rfl⟩)
          clear hK hI HB
          gi_wp2
          exact HK.out
        case bodyB =>
          rintro lp pre x a' W hlp ⟨r, hr⟩ ⟨hTI, hpre⟩ ⟨Bx, hbx, rfl⟩ hlt
          have TIW := Lib.hid hTI
          have HPRE := Lib.hid hpre
          have HBX := Lib.hid hbx
          have HRL := Lib.hid hr
          have hpl : pre.length ≤ want.length := hpre.length_le
          have cn0 := blk1 hTI.1
          have cw0 := blkc hTI.2.1 0
          have cx := blkc hbx
          clear hTI hpre hbx hr hlt
          by_cases hx : pre ++ [x] <+: want
          · have hat := prefix_next hx
            have HX := Lib.hid hx
            have hlt2 : pre.length < want.length := (List.getElem?_eq_some_iff.1 hat).1
            obtain ⟨ad, hA, y0, y1, y2⟩ := at_R TIW.out.2.2.2.2.2.2.2.1.1 hat
            cases hA
            have d1 : decide (want.length ≤ pre.length) = false := by simp; omega
            have p1 := eq_true (show 0 ≤ (pre.length : Int) by omega)
            have p2 := eq_true hlt2
            have hne := fun W => run_neR x x W
            rw [(Row.eqb_iff x x).2 rfl] at hne
            simp only [Bool.not_true] at hne
            clear hx hat
            gi_wp2_with fail
            refine startIn_ (n := 12) (S := fun w' => w'.cell? ⟨bn, 0, none⟩ = some (.int .i64 pre.length) ∧ w'.cell? ⟨bw, 0, none⟩ = #[Value.slice (some ad) want.length cn][0]? ∧ (∀ o, w'.cell? ⟨Bx, o, none⟩ = #[Value.string x.key, .string x.value, .int .i64 x.version][o]?) ∧ w'.cell? (ad.add (pre.length * 3)) = some (.string x.key) ∧ w'.cell? ⟨(ad.add (pre.length * 3)).block, (ad.add (pre.length * 3)).off + 1, none⟩ = some (.string x.value) ∧ w'.cell? ⟨(ad.add (pre.length * 3)).block, (ad.add (pre.length * 3)).off + 2, none⟩ = some (.int .i64 x.version)) (ds := []) #[false, false, false, false, false, false, false, false, false, false, false, false] (by kernel_rfl) rfl rfl ⟨cn0, cw0, cx, y0, y1, y2⟩ (fun hHeld => ?_)
            refine take_ (i := 0) (N := some 79) (v := ?_) (a' := ?_) #[true, false, false, false, false, false, false, false, false, false, false, false] rfl rfl (by kernel_rfl) (fun _ _ _ h => h) (Or.inl ⟨by rfl, ?_⟩) hHeld ?_ ?_
            rotate_left
            · rintro w' ⟨s0, s1, s2, s3, s4, s5⟩
              go_simp
              with_reducible rfl
            rotate_left
            · simp only [Act.put, List.setIfInBounds_toArray, List.set_cons_zero, List.set_cons_succ, i64_w, i32_w]
              rfl
            refine take_ (i := 1) (N := some 80) (v := ?_) (a' := ?_) #[true, true, false, false, false, false, false, false, false, false, false, false] rfl rfl (by kernel_rfl) (fun _ _ _ h => h) (Or.inl ⟨by rfl, ?_⟩) hHeld ?_ ?_
            rotate_left
            · rintro w' ⟨s0, s1, s2, s3, s4, s5⟩
              go_simp
              with_reducible rfl
            rotate_left
            · simp only [Act.put, List.setIfInBounds_toArray, List.set_cons_zero, List.set_cons_succ, i64_w, i32_w]
              rfl
            refine pure_ (i := 2) (N := some 81) (v := ?_) (a' := ?_) #[true, true, true, false, false, false, false, false, false, false, false, false] rfl rfl (by kernel_rfl) (fun _ _ _ h => h) (Or.inl ⟨by rfl, ?_⟩) ?_ ?_
            rotate_left
            · intro w'
              go_simp
              with_reducible rfl
            rotate_left
            · simp only [Act.put, List.setIfInBounds_toArray, List.set_cons_zero, List.set_cons_succ, i64_w, i32_w]
              rfl
            refine pure_ (i := 3) (N := some 82) (v := ?_) (a' := ?_) #[true, true, true, true, false, false, false, false, false, false, false, false] rfl rfl (by kernel_rfl) (fun _ _ _ h => h) (Or.inl ⟨by rfl, ?_⟩) ?_ ?_
            rotate_left
            · intro w'
              go_simp
              with_reducible rfl
            rotate_left
            · simp only [Act.put, List.setIfInBounds_toArray, List.set_cons_zero, List.set_cons_succ, i64_w, i32_w]
              rfl
            refine pure_ (i := 4) (N := some 83) (v := ?_) (a' := ?_) #[true, true, true, true, true, false, false, false, false, false, false, false] rfl rfl (by kernel_rfl) (fun _ _ _ h => h) (Or.inl ⟨by rfl, ?_⟩) ?_ ?_
            rotate_left
            · intro w'
              go_simp
              with_reducible rfl
            rotate_left
            · simp only [Act.put, List.setIfInBounds_toArray, List.set_cons_zero, List.set_cons_succ, i64_w, i32_w]
              rfl
            refine take_ (i := 5) (N := some 84) (v := ?_) (a' := ?_) #[true, true, true, true, true, true, false, false, false, false, false, false] rfl rfl (by kernel_rfl) (fun _ _ _ h => h) (Or.inl ⟨by rfl, ?_⟩) hHeld ?_ ?_
            rotate_left
            · rintro w' ⟨s0, s1, s2, s3, s4, s5⟩
              go_simp
              with_reducible rfl
            rotate_left
            · simp only [Act.put, List.setIfInBounds_toArray, List.set_cons_zero, List.set_cons_succ, i64_w, i32_w]
              rfl
            refine take_ (i := 6) (N := some 85) (v := ?_) (a' := ?_) #[true, true, true, true, true, true, true, false, false, false, false, false] rfl rfl (by kernel_rfl) (fun _ _ _ h => h) (Or.inl ⟨by rfl, ?_⟩) hHeld ?_ ?_
            rotate_left
            · rintro w' ⟨s0, s1, s2, s3, s4, s5⟩
              go_simp
              with_reducible rfl
            rotate_left
            · simp only [Act.put, List.setIfInBounds_toArray, List.set_cons_zero, List.set_cons_succ, i64_w, i32_w]
              rfl
            refine take_ (i := 7) (N := some 86) (v := ?_) (a' := ?_) #[true, true, true, true, true, true, true, true, false, false, false, false] rfl rfl (by kernel_rfl) (fun _ _ _ h => h) (Or.inl ⟨by rfl, ?_⟩) hHeld ?_ ?_
            rotate_left
            · rintro w' ⟨s0, s1, s2, s3, s4, s5⟩
              go_simp
              with_reducible rfl
            rotate_left
            · simp only [Act.put, List.setIfInBounds_toArray, List.set_cons_zero, List.set_cons_succ, i64_w, i32_w]
              rfl
            refine pure_ (i := 8) (N := some 87) (v := ?_) (a' := ?_) #[true, true, true, true, true, true, true, true, true, false, false, false] rfl rfl (by kernel_rfl) (fun _ _ _ h => h) (Or.inl ⟨by rfl, ?_⟩) ?_ ?_
            rotate_left
            · intro w'
              go_simp
              with_reducible rfl
            rotate_left
            · simp only [Act.put, List.setIfInBounds_toArray, List.set_cons_zero, List.set_cons_succ, i64_w, i32_w]
              rfl
            refine take_ (i := 9) (N := some 88) (v := ?_) (a' := ?_) #[true, true, true, true, true, true, true, true, true, true, false, false] rfl rfl (by kernel_rfl) (fun _ _ _ h => h) (Or.inl ⟨by rfl, ?_⟩) hHeld ?_ ?_
            rotate_left
            · rintro w' ⟨s0, s1, s2, s3, s4, s5⟩
              go_simp
              with_reducible rfl
            rotate_left
            · simp only [Act.put, List.setIfInBounds_toArray, List.set_cons_zero, List.set_cons_succ, i64_w, i32_w]
              rfl
            refine pure_ (i := 10) (N := some 89) (v := ?_) (a' := ?_) #[true, true, true, true, true, true, true, true, true, true, true, false] rfl rfl (by kernel_rfl) (fun _ _ _ h => h) (Or.inl ⟨by rfl, ?_⟩) ?_ ?_
            rotate_left
            · intro w'
              go_simp
              with_reducible rfl
            rotate_left
            · simp only [Act.put, List.setIfInBounds_toArray, List.set_cons_zero, List.set_cons_succ, i64_w, i32_w]
              rfl
            refine pure_ (i := 11) (N := some 90) (v := ?_) (a' := ?_) #[true, true, true, true, true, true, true, true, true, true, true, true] rfl rfl (by kernel_rfl) (fun _ _ _ h => h) (Or.inl ⟨by rfl, ?_⟩) ?_ ?_
            rotate_left
            · intro w'
              go_simp
              with_reducible rfl
            rotate_left
            · simp only [Act.put, List.setIfInBounds_toArray, List.set_cons_zero, List.set_cons_succ, i64_w, i32_w]
              rfl
            refine done_ (by kernel_rfl) ?_
            have hdw := below_drew (Below.refl W.heap.size W)
            have hwW : w.heap.size ≤ W.heap.size := TIW.out.2.2.2.2.2.2.2.2.1.size
            have TID := Lib.hid (TIW.out.below hdw hwW)
            have KF := Lib.hid (show KeepsFrom W1.heap.size W W.drew from ⟨Nat.le_refl _, fun _ _ _ h0 _ => h0⟩)
            have KI := Lib.hid (KeepI.of_below (b0 := W1.heap.size) hdw)
            have HRD := Lib.hid (show W.drew.heap[lp]? = some (.loop r) from HRL.out)
            have hsd : W.drew.heap.size = W.heap.size := rfl
            clear hdw y0 y1 y2 cn0 cw0 cx d1 p1 p2 hne
            by_cases hp0 : pre = []
            · subst hp0
              have HSD := Lib.hid hsd
              clear hsd
              generalize W.drew = W5 at *
              have cn0 := blk1 TID.out.1
              have cw0 := blkc TID.out.2.1 0
              have ba6 := below_alloc (Below.refl W5.heap.size W5) (.cells #[.int .i64 want.length] tI)
              have h5w : w.heap.size ≤ W5.heap.size := TID.out.2.2.2.2.2.2.2.2.1.size
              have TI6 := Lib.hid (TID.out.below ba6 h5w)
              have BK6 := Lib.hid (blk_new W5 (.cells #[.int .i64 want.length] tI))
              have KF6 := Lib.hid (KF.out.trans ((KeepsOthers.alloc W5 (.cells #[.int .i64 want.length] tI)).from _))
              have KI6 := Lib.hid (KeepI.trans KI.out (KeepI.of_below ba6))
              have HR6 := Lib.hid ((ba6.block lp (blk_lt HRD.out)).trans HRD.out)
              have hs6 : (W5.alloc (.cells #[.int .i64 want.length] tI)).heap.size = W5.heap.size + 1 := by simp
              have cd0 := blkc (blk_below TID.out.2.2.1 ba6) 0
              have HBN2 := Lib.hid (blk_lt TID.out.1)
              clear ba6 TID KF KI HRD
              gi_wp2_with fail
              have hbnk : bn < W5.heap.size := HBN2.out
              have hWk : W.heap.size ≤ W5.heap.size := Nat.le_of_eq HSD.out.symm
              have hW6 : W.heap.size ≤ (W5.alloc (.cells #[.int .i64 want.length] tI)).heap.size := by omega
              have hk6 : W5.heap.size < (W5.alloc (.cells #[.int .i64 want.length] tI)).heap.size := by omega
              generalize (World.alloc W5 _) = W6 at *
              generalize W5.heap.size = bk at *
              have HBK := Lib.hid (And.intro hbnk (And.intro hWk (And.intro hW6 hk6)))
              clear hs6 HSD h5w cd0 cn0 cw0
              have H66 : Hid ((TI w.heap.size w bn bw bd (w.heap.size + 1) g lb1 lb2 l lt want ((below f l).length : Int) (upTo l u) (some ad) cn (some D0) 0 W6 ∧ (∃ kv : Nat, kv + ([] : List Row).length = want.length ∧ W6.heap[bk]? = some (bx (.int .i64 kv) tI)) ∧ [] <+: want.reverse) ∧ KeepI W1.heap.size W W6 ∧ KeepsFrom W1.heap.size W W6) := Lib.hid ⟨⟨TI6.out, ⟨want.length, rfl, BK6.out⟩, List.nil_prefix⟩, KI6.out, KF6.out⟩
              obtain ⟨F2, hF2⟩ : ∃ F : Row → Nat → Act, ∀ (x2 : Row) (By : Nat), F x2 By = { tmps := #[.slice A l.length c, .agg #[.string f, .string u], .slice Ag script.length cg, undef, .pointer (some ⟨w.heap.size, 0, none⟩), undef, .pointer (some ⟨w.heap.size + 1, 0, none⟩), .pointer (some ⟨g, 0, none⟩), .int .i64 0, .func (.func 68) #[] lb1, .pointer (some ⟨bd, 0, none⟩), .pointer (some ⟨bw, 0, none⟩), .pointer (some ⟨b, 0, none⟩), undef, u14, .int .i64 1, .pointer (some ⟨bn, 0, none⟩), .pointer (some ⟨Bx, 0, none⟩), .pointer (some ⟨bk, 0, none⟩), .pointer (some ⟨By, 0, none⟩), .slice A l.length c, .int .i64 0, .bool false, .tuple #[.pointer (some ⟨g, 0, none⟩), .int .i64 0], .slice A l.length c, .tuple #[.pointer (some ⟨g, 0, none⟩), .int .i64 0], .pointer (some ⟨g, 0, none⟩), .int .i64 0, .int .i64 0, .bool false, .bool false, .pointer (some ⟨g, 0, none⟩), .bool false, .bool false, .pointer (some ⟨g, 0, none⟩), .agg #[.string f, .string u], .func (.func 68) #[] lb1, .pointer (some ⟨g, 0, none⟩), .agg #[.string f, .string u], .func (.func 68) #[] lb2, .func (.func 68) #[] lb1, .bool false, .bool false, .func (.func 68) #[] lb2, .bool false, .bool false, .slice A l.length c, .agg #[.string f, .string u], .slice (some ad) want.length cn, .pointer (some ⟨g, 0, none⟩), .pointer (some ⟨g1, 0, none⟩), .pointer (some ⟨g2, 0, none⟩), .agg #[.pointer (some ⟨g, 0, none⟩), .pointer (some ⟨g1, 0, none⟩), .pointer (some ⟨g2, 0, none⟩)], .slice A l.length c, .agg #[.slice A l.length c, .slice none 0 0, .slice none 0 0], .agg #[.pointer (some ⟨g, 0, none⟩), .pointer (some ⟨g1, 0, none⟩), .pointer (some ⟨g2, 0, none⟩), .slice A l.length c, .slice none 0 0, .slice none 0 0], .pointer (some ⟨b, 0, none⟩), .slice Ag script.length cg, .int .i64 script.length, .int .i64 k, .bool false, u61, u62, u63, u64, u65, u66, u67, u68, u69, u70, u71, u72, .int .i64 1, .bool true, .int .i64 0, .int .i64 1, .func (.func 68) #[] lb1, x.val, .int .i64 ([] : List Row).length, .slice (some ad) want.length cn, .int .i64 want.length, .bool false, .bool false, .agg #[.string x.key, .string x.value, .int .i64 x.version], .slice (some ad) want.length cn, .int .i64 ([] : List Row).length, .pointer (some (ad.add (([] : List Row).length * 3))), .agg #[.string x.key, .string x.value, .int .i64 x.version], .bool false, .bool false, .int .i64 0, .bool true, .slice (some ad) want.length cn, .int .i64 want.length, .func (.func 68) #[] lb2, x2.val, undef, undef, undef, undef, undef, undef, undef, undef, undef, undef, undef, undef, undef, undef, undef, undef, .int .i64 want.length, .slice (some ad) want.length cn, .int .i64 want.length, .bool false, undef, undef, undef, undef, undef, undef, undef, undef, undef], defers := [] } := ⟨fun x2 By => _, fun _ _ => rfl⟩
              have HF2 := Lib.hid hF2
              clear hF2
              refine wpIn_rangeFunc_ownN (l₀ := lp) (r₀ := r) rfl HR6.out (by omega) (gf := 68) (lb := lb2) rfl trivial (enters_of Try.func68 (by kernel_rfl) rfl)
                ((walk1_stops (b0 := W6.heap.size) TI6.out.2.2.2.2.2.1.it HLB.out.1 (Nat.le_refl _) HLB.out.2.1 HLB.out.2.2.1 HLB.out.2.2.2.1 HLB.out.2.2.2.2).inRound lp)
                (fun h k => KeepI.trans h k) (fun W k o o' _ h hc _ => KeepI.putObj W k o o' h hc) (Below.refl _ _) (fun _ => rfl)
                (fun pre2 W' => (TI w.heap.size w bn bw bd (w.heap.size + 1) g lb1 lb2 l lt want ((below f l).length : Int) (upTo l u) (some ad) cn (some D0) 0 W' ∧ (∃ kv : Nat, kv + pre2.length = want.length ∧ W'.heap[bk]? = some (bx (.int .i64 kv) tI)) ∧ pre2 <+: want.reverse) ∧ KeepI W1.heap.size W W' ∧ KeepsFrom W1.heap.size W W') (fun _ pre2 _ => ¬ pre2 <+: want.reverse)
                (OwnFrom.and (OwnFrom.and (ti_own (fun _ : List Row => (0 : Int)) _ (Nat.le_refl _) (Nat.le_trans hwW hW6) (Nat.le_of_lt (Nat.lt_trans hbnk hk6))) (OwnFrom.and (fun s X Y row ⟨kv, h1, h2⟩ hg hr => ⟨kv, h1, block_own W6.heap.size bk (fun _ : Unit => bx (.int .i64 kv) tI) (fun _ => rfl) () X Y row h2 hg hr⟩) (pure_own _))) (OwnFrom.and (keepI_own hW6) (ownFrom_keepsFrom hW6))) (fun c => pure_own _) H66.out
                (fun x2 a' W' => ∃ By, W'.heap[By]? = some (.cells #[.string x2.key, .string x2.value, .int .i64 x2.version] tRow (0, 0)) ∧ a' = F2 x2 By)
                (fun x2 a' => fun s X Y row hs hg hr => by obtain ⟨By, h1, h2⟩ := hs; exact ⟨By, block_own W6.heap.size By (fun _ : Unit => .cells #[.string x2.key, .string x2.value, .int .i64 x2.version] tRow (0, 0)) (fun _ => rfl) () X Y row h1 hg hr, h2⟩) ?assign2B ?body2B ?done2B ?stop2B
              case assign2B =>
                intro lp2 pre2 y W' K hI hK
                obtain ⟨⟨hi1, ⟨kv, hi2, hi3⟩, hi4⟩, hi5, hi6⟩ := hI
                have hw : w.heap.size ≤ W'.heap.size := hi1.2.2.2.2.2.2.2.2.1.size
                have HB := below_alloc (Below.refl W'.heap.size W') (.cells #[.string y.key, .string y.value, .int .i64 y.version] tRow)
                have HK := Lib.hid (hK _ _ ((KeepsOthers.alloc _ _).from _) (KeepI.of_below HB) ⟨⟨hi1.below HB hw, ⟨kv, hi2, blk_below hi3 HB⟩, hi4⟩, KeepI.trans hi5 (KeepI.of_below HB), hi6.trans ((KeepsOthers.alloc _ _).from _)⟩ ⟨W'.heap.size, blk_new W' (.cells #[.string y.key, .string y.value, .int .i64 y.version] tRow), (HF2.out y W'.heap.size).symm⟩)
                clear hK hi1 hi2 hi3 hi4 hi5 hi6 HB
                gi_wp2
                exact HK.out
              case body2B =>
                rintro lp2 pre2 y a'' W' _ _ ⟨⟨hTI2, ⟨kv, hkv, hbk⟩, hpre2⟩, hki, hkf⟩ ⟨By, hby, rfl⟩ hlt2
                rw [HF2.out]
                have TI2 := Lib.hid hTI2
                have BK2 := Lib.hid hbk
                have KI2 := Lib.hid hki
                have KF2 := Lib.hid hkf
                have HP2 := Lib.hid hpre2
                have HKV := Lib.hid hkv
                have hkl : kv ≤ 1048576 := by have := HWL.out; omega
                have ck := blk1 hbk
                have zk := blkz hbk
                have BK3 := Lib.hid (blk_set hbk 0 (.int .i64 ((kv : Int) - 1)))
                have TI3 := Lib.hid (hTI2.setI hbk HBK.out.1 HBN.out.1 (.int .i64 ((kv : Int) - 1)))
                have BY3 := Lib.hid (blk_far (p := ⟨bk, 0, none⟩) hby (blk_ne hby hbk (show tRow ≠ tI by decide)) (.int .i64 ((kv : Int) - 1)))
                have KF3 := Lib.hid (show KeepsFrom W6.heap.size W' (W'.setCell ⟨bk, 0, none⟩ (.int .i64 ((kv : Int) - 1))) from (KeepsOthers.setCell _ _ _).from _)
                have KI3 := Lib.hid (keepI_set (KeepI.refl W6.heap.size W') hbk (by decide) (.inl HBK.out.2.2.2) 0 (.int .i64 ((kv : Int) - 1)))
                have KFB := Lib.hid (hkf.trans ((KeepsOthers.setCell W' ⟨bk, 0, none⟩ (.int .i64 ((kv : Int) - 1))).from _))
                have KIB := Lib.hid (keepI_set hki hbk (by decide) (.inr HBK.out.2.1) 0 (.int .i64 ((kv : Int) - 1)))
                have hfk : wrap64 ((kv : Int) - 1) = (kv : Int) - 1 := by rw [← i64_w]; exact IntWalk.i64_in _ (by omega)
                clear hTI2 hbk hki hkf hpre2 hby hlt2 hkv
                gi_wp2_with fail
                clear ck zk hfk
                generalize (World.setCell W' _ _) = W8 at *
                have ck := blk1 BK3.out
                have cw2 := blkc TI3.out.2.1 0
                have cy2 := blkc BY3.out
                cases kv with
                | zero =>
                  have HNX := Lib.hid (prefix_end (x := y) HP2.out (by rw [List.length_reverse]; have := HKV.out; omega))
                  have ck1 : W8.cell? ⟨bk, 0, none⟩ = some (.int .i64 (-1)) := ck
                  have KFR := Lib.hid (KF3.out.trans ((show KeepsFrom W6.heap.size W8 W8.drew from ⟨Nat.le_refl _, fun _ _ _ h0 _ => h0⟩).trans ((KeepsOthers.setCell W8.drew ⟨w.heap.size + 1, 0, none⟩ (.bool false)).from _)))
                  have TIR := Lib.hid (TI3.out.below (below_drew (Below.refl _ _)) TI3.out.2.2.2.2.2.2.2.2.1.size)
                  clear ck KF3 KI3 TI2 BK2 KI2 KF2 KFB KIB
                  show Code.wpIn (Fence.wide.inRound lp2) _ _ _ _ _ _
                  refine startIn_ (n := 10) (S := fun w' => w'.cell? ⟨bk, 0, none⟩ = some (.int .i64 (-1)) ∧ w'.cell? ⟨bw, 0, none⟩ = #[Value.slice (some ad) want.length cn][0]? ∧ (∀ o, w'.cell? ⟨By, o, none⟩ = #[Value.string y.key, .string y.value, .int .i64 y.version][o]?)) (ds := []) #[false, false, false, false, false, false, false, false, false, false] (by kernel_rfl) rfl rfl ⟨ck1, cw2, cy2⟩ (fun hHeld => ?_)
                  refine take_ (i := 0) (N := some 99) (v := ?_) (a' := ?_) #[true, false, false, false, false, false, false, false, false, false] rfl rfl (by kernel_rfl) (fun _ _ _ h => h) (Or.inl ⟨by rfl, ?_⟩) hHeld ?_ ?_
                  rotate_left
                  · rintro w' ⟨s0, s1, s2⟩
                    go_simp
                    with_reducible rfl
                  rotate_left
                  · simp only [Act.put, List.setIfInBounds_toArray, List.set_cons_zero, List.set_cons_succ, i64_w, i32_w]
                    rfl
                  refine pure_ (i := 1) (N := some 100) (v := ?_) (a' := ?_) #[true, true, false, false, false, false, false, false, false, false] rfl rfl (by kernel_rfl) (fun _ _ _ h => h) (Or.inl ⟨by rfl, ?_⟩) ?_ ?_
                  rotate_left
                  · intro w'
                    go_simp
                    with_reducible rfl
                  rotate_left
                  · simp only [Act.put, List.setIfInBounds_toArray, List.set_cons_zero, List.set_cons_succ, i64_w, i32_w]
                    rfl
                  refine pure_ (i := 2) (N := some 101) (v := ?_) (a' := ?_) #[true, true, true, false, false, false, false, false, false, false] rfl rfl (by kernel_rfl) (fun _ _ _ h => h) (Or.inl ⟨by rfl, ?_⟩) ?_ ?_
                  rotate_left
                  · intro w'
                    go_simp
                    with_reducible rfl
                  rotate_left
                  · simp only [Act.put, List.setIfInBounds_toArray, List.set_cons_zero, List.set_cons_succ, i64_w, i32_w]
                    rfl
                  refine pure_ (i := 3) (N := some 102) (v := undef) (a' := ?_) #[true, true, true, true, false, false, false, false, false, false] rfl rfl (by kernel_rfl) (fun _ _ _ h => h) (Or.inr ⟨by rfl, rfl⟩) ?_ ?_
                  rotate_left
                  · simp only [Act.put, List.setIfInBounds_toArray, List.set_cons_zero, List.set_cons_succ, i64_w, i32_w]
                    rfl
                  refine pure_ (i := 4) (N := some 103) (v := undef) (a' := ?_) #[true, true, true, true, true, false, false, false, false, false] rfl rfl (by kernel_rfl) (fun _ _ _ h => h) (Or.inr ⟨by rfl, rfl⟩) ?_ ?_
                  rotate_left
                  · simp only [Act.put, List.setIfInBounds_toArray, List.set_cons_zero, List.set_cons_succ, i64_w, i32_w]
                    rfl
                  refine pure_ (i := 5) (N := some 104) (v := undef) (a' := ?_) #[true, true, true, true, true, true, false, false, false, false] rfl rfl (by kernel_rfl) (fun _ _ _ h => h) (Or.inr ⟨by rfl, rfl⟩) ?_ ?_
                  rotate_left
                  · simp only [Act.put, List.setIfInBounds_toArray, List.set_cons_zero, List.set_cons_succ, i64_w, i32_w]
                    rfl
                  refine pure_ (i := 6) (N := some 105) (v := undef) (a' := ?_) #[true, true, true, true, true, true, true, false, false, false] rfl rfl (by kernel_rfl) (fun _ _ _ h => h) (Or.inr ⟨by rfl, rfl⟩) ?_ ?_
                  rotate_left
                  · simp only [Act.put, List.setIfInBounds_toArray, List.set_cons_zero, List.set_cons_succ, i64_w, i32_w]
                    rfl
                  refine pure_ (i := 7) (N := some 106) (v := undef) (a' := ?_) #[true, true, true, true, true, true, true, true, false, false] rfl rfl (by kernel_rfl) (fun _ _ _ h => h) (Or.inr ⟨by rfl, rfl⟩) ?_ ?_
                  rotate_left
                  · simp only [Act.put, List.setIfInBounds_toArray, List.set_cons_zero, List.set_cons_succ, i64_w, i32_w]
                    rfl
                  refine pure_ (i := 8) (N := some 107) (v := undef) (a' := ?_) #[true, true, true, true, true, true, true, true, true, false] rfl rfl (by kernel_rfl) (fun _ _ _ h => h) (Or.inr ⟨by rfl, rfl⟩) ?_ ?_
                  rotate_left
                  · simp only [Act.put, List.setIfInBounds_toArray, List.set_cons_zero, List.set_cons_succ, i64_w, i32_w]
                    rfl
                  refine pure_ (i := 9) (N := some 108) (v := ?_) (a' := ?_) #[true, true, true, true, true, true, true, true, true, true] rfl rfl (by kernel_rfl) (fun _ _ _ h => h) (Or.inl ⟨by rfl, ?_⟩) ?_ ?_
                  rotate_left
                  · intro w'
                    go_simp
                    with_reducible rfl
                  rotate_left
                  · simp only [Act.put, List.setIfInBounds_toArray, List.set_cons_zero, List.set_cons_succ, i64_w, i32_w]
                    rfl
                  refine done_ (by kernel_rfl) ?_
                  have cbr := blk1 TIR.out.2.2.2.1
                  have zbr := blkz TIR.out.2.2.2.1
                  gi_wp2_with fail
                  exact ⟨KFR.out, HNX.out⟩
                | succ j =>
                  have hi1 : ((j + 1 : Nat) : Int) - 1 = (j : Int) := by omega
                  rw [hi1] at BK3 ck
                  have ck1 : W8.cell? ⟨bk, 0, none⟩ = some (.int .i64 (j : Int)) := ck
                  clear ck hi1
                  have hjl : j < want.length := by have := HKV.out; omega
                  have TIR := Lib.hid (TI3.out.below (below_drew (Below.refl _ _)) TI3.out.2.2.2.2.2.2.2.2.1.size)
                  have KD8 := Lib.hid (show KeepsFrom W6.heap.size W8 W8.drew from ⟨Nat.le_refl _, fun _ _ _ h0 _ => h0⟩)
                  have p1 := eq_true (show 0 ≤ (j : Int) by omega)
                  have p2 := eq_true hjl
                  have d1 : ((j : Int) < 0) = False := _root_.eq_false (by omega)
                  have hz := List.getElem?_eq_getElem hjl
                  generalize want[j] = z at *
                  obtain ⟨ad2, hA2, z0, z1, z2⟩ := at_R TI3.out.2.2.2.2.2.2.2.1.1 hz
                  cases hA2
                  have HZT := Lib.hid hz
                  clear hz hjl
                  by_cases hy : pre2 ++ [y] <+: want.reverse
                  · have hzy : y = z := by
                      have h1 := prefix_rev hy (j := j) (by have := HKV.out; omega)
                      rw [HZT.out] at h1
                      exact (Option.some.inj h1).symm
                    subst hzy
                    have HY := Lib.hid hy
                    have hne := fun W => run_neR y y W
                    rw [(Row.eqb_iff y y).2 rfl] at hne
                    simp only [Bool.not_true] at hne
                    clear hy
                    show Code.wpIn (Fence.wide.inRound lp2) _ _ _ _ _ _
                    refine startIn_ (n := 10) (S := fun w' => w'.cell? ⟨bk, 0, none⟩ = some (.int .i64 (j : Int)) ∧ w'.cell? ⟨bw, 0, none⟩ = #[Value.slice (some ad) want.length cn][0]? ∧ (∀ o, w'.cell? ⟨By, o, none⟩ = #[Value.string y.key, .string y.value, .int .i64 y.version][o]?) ∧ w'.cell? (ad.add (j * 3)) = some (.string y.key) ∧ w'.cell? ⟨(ad.add (j * 3)).block, (ad.add (j * 3)).off + 1, none⟩ = some (.string y.value) ∧ w'.cell? ⟨(ad.add (j * 3)).block, (ad.add (j * 3)).off + 2, none⟩ = some (.int .i64 y.version)) (ds := []) #[false, false, false, false, false, false, false, false, false, false] (by kernel_rfl) rfl rfl ⟨ck1, cw2, cy2, z0, z1, z2⟩ (fun hHeld => ?_)
                    refine take_ (i := 0) (N := some 99) (v := ?_) (a' := ?_) #[true, false, false, false, false, false, false, false, false, false] rfl rfl (by kernel_rfl) (fun _ _ _ h => h) (Or.inl ⟨by rfl, ?_⟩) hHeld ?_ ?_
                    rotate_left
                    · rintro w' ⟨s0, s1, s2, s3, s4, s5⟩
                      go_simp
                      with_reducible rfl
                    rotate_left
                    · simp only [Act.put, List.setIfInBounds_toArray, List.set_cons_zero, List.set_cons_succ, i64_w, i32_w]
                      rfl
                    refine pure_ (i := 1) (N := some 100) (v := ?_) (a' := ?_) #[true, true, false, false, false, false, false, false, false, false] rfl rfl (by kernel_rfl) (fun _ _ _ h => h) (Or.inl ⟨by rfl, ?_⟩) ?_ ?_
                    rotate_left
                    · intro w'
                      go_simp
                      with_reducible rfl
                    rotate_left
                    · simp only [Act.put, List.setIfInBounds_toArray, List.set_cons_zero, List.set_cons_succ, i64_w, i32_w]
                      rfl
                    refine pure_ (i := 2) (N := some 101) (v := ?_) (a' := ?_) #[true, true, true, false, false, false, false, false, false, false] rfl rfl (by kernel_rfl) (fun _ _ _ h => h) (Or.inl ⟨by rfl, ?_⟩) ?_ ?_
                    rotate_left
                    · intro w'
                      go_simp
                      with_reducible rfl
                    rotate_left
                    · simp only [Act.put, List.setIfInBounds_toArray, List.set_cons_zero, List.set_cons_succ, i64_w, i32_w]
                      rfl
                    refine take_ (i := 3) (N := some 102) (v := ?_) (a' := ?_) #[true, true, true, true, false, false, false, false, false, false] rfl rfl (by kernel_rfl) (fun _ _ _ h => h) (Or.inl ⟨by rfl, ?_⟩) hHeld ?_ ?_
                    rotate_left
                    · rintro w' ⟨s0, s1, s2, s3, s4, s5⟩
                      go_simp
                      with_reducible rfl
                    rotate_left
                    · simp only [Act.put, List.setIfInBounds_toArray, List.set_cons_zero, List.set_cons_succ, i64_w, i32_w]
                      rfl
                    refine take_ (i := 4) (N := some 103) (v := ?_) (a' := ?_) #[true, true, true, true, true, false, false, false, false, false] rfl rfl (by kernel_rfl) (fun _ _ _ h => h) (Or.inl ⟨by rfl, ?_⟩) hHeld ?_ ?_
                    rotate_left
                    · rintro w' ⟨s0, s1, s2, s3, s4, s5⟩
                      go_simp
                      with_reducible rfl
                    rotate_left
                    · simp only [Act.put, List.setIfInBounds_toArray, List.set_cons_zero, List.set_cons_succ, i64_w, i32_w]
                      rfl
                    refine take_ (i := 5) (N := some 104) (v := ?_) (a' := ?_) #[true, true, true, true, true, true, false, false, false, false] rfl rfl (by kernel_rfl) (fun _ _ _ h => h) (Or.inl ⟨by rfl, ?_⟩) hHeld ?_ ?_
                    rotate_left
                    · rintro w' ⟨s0, s1, s2, s3, s4, s5⟩
                      go_simp
                      with_reducible rfl
                    rotate_left
                    · simp only [Act.put, List.setIfInBounds_toArray, List.set_cons_zero, List.set_cons_succ, i64_w, i32_w]
                      rfl
                    refine pure_ (i := 6) (N := some 105) (v := ?_) (a' := ?_) #[true, true, true, true, true, true, true, false, false, false] rfl rfl (by kernel_rfl) (fun _ _ _ h => h) (Or.inl ⟨by rfl, ?_⟩) ?_ ?_
                    rotate_left
                    · intro w'
                      go_simp
                      with_reducible rfl
                    rotate_left
                    · simp only [Act.put, List.setIfInBounds_toArray, List.set_cons_zero, List.set_cons_succ, i64_w, i32_w]
                      rfl
                    refine take_ (i := 7) (N := some 106) (v := ?_) (a' := ?_) #[true, true, true, true, true, true, true, true, false, false] rfl rfl (by kernel_rfl) (fun _ _ _ h => h) (Or.inl ⟨by rfl, ?_⟩) hHeld ?_ ?_
                    rotate_left
                    · rintro w' ⟨s0, s1, s2, s3, s4, s5⟩
                      go_simp
                      with_reducible rfl
                    rotate_left
                    · simp only [Act.put, List.setIfInBounds_toArray, List.set_cons_zero, List.set_cons_succ, i64_w, i32_w]
                      rfl
                    refine pure_ (i := 8) (N := some 107) (v := ?_) (a' := ?_) #[true, true, true, true, true, true, true, true, true, false] rfl rfl (by kernel_rfl) (fun _ _ _ h => h) (Or.inl ⟨by rfl, ?_⟩) ?_ ?_
                    rotate_left
                    · intro w'
                      go_simp
                      with_reducible rfl
                    rotate_left
                    · simp only [Act.put, List.setIfInBounds_toArray, List.set_cons_zero, List.set_cons_succ, i64_w, i32_w]
                      rfl
                    refine pure_ (i := 9) (N := some 108) (v := ?_) (a' := ?_) #[true, true, true, true, true, true, true, true, true, true] rfl rfl (by kernel_rfl) (fun _ _ _ h => h) (Or.inl ⟨by rfl, ?_⟩) ?_ ?_
                    rotate_left
                    · intro w'
                      go_simp
                      with_reducible rfl
                    rotate_left
                    · simp only [Act.put, List.setIfInBounds_toArray, List.set_cons_zero, List.set_cons_succ, i64_w, i32_w]
                      rfl
                    refine done_ (by kernel_rfl) ?_
                    clear z0 z1 z2 ck1 cw2 cy2 hne p1 p2 d1
                    have FIN : Hid (KeepsFrom W6.heap.size W' W8.drew ∧ KeepI W6.heap.size W' W8.drew ∧ ((TI w.heap.size w bn bw bd (w.heap.size + 1) g lb1 lb2 l lt want ((below f l).length : Int) (upTo l u) (some ad) cn (some D0) 0 W8.drew ∧ (∃ kv : Nat, kv + (pre2 ++ [y]).length = want.length ∧ W8.drew.heap[bk]? = some (bx (.int .i64 kv) tI)) ∧ pre2 ++ [y] <+: want.reverse) ∧ KeepI W1.heap.size W W8.drew ∧ KeepsFrom W1.heap.size W W8.drew)) := Lib.hid ⟨KF3.out.trans KD8.out, KeepI.trans KI3.out (KeepI.of_below (below_drew (Below.refl _ _))), ⟨TIR.out, ⟨j, by rw [List.length_append, List.length_singleton]; have := HKV.out; omega, BK3.out⟩, HY.out⟩, KeepI.trans KIB.out (KeepI.of_below (below_drew (Below.refl _ _))), KFB.out.trans ⟨Nat.le_refl _, fun _ _ _ h0 _ => h0⟩⟩
                    gi_wp2_with fail
                    exact FIN.out
                  · have hzy : y ≠ z := by
                      refine prefix_not HP2.out ?_ hy
                      rw [List.getElem?_reverse (by have := HKV.out; omega), ← HZT.out]
                      congr 1
                      have := HKV.out
                      omega
                    have HNX := Lib.hid hy
                    have hyz : y.eqb z = false := by cases h : y.eqb z with | false => rfl | true => exact absurd ((Row.eqb_iff y z).1 h) hzy
                    have hne := fun W => run_neR y z W
                    rw [hyz] at hne
                    simp only [Bool.not_false] at hne
                    have KFR := Lib.hid ((KF3.out.trans KD8.out).trans ((KeepsOthers.setCell W8.drew ⟨w.heap.size + 1, 0, none⟩ (.bool false)).from _))
                    clear hy hzy hyz
                    show Code.wpIn (Fence.wide.inRound lp2) _ _ _ _ _ _
                    refine startIn_ (n := 10) (S := fun w' => w'.cell? ⟨bk, 0, none⟩ = some (.int .i64 (j : Int)) ∧ w'.cell? ⟨bw, 0, none⟩ = #[Value.slice (some ad) want.length cn][0]? ∧ (∀ o, w'.cell? ⟨By, o, none⟩ = #[Value.string y.key, .string y.value, .int .i64 y.version][o]?) ∧ w'.cell? (ad.add (j * 3)) = some (.string z.key) ∧ w'.cell? ⟨(ad.add (j * 3)).block, (ad.add (j * 3)).off + 1, none⟩ = some (.string z.value) ∧ w'.cell? ⟨(ad.add (j * 3)).block, (ad.add (j * 3)).off + 2, none⟩ = some (.int .i64 z.version)) (ds := []) #[false, false, false, false, false, false, false, false, false, false] (by kernel_rfl) rfl rfl ⟨ck1, cw2, cy2, z0, z1, z2⟩ (fun hHeld => ?_)
                    refine take_ (i := 0) (N := some 99) (v := ?_) (a' := ?_) #[true, false, false, false, false, false, false, false, false, false] rfl rfl (by kernel_rfl) (fun _ _ _ h => h) (Or.inl ⟨by rfl, ?_⟩) hHeld ?_ ?_
                    rotate_left
                    · rintro w' ⟨s0, s1, s2, s3, s4, s5⟩
                      go_simp
                      with_reducible rfl
                    rotate_left
                    · simp only [Act.put, List.setIfInBounds_toArray, List.set_cons_zero, List.set_cons_succ, i64_w, i32_w]
                      rfl
                    refine pure_ (i := 1) (N := some 100) (v := ?_) (a' := ?_) #[true, true, false, false, false, false, false, false, false, false] rfl rfl (by kernel_rfl) (fun _ _ _ h => h) (Or.inl ⟨by rfl, ?_⟩) ?_ ?_
                    rotate_left
                    · intro w'
                      go_simp
                      with_reducible rfl
                    rotate_left
                    · simp only [Act.put, List.setIfInBounds_toArray, List.set_cons_zero, List.set_cons_succ, i64_w, i32_w]
                      rfl
                    refine pure_ (i := 2) (N := some 101) (v := ?_) (a' := ?_) #[true, true, true, false, false, false, false, false, false, false] rfl rfl (by kernel_rfl) (fun _ _ _ h => h) (Or.inl ⟨by rfl, ?_⟩) ?_ ?_
                    rotate_left
                    · intro w'
                      go_simp
                      with_reducible rfl
                    rotate_left
                    · simp only [Act.put, List.setIfInBounds_toArray, List.set_cons_zero, List.set_cons_succ, i64_w, i32_w]
                      rfl
                    refine take_ (i := 3) (N := some 102) (v := ?_) (a' := ?_) #[true, true, true, true, false, false, false, false, false, false] rfl rfl (by kernel_rfl) (fun _ _ _ h => h) (Or.inl ⟨by rfl, ?_⟩) hHeld ?_ ?_
                    rotate_left
                    · rintro w' ⟨s0, s1, s2, s3, s4, s5⟩
                      go_simp
                      with_reducible rfl
                    rotate_left
                    · simp only [Act.put, List.setIfInBounds_toArray, List.set_cons_zero, List.set_cons_succ, i64_w, i32_w]
                      rfl
                    refine take_ (i := 4) (N := some 103) (v := ?_) (a' := ?_) #[true, true, true, true, true, false, false, false, false, false] rfl rfl (by kernel_rfl) (fun _ _ _ h => h) (Or.inl ⟨by rfl, ?_⟩) hHeld ?_ ?_
                    rotate_left
                    · rintro w' ⟨s0, s1, s2, s3, s4, s5⟩
                      go_simp
                      with_reducible rfl
                    rotate_left
                    · simp only [Act.put, List.setIfInBounds_toArray, List.set_cons_zero, List.set_cons_succ, i64_w, i32_w]
                      rfl
                    refine take_ (i := 5) (N := some 104) (v := ?_) (a' := ?_) #[true, true, true, true, true, true, false, false, false, false] rfl rfl (by kernel_rfl) (fun _ _ _ h => h) (Or.inl ⟨by rfl, ?_⟩) hHeld ?_ ?_
                    rotate_left
                    · rintro w' ⟨s0, s1, s2, s3, s4, s5⟩
                      go_simp
                      with_reducible rfl
                    rotate_left
                    · simp only [Act.put, List.setIfInBounds_toArray, List.set_cons_zero, List.set_cons_succ, i64_w, i32_w]
                      rfl
                    refine pure_ (i := 6) (N := some 105) (v := ?_) (a' := ?_) #[true, true, true, true, true, true, true, false, false, false] rfl rfl (by kernel_rfl) (fun _ _ _ h => h) (Or.inl ⟨by rfl, ?_⟩) ?_ ?_
                    rotate_left
                    · intro w'
                      go_simp
                      with_reducible rfl
                    rotate_left
                    · simp only [Act.put, List.setIfInBounds_toArray, List.set_cons_zero, List.set_cons_succ, i64_w, i32_w]
                      rfl
                    refine take_ (i := 7) (N := some 106) (v := ?_) (a' := ?_) #[true, true, true, true, true, true, true, true, false, false] rfl rfl (by kernel_rfl) (fun _ _ _ h => h) (Or.inl ⟨by rfl, ?_⟩) hHeld ?_ ?_
                    rotate_left
                    · rintro w' ⟨s0, s1, s2, s3, s4, s5⟩
                      go_simp
                      with_reducible rfl
                    rotate_left
                    · simp only [Act.put, List.setIfInBounds_toArray, List.set_cons_zero, List.set_cons_succ, i64_w, i32_w]
                      rfl
                    refine pure_ (i := 8) (N := some 107) (v := ?_) (a' := ?_) #[true, true, true, true, true, true, true, true, true, false] rfl rfl (by kernel_rfl) (fun _ _ _ h => h) (Or.inl ⟨by rfl, ?_⟩) ?_ ?_
                    rotate_left
                    · intro w'
                      go_simp
                      with_reducible rfl
                    rotate_left
                    · simp only [Act.put, List.setIfInBounds_toArray, List.set_cons_zero, List.set_cons_succ, i64_w, i32_w]
                      rfl
                    refine pure_ (i := 9) (N := some 108) (v := ?_) (a' := ?_) #[true, true, true, true, true, true, true, true, true, true] rfl rfl (by kernel_rfl) (fun _ _ _ h => h) (Or.inl ⟨by rfl, ?_⟩) ?_ ?_
                    rotate_left
                    · intro w'
                      go_simp
                      with_reducible rfl
                    rotate_left
                    · simp only [Act.put, List.setIfInBounds_toArray, List.set_cons_zero, List.set_cons_succ, i64_w, i32_w]
                      rfl
                    refine done_ (by kernel_rfl) ?_
                    have cbr := blk1 TIR.out.2.2.2.1
                    have zbr := blkz TIR.out.2.2.2.1
                    gi_wp2_with fail
                    exact ⟨KFR.out, HNX.out⟩
              case done2B =>
                rintro ys W' hys ⟨⟨hTI2, ⟨kv, hkv, hbk⟩, hpre2⟩, hki, hkf⟩
                have HS2 : segD true l ((below f l).length : Int) (upTo l u) = want.reverse := by show (seg l _ _).reverse = _; rw [show seg l ((below f l).length : Int) (upTo l u) = want from HSEG.out]
                rw [HS2] at hys
                obtain rfl : kv = 0 := by rw [hys, List.length_reverse] at hkv; omega
                have TI7 := Lib.hid hTI2
                have KI7 := Lib.hid hki
                have KF7 := Lib.hid hkf
                have ck := blk1 hbk
                clear hTI2 hki hkf hpre2 hkv HS2 hys
                have cn9 := blk1 TI7.out.1
                have zn9 := blkz TI7.out.1
                have TN := Lib.hid (TI7.out.setN HBN.out.1 1)
                have KN := Lib.hid (KF7.out.trans ((KeepsOthers.setCell W' ⟨bn, 0, none⟩ (.int .i64 1)).from _))
                have IN := Lib.hid (keepI_set KI7.out TI7.out.1 (by decide) (.inl HBN1.out) 0 (.int .i64 1))
                gi_wp2_with fail
                exact ⟨KN.out, IN.out, TN.out, HX.out⟩
              case stop2B =>
                rintro c pre2 W' hp hf
                rw [show segD true l ((below f l).length : Int) (upTo l u) = want.reverse by show (seg l _ _).reverse = _; rw [show seg l ((below f l).length : Int) (upTo l u) = want from HSEG.out]] at hp
                exact absurd hp hf
            · have h3 : 0 < pre.length := List.length_pos_iff.2 hp0
              have hWd : W.drew = W.drew := rfl
              clear hsd HRD HRL hWd
              have HLX := Lib.hid (show (((pre ++ [x]).length : Nat) : Int) = (pre.length : Int) + 1 by simp)
              generalize W.drew = W5 at *
              have HPL := Lib.hid hpl
              clear TIW HPRE HBX hp0 hpl
              generalize pre.length = pl at *
              obtain ⟨m, rfl⟩ : ∃ m, pl = m + 1 := ⟨pl - 1, by omega⟩
              have e0 : (((m + 1 : Nat) : Int)) = (m : Int) + 1 := by simp
              rw [e0] at TID HLX
              have d1 : ((m : Int) + 1 == 0) = false := by simp; omega
              have d2 : ((m : Int) + 1 = 0) = False := _root_.eq_false (by omega)
              have hml : (m : Int) + 1 ≤ 1048576 := by have := HWL.out; have := HPL.out; omega
              have hf9 : wrap64 ((m : Int) + 1 + 1) = (m : Int) + 1 + 1 := by rw [← i64_w]; exact IntWalk.i64_in _ (by omega)
              clear h3 hlt2 e0 hml
              have cn9 := blk1 TID.out.1
              have zn9 := blkz TID.out.1
              have TN := Lib.hid (TID.out.setN HBN.out.1 ((m : Int) + 1 + 1))
              have KN := Lib.hid (KF.out.trans ((KeepsOthers.setCell W5 ⟨bn, 0, none⟩ (.int .i64 ((m : Int) + 1 + 1))).from _))
              have IN := Lib.hid (keepI_set KI.out TID.out.1 (by decide) (.inl HBN1.out) 0 (.int .i64 ((m : Int) + 1 + 1)))
              have TNF := Lib.hid (show TI w.heap.size w bn bw bd (w.heap.size + 1) g lb1 lb2 l lt want ((below f l).length : Int) (upTo l u) (some ad) cn (some D0) (((pre ++ [x]).length : Nat) : Int) (W5.setCell ⟨bn, 0, none⟩ (.int .i64 ((m : Int) + 1 + 1))) from by rw [HLX.out]; exact TN.out)
              clear TN TID KF KI HLX
              gi_wp2_with fail
              exact ⟨KN.out, IN.out, TNF.out, HX.out⟩
          · have HNX := Lib.hid hx
            have KFR := Lib.hid ((show KeepsFrom W1.heap.size W W.drew from ⟨Nat.le_refl _, fun _ _ _ h0 _ => h0⟩).trans ((KeepsOthers.setCell W.drew ⟨w.heap.size + 1, 0, none⟩ (.bool false)).from _))
            have TIR := Lib.hid (TIW.out.below (below_drew (Below.refl _ _)) TIW.out.2.2.2.2.2.2.2.2.1.size)
            by_cases hlt2 : pre.length < want.length
            · have hat := List.getElem?_eq_getElem hlt2
              generalize want[pre.length] = y at *
              have hxy : x ≠ y := prefix_not HPRE.out hat hx
              obtain ⟨ad, hA, y0, y1, y2⟩ := at_R TIW.out.2.2.2.2.2.2.2.1.1 hat
              cases hA
              have d1 : decide (want.length ≤ pre.length) = false := by simp; omega
              have p1 := eq_true (show 0 ≤ (pre.length : Int) by omega)
              have p2 := eq_true hlt2
              have hyz : x.eqb y = false := by cases h : x.eqb y with | false => rfl | true => exact absurd ((Row.eqb_iff x y).1 h) hxy
              have hne := fun W => run_neR x y W
              rw [hyz] at hne
              simp only [Bool.not_false] at hne
              clear hx hat hxy hyz
              gi_wp2_with fail
              refine startIn_ (n := 12) (S := fun w' => w'.cell? ⟨bn, 0, none⟩ = some (.int .i64 pre.length) ∧ w'.cell? ⟨bw, 0, none⟩ = #[Value.slice (some ad) want.length cn][0]? ∧ (∀ o, w'.cell? ⟨Bx, o, none⟩ = #[Value.string x.key, .string x.value, .int .i64 x.version][o]?) ∧ w'.cell? (ad.add (pre.length * 3)) = some (.string y.key) ∧ w'.cell? ⟨(ad.add (pre.length * 3)).block, (ad.add (pre.length * 3)).off + 1, none⟩ = some (.string y.value) ∧ w'.cell? ⟨(ad.add (pre.length * 3)).block, (ad.add (pre.length * 3)).off + 2, none⟩ = some (.int .i64 y.version)) (ds := []) #[false, false, false, false, false, false, false, false, false, false, false, false] (by kernel_rfl) rfl rfl ⟨cn0, cw0, cx, y0, y1, y2⟩ (fun hHeld => ?_)
              refine take_ (i := 0) (N := some 79) (v := ?_) (a' := ?_) #[true, false, false, false, false, false, false, false, false, false, false, false] rfl rfl (by kernel_rfl) (fun _ _ _ h => h) (Or.inl ⟨by rfl, ?_⟩) hHeld ?_ ?_
              rotate_left
              · rintro w' ⟨s0, s1, s2, s3, s4, s5⟩
                go_simp
                with_reducible rfl
              rotate_left
              · simp only [Act.put, List.setIfInBounds_toArray, List.set_cons_zero, List.set_cons_succ, i64_w, i32_w]
                rfl
              refine take_ (i := 1) (N := some 80) (v := ?_) (a' := ?_) #[true, true, false, false, false, false, false, false, false, false, false, false] rfl rfl (by kernel_rfl) (fun _ _ _ h => h) (Or.inl ⟨by rfl, ?_⟩) hHeld ?_ ?_
              rotate_left
              · rintro w' ⟨s0, s1, s2, s3, s4, s5⟩
                go_simp
                with_reducible rfl
              rotate_left
              · simp only [Act.put, List.setIfInBounds_toArray, List.set_cons_zero, List.set_cons_succ, i64_w, i32_w]
                rfl
              refine pure_ (i := 2) (N := some 81) (v := ?_) (a' := ?_) #[true, true, true, false, false, false, false, false, false, false, false, false] rfl rfl (by kernel_rfl) (fun _ _ _ h => h) (Or.inl ⟨by rfl, ?_⟩) ?_ ?_
              rotate_left
              · intro w'
                go_simp
                with_reducible rfl
              rotate_left
              · simp only [Act.put, List.setIfInBounds_toArray, List.set_cons_zero, List.set_cons_succ, i64_w, i32_w]
                rfl
              refine pure_ (i := 3) (N := some 82) (v := ?_) (a' := ?_) #[true, true, true, true, false, false, false, false, false, false, false, false] rfl rfl (by kernel_rfl) (fun _ _ _ h => h) (Or.inl ⟨by rfl, ?_⟩) ?_ ?_
              rotate_left
              · intro w'
                go_simp
                with_reducible rfl
              rotate_left
              · simp only [Act.put, List.setIfInBounds_toArray, List.set_cons_zero, List.set_cons_succ, i64_w, i32_w]
                rfl
              refine pure_ (i := 4) (N := some 83) (v := ?_) (a' := ?_) #[true, true, true, true, true, false, false, false, false, false, false, false] rfl rfl (by kernel_rfl) (fun _ _ _ h => h) (Or.inl ⟨by rfl, ?_⟩) ?_ ?_
              rotate_left
              · intro w'
                go_simp
                with_reducible rfl
              rotate_left
              · simp only [Act.put, List.setIfInBounds_toArray, List.set_cons_zero, List.set_cons_succ, i64_w, i32_w]
                rfl
              refine take_ (i := 5) (N := some 84) (v := ?_) (a' := ?_) #[true, true, true, true, true, true, false, false, false, false, false, false] rfl rfl (by kernel_rfl) (fun _ _ _ h => h) (Or.inl ⟨by rfl, ?_⟩) hHeld ?_ ?_
              rotate_left
              · rintro w' ⟨s0, s1, s2, s3, s4, s5⟩
                go_simp
                with_reducible rfl
              rotate_left
              · simp only [Act.put, List.setIfInBounds_toArray, List.set_cons_zero, List.set_cons_succ, i64_w, i32_w]
                rfl
              refine take_ (i := 6) (N := some 85) (v := ?_) (a' := ?_) #[true, true, true, true, true, true, true, false, false, false, false, false] rfl rfl (by kernel_rfl) (fun _ _ _ h => h) (Or.inl ⟨by rfl, ?_⟩) hHeld ?_ ?_
              rotate_left
              · rintro w' ⟨s0, s1, s2, s3, s4, s5⟩
                go_simp
                with_reducible rfl
              rotate_left
              · simp only [Act.put, List.setIfInBounds_toArray, List.set_cons_zero, List.set_cons_succ, i64_w, i32_w]
                rfl
              refine take_ (i := 7) (N := some 86) (v := ?_) (a' := ?_) #[true, true, true, true, true, true, true, true, false, false, false, false] rfl rfl (by kernel_rfl) (fun _ _ _ h => h) (Or.inl ⟨by rfl, ?_⟩) hHeld ?_ ?_
              rotate_left
              · rintro w' ⟨s0, s1, s2, s3, s4, s5⟩
                go_simp
                with_reducible rfl
              rotate_left
              · simp only [Act.put, List.setIfInBounds_toArray, List.set_cons_zero, List.set_cons_succ, i64_w, i32_w]
                rfl
              refine pure_ (i := 8) (N := some 87) (v := ?_) (a' := ?_) #[true, true, true, true, true, true, true, true, true, false, false, false] rfl rfl (by kernel_rfl) (fun _ _ _ h => h) (Or.inl ⟨by rfl, ?_⟩) ?_ ?_
              rotate_left
              · intro w'
                go_simp
                with_reducible rfl
              rotate_left
              · simp only [Act.put, List.setIfInBounds_toArray, List.set_cons_zero, List.set_cons_succ, i64_w, i32_w]
                rfl
              refine take_ (i := 9) (N := some 88) (v := ?_) (a' := ?_) #[true, true, true, true, true, true, true, true, true, true, false, false] rfl rfl (by kernel_rfl) (fun _ _ _ h => h) (Or.inl ⟨by rfl, ?_⟩) hHeld ?_ ?_
              rotate_left
              · rintro w' ⟨s0, s1, s2, s3, s4, s5⟩
                go_simp
                with_reducible rfl
              rotate_left
              · simp only [Act.put, List.setIfInBounds_toArray, List.set_cons_zero, List.set_cons_succ, i64_w, i32_w]
                rfl
              refine pure_ (i := 10) (N := some 89) (v := ?_) (a' := ?_) #[true, true, true, true, true, true, true, true, true, true, true, false] rfl rfl (by kernel_rfl) (fun _ _ _ h => h) (Or.inl ⟨by rfl, ?_⟩) ?_ ?_
              rotate_left
              · intro w'
                go_simp
                with_reducible rfl
              rotate_left
              · simp only [Act.put, List.setIfInBounds_toArray, List.set_cons_zero, List.set_cons_succ, i64_w, i32_w]
                rfl
              refine pure_ (i := 11) (N := some 90) (v := ?_) (a' := ?_) #[true, true, true, true, true, true, true, true, true, true, true, true] rfl rfl (by kernel_rfl) (fun _ _ _ h => h) (Or.inl ⟨by rfl, ?_⟩) ?_ ?_
              rotate_left
              · intro w'
                go_simp
                with_reducible rfl
              rotate_left
              · simp only [Act.put, List.setIfInBounds_toArray, List.set_cons_zero, List.set_cons_succ, i64_w, i32_w]
                rfl
              refine done_ (by kernel_rfl) ?_
              have cbr := blk1 TIR.out.2.2.2.1
              have zbr := blkz TIR.out.2.2.2.1
              gi_wp2_with fail
              exact ⟨KFR.out, HNX.out⟩
            · have d1 : decide (want.length ≤ pre.length) = true := by simp; omega
              clear hx
              gi_wp2_with fail
              refine startIn_ (n := 12) (S := fun w' => w'.cell? ⟨bn, 0, none⟩ = some (.int .i64 pre.length) ∧ w'.cell? ⟨bw, 0, none⟩ = #[Value.slice An want.length cn][0]? ∧ (∀ o, w'.cell? ⟨Bx, o, none⟩ = #[Value.string x.key, .string x.value, .int .i64 x.version][o]?)) (ds := []) #[false, false, false, false, false, false, false, false, false, false, false, false] (by kernel_rfl) rfl rfl ⟨cn0, cw0, cx⟩ (fun hHeld => ?_)
              refine take_ (i := 0) (N := some 79) (v := ?_) (a' := ?_) #[true, false, false, false, false, false, false, false, false, false, false, false] rfl rfl (by kernel_rfl) (fun _ _ _ h => h) (Or.inl ⟨by rfl, ?_⟩) hHeld ?_ ?_
              rotate_left
              · rintro w' ⟨s0, s1, s2⟩
                go_simp
                with_reducible rfl
              rotate_left
              · simp only [Act.put, List.setIfInBounds_toArray, List.set_cons_zero, List.set_cons_succ, i64_w, i32_w]
                rfl
              refine take_ (i := 1) (N := some 80) (v := ?_) (a' := ?_) #[true, true, false, false, false, false, false, false, false, false, false, false] rfl rfl (by kernel_rfl) (fun _ _ _ h => h) (Or.inl ⟨by rfl, ?_⟩) hHeld ?_ ?_
              rotate_left
              · rintro w' ⟨s0, s1, s2⟩
                go_simp
                with_reducible rfl
              rotate_left
              · simp only [Act.put, List.setIfInBounds_toArray, List.set_cons_zero, List.set_cons_succ, i64_w, i32_w]
                rfl
              refine pure_ (i := 2) (N := some 81) (v := ?_) (a' := ?_) #[true, true, true, false, false, false, false, false, false, false, false, false] rfl rfl (by kernel_rfl) (fun _ _ _ h => h) (Or.inl ⟨by rfl, ?_⟩) ?_ ?_
              rotate_left
              · intro w'
                go_simp
                with_reducible rfl
              rotate_left
              · simp only [Act.put, List.setIfInBounds_toArray, List.set_cons_zero, List.set_cons_succ, i64_w, i32_w]
                rfl
              refine pure_ (i := 3) (N := some 82) (v := ?_) (a' := ?_) #[true, true, true, true, false, false, false, false, false, false, false, false] rfl rfl (by kernel_rfl) (fun _ _ _ h => h) (Or.inl ⟨by rfl, ?_⟩) ?_ ?_
              rotate_left
              · intro w'
                go_simp
                with_reducible rfl
              rotate_left
              · simp only [Act.put, List.setIfInBounds_toArray, List.set_cons_zero, List.set_cons_succ, i64_w, i32_w]
                rfl
              refine pure_ (i := 4) (N := some 83) (v := ?_) (a' := ?_) #[true, true, true, true, true, false, false, false, false, false, false, false] rfl rfl (by kernel_rfl) (fun _ _ _ h => h) (Or.inl ⟨by rfl, ?_⟩) ?_ ?_
              rotate_left
              · intro w'
                go_simp
                with_reducible rfl
              rotate_left
              · simp only [Act.put, List.setIfInBounds_toArray, List.set_cons_zero, List.set_cons_succ, i64_w, i32_w]
                rfl
              refine pure_ (i := 5) (N := some 84) (v := undef) (a' := ?_) #[true, true, true, true, true, true, false, false, false, false, false, false] rfl rfl (by kernel_rfl) (fun _ _ _ h => h) (Or.inr ⟨by rfl, rfl⟩) ?_ ?_
              rotate_left
              · simp only [Act.put, List.setIfInBounds_toArray, List.set_cons_zero, List.set_cons_succ, i64_w, i32_w]
                rfl
              refine pure_ (i := 6) (N := some 85) (v := undef) (a' := ?_) #[true, true, true, true, true, true, true, false, false, false, false, false] rfl rfl (by kernel_rfl) (fun _ _ _ h => h) (Or.inr ⟨by rfl, rfl⟩) ?_ ?_
              rotate_left
              · simp only [Act.put, List.setIfInBounds_toArray, List.set_cons_zero, List.set_cons_succ, i64_w, i32_w]
                rfl
              refine pure_ (i := 7) (N := some 86) (v := undef) (a' := ?_) #[true, true, true, true, true, true, true, true, false, false, false, false] rfl rfl (by kernel_rfl) (fun _ _ _ h => h) (Or.inr ⟨by rfl, rfl⟩) ?_ ?_
              rotate_left
              · simp only [Act.put, List.setIfInBounds_toArray, List.set_cons_zero, List.set_cons_succ, i64_w, i32_w]
                rfl
              refine pure_ (i := 8) (N := some 87) (v := undef) (a' := ?_) #[true, true, true, true, true, true, true, true, true, false, false, false] rfl rfl (by kernel_rfl) (fun _ _ _ h => h) (Or.inr ⟨by rfl, rfl⟩) ?_ ?_
              rotate_left
              · simp only [Act.put, List.setIfInBounds_toArray, List.set_cons_zero, List.set_cons_succ, i64_w, i32_w]
                rfl
              refine pure_ (i := 9) (N := some 88) (v := undef) (a' := ?_) #[true, true, true, true, true, true, true, true, true, true, false, false] rfl rfl (by kernel_rfl) (fun _ _ _ h => h) (Or.inr ⟨by rfl, rfl⟩) ?_ ?_
              rotate_left
              · simp only [Act.put, List.setIfInBounds_toArray, List.set_cons_zero, List.set_cons_succ, i64_w, i32_w]
                rfl
              refine pure_ (i := 10) (N := some 89) (v := undef) (a' := ?_) #[true, true, true, true, true, true, true, true, true, true, true, false] rfl rfl (by kernel_rfl) (fun _ _ _ h => h) (Or.inr ⟨by rfl, rfl⟩) ?_ ?_
              rotate_left
              · simp only [Act.put, List.setIfInBounds_toArray, List.set_cons_zero, List.set_cons_succ, i64_w, i32_w]
                rfl
              refine pure_ (i := 11) (N := some 90) (v := ?_) (a' := ?_) #[true, true, true, true, true, true, true, true, true, true, true, true] rfl rfl (by kernel_rfl) (fun _ _ _ h => h) (Or.inl ⟨by rfl, ?_⟩) ?_ ?_
              rotate_left
              · intro w'
                go_simp
                with_reducible rfl
              rotate_left
              · simp only [Act.put, List.setIfInBounds_toArray, List.set_cons_zero, List.set_cons_succ, i64_w, i32_w]
                rfl
              refine done_ (by kernel_rfl) ?_
              have cbr := blk1 TIR.out.2.2.2.1
              have zbr := blkz TIR.out.2.2.2.1
              gi_wp2_with fail
              exact ⟨KFR.out, HNX.out⟩
        case doneB =>
          rintro D1 ys W hD hys ⟨hTI, hpre⟩ hKD
          rw [HSEG.out] at hys
          rw [hys] at hTI
          have TIO := Lib.hid hTI
          have DK1 := Lib.hid hKD
          have DK0 := Lib.hid (hTI.2.2.2.2.2.2.2.2.2 D0 rfl).2
          have HDD := Lib.hid (show D0 < D1 by have h1 := (hTI.2.2.2.2.2.2.2.2.2 D0 rfl).1; have h2 := HBN1.out; omega)
          have HDW := Lib.hid (Nat.le_trans hn0 hD)
          have cn0 := blk1 hTI.1
          have cw0 := blkc hTI.2.1 0
          clear hTI hpre hKD hD hys
          go_wp2_with fail
          clear cn0 cw0
          rw [rounds_succ]
          go_wp2_with fail
          have TG := Lib.hid TIO.out.2.2.2.2.2.2.1
          have ZR := Lib.hid TIO.out.2.2.2.1
          have B := Lib.hid TIO.out.2.2.2.2.2.2.2.2.1
          clear TIO
          refine (len_any TG.out).mono ?_
          rintro e w1 ⟨rfl, rfl⟩
          by_cases hful : 1048576 ≤ lt.length
          · have e1 : decide (1048576 ≤ lt.length) = true := by simpa using hful
            have e2 : ((1048576 : Int) ≤ (lt.length : Int)) = True := eq_true (by omega)
            have cbr := blk1 ZR.out
            have zbr := blkz ZR.out
            have FIN := Lib.hid (tells_end (show D0 ≠ D1 by have := HDD.out; omega) DK0.out DK1.out ZR.out B.out (show w.heap.size ≤ w.heap.size + 1 by omega) HD0W.out HDW.out)
            go_wp2_with fail
            (try simp only [Exit.inBlock, Exit.then])
            obtain ⟨f1, f2, f3, f4⟩ := FIN.out
            have f5 := blk1 f3
            exact postM_ret2 f1 f2 (by simp [results, Try.results7, go_sem, f5]) rfl ⟨rfl, f4⟩
          · have e1 : decide (1048576 ≤ lt.length) = false := by simpa using hful
            have e2 : ((1048576 : Int) ≤ (lt.length : Int)) = False := _root_.eq_false (by omega)
            have HPQ := Lib.hid (show (putL lt rQ).1 = 0 by unfold putL; rw [if_pos (by decide), if_pos (.inr (by omega))])
            clear hful
            go_wp2_with fail
            refine (tput_any (w0 := w) rQ TG.out OKL.out HG4.out B.out).mono ?_
            rintro e w6 ⟨rfl, hT6, hK6, hB6⟩
            rw [HPQ.out]
            have ngs : ∀ (k : Nat) (o : Obj), W.heap[k]? = some o → (∀ cs t, o = .cells cs t (0, 0) → t ≠ tTab) → k ≠ g := fun k o ho ht e => by
              obtain ⟨_, _, h1, _⟩ := TG.out
              rw [e, h1] at ho
              cases ho
              exact ht _ _ rfl rfl
            have ZR6 := Lib.hid (blk_kept ZR.out hK6 (ngs _ _ ZR.out (fun cs t h => by cases h; decide)))
            have DK06 := Lib.hid (blk_kept DK0.out hK6 (ngs _ _ DK0.out (fun cs t h => by cases h)))
            have DK16 := Lib.hid (blk_kept DK1.out hK6 (ngs _ _ DK1.out (fun cs t h => by cases h)))
            have cbr := blk1 ZR6.out
            have zbr := blkz ZR6.out
            have FIN := Lib.hid (tells_end (show D0 ≠ D1 by have := HDD.out; omega) DK06.out DK16.out ZR6.out hB6 (show w.heap.size ≤ w.heap.size + 1 by omega) HD0W.out HDW.out)
            clear hT6 hK6 hB6 ngs
            go_wp2_with fail
            (try simp only [Exit.inBlock, Exit.then])
            obtain ⟨f1, f2, f3, f4⟩ := FIN.out
            have f5 := blk1 f3
            exact postM_ret2 f1 f2 (by simp [results, Try.results7, go_sem, f5]) rfl ⟨rfl, f4⟩
        case stopB =>
          rintro D c pre W hD hp hf hK
          rw [HSEG.out] at hp
          exact absurd hp hf

      case stop =>
        rintro D c pre W hD hp hf hK
        rw [HSEG.out] at hp
        exact absurd hp hf

    | succ k1 =>
      have hk : k < script.length := by have := HK.out; omega
      have hu := List.getElem?_eq_getElem hk
      have hrs := HR.out script[k] (List.getElem_mem hk)
      generalize script[k] = s at *
      obtain ⟨ad, v, hA, hv, hx0, hx⟩ := at_TOp HG.out hu
      cases hA
      obtain ⟨Av, cv, ev, hvv⟩ := hv
      cases ev
      have HVV := Lib.hid hvv.2
      have hx0 := pw_cell_below (w1 := wr) B.out hx0
      have hx1 := pw_cell_below (w1 := wr) B.out (show w.cell? ⟨(ad.add (k * 11)).block, (ad.add (k * 11)).off + 1, none⟩ = some (.int .i64 s.table) from hx 1 (by omega) (by omega))
      have hx2 := pw_cell_below (w1 := wr) B.out (show w.cell? ⟨(ad.add (k * 11)).block, (ad.add (k * 11)).off + 2, none⟩ = some (.int .i64 s.to2) from hx 2 (by omega) (by omega))
      have hx3 := pw_cell_below (w1 := wr) B.out (show w.cell? ⟨(ad.add (k * 11)).block, (ad.add (k * 11)).off + 3, none⟩ = some (.string s.row.key) from hx 3 (by omega) (by omega))
      have hx4 := pw_cell_below (w1 := wr) B.out (show w.cell? ⟨(ad.add (k * 11)).block, (ad.add (k * 11)).off + 4, none⟩ = some (.string s.row.value) from hx 4 (by omega) (by omega))
      have hx5 := pw_cell_below (w1 := wr) B.out (show w.cell? ⟨(ad.add (k * 11)).block, (ad.add (k * 11)).off + 5, none⟩ = some (.int .i64 s.row.version) from hx 5 (by omega) (by omega))
      have hx6 := pw_cell_below (w1 := wr) B.out (show w.cell? ⟨(ad.add (k * 11)).block, (ad.add (k * 11)).off + 6, none⟩ = some (.string s.key) from hx 6 (by omega) (by omega))
      have hx7 := pw_cell_below (w1 := wr) B.out (show w.cell? ⟨(ad.add (k * 11)).block, (ad.add (k * 11)).off + 7, none⟩ = some (.string s.from_) from hx 7 (by omega) (by omega))
      have hx8 := pw_cell_below (w1 := wr) B.out (show w.cell? ⟨(ad.add (k * 11)).block, (ad.add (k * 11)).off + 8, none⟩ = some (.string s.upto) from hx 8 (by omega) (by omega))
      have hx9 := pw_cell_below (w1 := wr) B.out (show w.cell? ⟨(ad.add (k * 11)).block, (ad.add (k * 11)).off + 9, none⟩ = some (.slice Av s.rows.length cv) from hx 9 (by omega) (by omega))
      have hx10 := pw_cell_below (w1 := wr) B.out (show w.cell? ⟨(ad.add (k * 11)).block, (ad.add (k * 11)).off + 10, none⟩ = some (.int .i64 s.n) from hx 10 (by omega) (by omega))
      have c2 : decide (k < script.length) = true := by simpa using hk
      have p1 := eq_true (show 0 ≤ (k : Int) by omega)
      have p2 := eq_true (show k < script.length by omega)
      have ba := below_alloc (Below.refl wr.heap.size wr) (.cells #[Value.int .i64 s.call, .int .i64 s.table, .int .i64 s.to2, .string s.row.key, .string s.row.value, .int .i64 s.row.version, .string s.key, .string s.from_, .string s.upto, .slice Av s.rows.length cv, .int .i64 s.n] tOp)
      have Q5 := Lib.hid (blk_new wr (.cells #[Value.int .i64 s.call, .int .i64 s.table, .int .i64 s.to2, .string s.row.key, .string s.row.value, .int .i64 s.row.version, .string s.key, .string s.from_, .string s.upto, .slice Av s.rows.length cv, .int .i64 s.n] tOp))
      have PL5 := Lib.hid (PL.out.below ba)
      have B5 := Lib.hid (below_then B.out B.out.size ba)
      have J1 := Lib.hid (J1.out.below ba)
      have J2 := Lib.hid (J2.out.below ba)
      have ZD := Lib.hid (blk_below ZD.out ba)
      have ZW := Lib.hid (blk_below ZW.out ba)
      have ZR := Lib.hid (blk_below ZR.out ba)
      have XW := Lib.hid (XW.out.below ba)
      have HRS := Lib.hid hrs
      have HQW := Lib.hid (show w.heap.size ≤ wr.heap.size from B.out.size)
      clear hu hx PL B hvv hrs ba
      go_upto_region 14 with (fail)
      generalize wr.heap.size = q at *
      generalize (World.alloc wr _) = WA at *
      clear hx0 hx1 hx2 hx3 hx4 hx5 hx6 hx7 hx8 hx9 hx10 p1 p2
      cases hc3 : (s.call == 3) with
      | true =>
        have cp := blkc Q5.out
        have zp := blkz Q5.out
        have Q6 := Lib.hid (blk_set Q5.out 1 (.int .i64 0))
        have Q7 := Lib.hid (blk_set Q6.out 2 (.int .i64 1))
        have PL5 := Lib.hid ((PL5.out.far Q5.out (by decide) (by decide) (by decide) (by decide) HQW.out 1 (.int .i64 0)).far Q6.out (by decide) (by decide) (by decide) (by decide) HQW.out 2 (.int .i64 1))
        have B5 := Lib.hid (below_set (j := 2) (v := .int .i64 1) (below_set (j := 1) (v := .int .i64 0) B5.out HQW.out) HQW.out)
        have J1 := Lib.hid (IterR.set (IterR.set J1.out Q5.out (by decide) 1 (.int .i64 0)) Q6.out (by decide) 2 (.int .i64 1))
        have J2 := Lib.hid (IterR.set (IterR.set J2.out Q5.out (by decide) 1 (.int .i64 0)) Q6.out (by decide) 2 (.int .i64 1))
        have ZD := Lib.hid (blk_far (p := ⟨q, 2, none⟩) (blk_far (p := ⟨q, 1, none⟩) ZD.out (blk_ne ZD.out Q5.out (show tSq ≠ tOp by decide)) (.int .i64 0)) (blk_ne ZD.out Q5.out (show tSq ≠ tOp by decide)) (.int .i64 1))
        have ZW := Lib.hid (blk_far (p := ⟨q, 2, none⟩) (blk_far (p := ⟨q, 1, none⟩) ZW.out (blk_ne ZW.out Q5.out (show tRows ≠ tOp by decide)) (.int .i64 0)) (blk_ne ZW.out Q5.out (show tRows ≠ tOp by decide)) (.int .i64 1))
        have ZR := Lib.hid (blk_far (p := ⟨q, 2, none⟩) (blk_far (p := ⟨q, 1, none⟩) ZR.out (blk_ne ZR.out Q5.out (show tB ≠ tOp by decide)) (.int .i64 0)) (blk_ne ZR.out Q5.out (show tB ≠ tOp by decide)) (.int .i64 1))
        have XW := Lib.hid ((XW.out.far Q5.out (by decide) HQW.out 1 (.int .i64 0)).far Q6.out (by decide) HQW.out 2 (.int .i64 1))
        clear Q6
        go_upto_region 16 with (fail)
        clear cp zp hc3
        generalize (World.setCell (World.setCell WA _ _) _ _) = WB at *
        have cp := blkc Q7.out
        go_wp2_with fail
        clear cp Q7
        refine (change_any (w0 := w) PL5.out B5.out ({ s with table := 0, to2 := 1 }) (Av := Av) (cv := cv) HRS.out (fun W hb => Kd.C_below HVV.out hb)).mono ?_
        rintro e w6 ⟨rfl, ⟨g2, A2, c2, hPL, hgj⟩, hK, hB⟩
        have PL6 := Lib.hid hPL
        have GZ6 : Hid (g2 0 = g) := Lib.hid (by
          rcases hgj 0 (by decide) with h | ⟨h1, h2⟩
          · rw [h]; exact GZ.out
          · exact absurd h2 (by show ¬ idx 1 = 0; decide))
        have J1 := Lib.hid (IterR.sp J1.out hK)
        have J2 := Lib.hid (IterR.sp J2.out hK)
        have ZD := Lib.hid (blk_sp ZD.out hK (by decide) (by decide))
        have ZW := Lib.hid (blk_sp ZW.out hK (by decide) (by decide))
        have ZR := Lib.hid (blk_sp ZR.out hK (by decide) (by decide))
        have XW := Lib.hid (XW.out.kept hK)
        have B6 := Lib.hid hB
        clear hPL hgj hK hB PL5 B5 Q5
        go_wp2_with fail
        go_roundg k1
        case measure => exact Nat.lt_succ_self _
        case rel => exact ⟨k + 1, g2, _, A2, c2, by go_num, Lib.hid (by have := HK.out; omega), PL6, GZ6, J1, J2, ZD, ZW, ZR, XW, B6⟩
      | false =>
        have HC3 := Lib.hid (show s.call ≠ 3 by simpa using hc3)
        have cp := blkc Q5.out
        go_wp2_with fail
        clear cp hc3
        refine (change_any (w0 := w) PL5.out B5.out (s) (Av := Av) (cv := cv) HRS.out (fun W hb => Kd.C_below HVV.out hb)).mono ?_
        rintro e w6 ⟨rfl, ⟨g2, A2, c2, hPL, hgj⟩, hK, hB⟩
        have PL6 := Lib.hid hPL
        have GZ6 : Hid (g2 0 = g) := Lib.hid (by
          rcases hgj 0 (by decide) with h | ⟨h1, h2⟩
          · rw [h]; exact GZ.out
          · exact absurd h1 HC3.out)
        have J1 := Lib.hid (IterR.sp J1.out hK)
        have J2 := Lib.hid (IterR.sp J2.out hK)
        have ZD := Lib.hid (blk_sp ZD.out hK (by decide) (by decide))
        have ZW := Lib.hid (blk_sp ZW.out hK (by decide) (by decide))
        have ZR := Lib.hid (blk_sp ZR.out hK (by decide) (by decide))
        have XW := Lib.hid (XW.out.kept hK)
        have B6 := Lib.hid hB
        clear hPL hgj hK hB PL5 B5 Q5
        go_wp2_with fail
        go_roundg k1
        case measure => exact Nat.lt_succ_self _
        case rel => exact ⟨k + 1, g2, _, A2, c2, by go_num, Lib.hid (by have := HK.out; omega), PL6, GZ6, J1, J2, ZD, ZW, ZR, XW, B6⟩

end Go.Proofs.Ytjpalkggmefpfaa.Tells
namespace Go.Proofs.Ytjpalkggmefpfaa.Walk
open Go.RowKit Go.Proofs.Ytjpalkggmefpfaa.Opn Go.Proofs.Ytjpalkggmefpfaa.Tab Go.Proofs.YtjpalkggmefpfaaW.PrintWords
theorem TableTells (rows : List Row) (A : Option Addr) (n : Nat) (x : RangeT) (cs : List Value) (l2 : List TStep) (A2 : Option Addr) (n2 : Nat) (W : World) (hl : rows.length ≤ n) (hC : kR.C W A rows.length rows) (hm : rows.length ≤ 9223372036854775807) (hq : ∀ a ∈ rows, pR a) (hr : rows.length * Try.prog.bytesOf 25 ≤ 140737488351232) (hc : kRange.K W x cs) (hp : pRange x) (hl2 : l2.length ≤ n2) (hC2 : kTOp.C W A2 l2.length l2) (hm2 : l2.length ≤ 9223372036854775807) (hq2 : ∀ a ∈ l2, pTOp a) (hr2 : l2.length * Try.prog.bytesOf 47 ≤ 140737488351232) (hi2 : ∀ s, s ∈ l2 → s.rows.length ≤ 3518437208780) :
    Calls Try.prog 7 #[.slice A rows.length n, .agg cs.toArray, .slice A2 l2.length n2] W fun e W' => e = .returned (.bool true) ∧ Below W.heap.size W W' := by
  have hb : Try.prog.bytesOf 47 = 144 := by kernel_rfl
  have hb1 : Try.prog.bytesOf 25 = 40 := by kernel_rfl
  obtain ⟨_, _, rfl, rfl, rfl⟩ := hc
  rw [hb] at hr2
  rw [hb1] at hr
  by_cases hz : listErr rows = 0
  · exact Tells.tells_ok x.1 x.2 l2 A2 n2 W hl (by omega) hC hz hl2 (by omega) hC2 hi2
  · exact Tells.tells_no x.1 x.2 l2 A2 n2 W hl (by omega) hC hz
end Go.Proofs.Ytjpalkggmefpfaa.Walk
