/- Three tables and the document's lists; one call that changes them. -/
import Derived.Test.YtjpalkggmefpfaaTabRef2
import Derived.Test.YtjpalkggmefpfaaTabSnap
import Derived.Test.YtjpalkggmefpfaaWAt
import Derived.Test.YtjpalkggmefpfaaWFootNe
set_option linter.unusedVariables false
set_option linter.unusedSimpArgs false
namespace Go.Proofs.Ytjpalkggmefpfaa.Tab
open Go.RowKit Go.Proofs.Ytjpalkggmefpfaa.Mem Go.Proofs.YtjpalkggmefpfaaW.PrintWords Go.Proofs.YtjpalkggmefpfaaW.PrintLast Go.Deep Go.Proofs.Ytjpalkggmefpfaa.Opn
attribute [local go_sem ↓] execOp_call_tmp
attribute [local go_sem] callVal_func
abbrev tPl : TypeId := 59
def idx (i : Int) : Nat := if i < 0 ∨ 2 < i then 0 else i.toNat
theorem idx_lt (i : Int) : idx i < 3 := by unfold idx; split <;> omega
theorem index_any (i : Int) (w : World) : Calls Try.prog 51 #[.int .i64 i] w fun e w' => e = .returned (.int .i64 (idx i : Nat)) ∧ w = w' := by
  by_cases h1 : i < 0
  · have d1 : decide (i < 0) = true := by simpa using h1
    have HE := Lib.hid (show idx i = 0 by unfold idx; rw [if_pos (.inl h1)])
    go_enter Try.func51, Try.ntmps51
    go_wp2
    go_ret
    exact ⟨by rw [HE.out]; rfl, rfl⟩
  · have d1 : decide (i < 0) = false := by simpa using h1
    by_cases h2 : 2 < i
    · have d2 : decide (2 < i) = true := by simpa using h2
      have HE := Lib.hid (show idx i = 0 by unfold idx; rw [if_pos (.inr h2)])
      go_enter Try.func51, Try.ntmps51
      go_wp2
      go_ret
      exact ⟨by rw [HE.out]; rfl, rfl⟩
    · have d2 : decide (2 < i) = false := by simpa using h2
      have HE := Lib.hid (show ((idx i : Nat) : Int) = i by unfold idx; rw [if_neg (by omega)]; omega)
      go_enter Try.func51, Try.ntmps51
      go_wp2
      go_ret
      exact ⟨by rw [HE.out]; rfl, rfl⟩
def upd {α : Type} (f : Nat → α) (i : Nat) (x : α) : Nat → α := fun j => if j = i then x else f j
theorem upd_same {α : Type} (f : Nat → α) (i : Nat) (x : α) : upd f i x i = x := by unfold upd; rw [if_pos rfl]
theorem upd_other {α : Type} (f : Nat → α) {i j : Nat} (x : α) (h : j ≠ i) : upd f i x j = f j := by unfold upd; rw [if_neg h]
/-- The three tables at block b, and the document's lists. -/
structure PlayR (n0 : Nat) (w : World) (b : Nat) (g : Nat → Nat) (l : Nat → List Row) (A : Nat → Option Addr) (c : Nat → Nat) : Prop where
  blk : ∃ cs : Array Value, w.heap[b]? = some (.cells cs tPl (0, 0)) ∧ cs.size = 6 ∧ ∀ i, i < 3 → cs[i]? = some (.pointer (some ⟨g i, 0, none⟩)) ∧ cs[3 + i]? = some (.slice (A i) (l i).length (c i))
  tab : ∀ i, i < 3 → TabR w (g i) (l i)
  ok : ∀ i, i < 3 → LOk (l i)
  xr : ∀ i, i < 3 → XR n0 w (A i) (c i) (l i)
  ge : ∀ i, i < 3 → n0 ≤ g i
  ne : ∀ i j, i < 3 → j < 3 → i ≠ j → g i ≠ g j
  hb : n0 ≤ b
theorem cell_of {w : World} {b : Nat} {cs : Array Value} {t : TypeId} (h : w.heap[b]? = some (.cells cs t (0, 0))) (j : Nat) : w.cell? ⟨b, j, none⟩ = cs[j]? := by simp [World.cell?, h]
theorem PlayR.cellT {n0 : Nat} {w : World} {b : Nat} {g : Nat → Nat} {l : Nat → List Row} {A : Nat → Option Addr} {c : Nat → Nat} (h : PlayR n0 w b g l A c) {i : Nat} (hi : i < 3) : w.cell? ⟨b, i, none⟩ = some (.pointer (some ⟨g i, 0, none⟩)) := by
  obtain ⟨cs, h1, _, h3⟩ := h.blk
  rw [cell_of h1]
  exact (h3 i hi).1
theorem PlayR.cellX {n0 : Nat} {w : World} {b : Nat} {g : Nat → Nat} {l : Nat → List Row} {A : Nat → Option Addr} {c : Nat → Nat} (h : PlayR n0 w b g l A c) {i : Nat} (hi : i < 3) : w.cell? ⟨b, 3 + i, none⟩ = some (.slice (A i) (l i).length (c i)) := by
  obtain ⟨cs, h1, _, h3⟩ := h.blk
  rw [cell_of h1]
  exact (h3 i hi).2
theorem PlayR.below {n0 : Nat} {w w1 : World} {b : Nat} {g : Nat → Nat} {l : Nat → List Row} {A : Nat → Option Addr} {c : Nat → Nat} (h : PlayR n0 w b g l A c) (hb : Below w.heap.size w w1) : PlayR n0 w1 b g l A c := by
  obtain ⟨cs, h1, h2⟩ := h.blk
  exact ⟨⟨cs, blk_below h1 hb, h2⟩, fun i hi => (h.tab i hi).below hb, h.ok, fun i hi => (h.xr i hi).below hb, h.ge, h.ne, h.hb⟩
/-- What such a call may change. -/
def SP (n0 : Nat) (w : World) (k : Nat) : Prop := n0 ≤ k ∧ ∃ cs t, w.heap[k]? = some (.cells cs t (0, 0)) ∧ (t = tTab ∨ t = tPl)
theorem SP.then_ {n0 : Nat} {w w1 w2 : World} (h1 : Kept w w1 (SP n0 w)) (h2 : Kept w1 w2 (SP n0 w1)) : Kept w w2 (SP n0 w) := by
  refine h1.then_ h2 (fun k hk => ?_)
  by_cases hlt : k < w.heap.size
  · by_cases hs : SP n0 w k
    · exact .inl hs
    · have e := h1.2 k hlt hs
      obtain ⟨hn, cs, t, hc, ht⟩ := hk
      exact absurd ⟨hn, cs, t, by rw [← e]; exact hc, ht⟩ hs
  · exact .inr (by omega)
theorem SP.of_tab {n0 : Nat} {w w1 : World} {g : Nat} {l : List Row} (h : TabR w g l) (hg : n0 ≤ g) (hk : Kept w w1 (fun k => k = g)) : Kept w w1 (SP n0 w) := by
  obtain ⟨t, root, h1, _⟩ := h
  exact ⟨hk.1, fun k hlt hs => hk.2 k hlt (fun e => hs (by have e2 : k = g := e; subst e2; exact ⟨hg, _, _, h1, .inl rfl⟩))⟩
theorem XR.kept {n0 : Nat} {w w1 : World} {A : Option Addr} {c : Nat} {l : List Row} (h : XR n0 w A c l) (hk : Kept w w1 (SP n0 w)) : XR n0 w1 A c l := by
  have hne : ∀ ad, A = some ad → 0 < l.length → ¬ SP n0 w ad.block := fun ad ha hn hs => by
    obtain ⟨hs1, cs, t, hc, ht⟩ := hs
    rcases h.2.2 ad ha hn with h1 | ⟨cs2, h1⟩
    · omega
    · rw [h1] at hc
      cases hc
      rcases ht with ht | ht <;> exact absurd ht (by decide)
  refine ⟨Kd.C_foot_neS (S := SP n0 w) ?_ h.1 hne w1 hk, h.2.1, fun ad ha hn => (h.2.2 ad ha hn).imp id (fun ⟨cs, hc⟩ => ⟨cs, blk_kept hc hk (hne ad ha hn)⟩)⟩
  intro W W' x cs hx
  rw [kR_cells hx]
  exact kR.K_of_M (kR_M W' 0 (fun _ => True) x)
theorem PlayR.tabbed {n0 : Nat} {w w1 : World} {b : Nat} {g : Nat → Nat} {l : Nat → List Row} {A : Nat → Option Addr} {c : Nat → Nat} (h : PlayR n0 w b g l A c) {i : Nat} (hi : i < 3) (hk : Kept w w1 (fun k => k = g i)) : w1.heap.size ≥ w.heap.size ∧ (∃ cs : Array Value, w1.heap[b]? = some (.cells cs tPl (0, 0)) ∧ cs.size = 6 ∧ ∀ i, i < 3 → cs[i]? = some (.pointer (some ⟨g i, 0, none⟩)) ∧ cs[3 + i]? = some (.slice (A i) (l i).length (c i))) ∧ (∀ j, j < 3 → j ≠ i → TabR w1 (g j) (l j)) ∧ (∀ j, j < 3 → XR n0 w1 (A j) (c j) (l j)) ∧ Kept w w1 (SP n0 w) := by
  have hs := SP.of_tab (h.tab i hi) (h.ge i hi) hk
  obtain ⟨cs, h1, h2⟩ := h.blk
  refine ⟨hk.1, ⟨cs, blk_kept h1 hk (fun e => ?_), h2⟩, fun j hj hji => (h.tab j hj).kept (h.tab i hi) (h.ne j i hj hi hji) hk, fun j hj => (h.xr j hj).kept hs, hs⟩
  have e2 : b = g i := e
  obtain ⟨t, root, h3, _⟩ := h.tab i hi
  rw [← e2, h1] at h3
  cases h3

def PB (w : World) (b : Nat) (g : Nat → Nat) (l : Nat → List Row) (A : Nat → Option Addr) (c : Nat → Nat) : Prop := ∃ cs : Array Value, w.heap[b]? = some (.cells cs tPl (0, 0)) ∧ cs.size = 6 ∧ ∀ i, i < 3 → cs[i]? = some (.pointer (some ⟨g i, 0, none⟩)) ∧ cs[3 + i]? = some (.slice (A i) (l i).length (c i))
theorem PB.setX {w : World} {b : Nat} {g : Nat → Nat} {l : Nat → List Row} {A : Nat → Option Addr} {c : Nat → Nat} (h : PB w b g l A c) {i : Nat} (hi : i < 3) (l' : List Row) (A' : Option Addr) (c' : Nat) : PB (w.setCell ⟨b, 3 + i, none⟩ (.slice A' l'.length c')) b g (upd l i l') (upd A i A') (upd c i c') := by
  obtain ⟨cs, h1, h2, h3⟩ := h
  refine ⟨_, blk_set h1 (3 + i) _, by simpa using h2, fun j hj => ⟨?_, ?_⟩⟩
  · simp only [Array.set!_eq_setIfInBounds, Array.getElem?_setIfInBounds]
    rw [if_neg (by omega)]
    exact (h3 j hj).1
  · simp only [Array.set!_eq_setIfInBounds, Array.getElem?_setIfInBounds]
    by_cases hji : j = i
    · subst hji
      rw [if_pos rfl, if_pos (by omega), upd_same, upd_same, upd_same]
    · rw [if_neg (by omega), upd_other _ _ hji, upd_other _ _ hji, upd_other _ _ hji]
      exact (h3 j hj).2
theorem PB.setT {w : World} {b : Nat} {g : Nat → Nat} {l : Nat → List Row} {A : Nat → Option Addr} {c : Nat → Nat} (h : PB w b g l A c) {i : Nat} (hi : i < 3) (g' : Nat) : PB (w.setCell ⟨b, i, none⟩ (.pointer (some ⟨g', 0, none⟩))) b (upd g i g') l A c := by
  obtain ⟨cs, h1, h2, h3⟩ := h
  refine ⟨_, blk_set h1 i _, by simpa using h2, fun j hj => ⟨?_, ?_⟩⟩
  · simp only [Array.set!_eq_setIfInBounds, Array.getElem?_setIfInBounds]
    by_cases hji : j = i
    · subst hji
      rw [if_pos rfl, if_pos (by omega), upd_same]
    · rw [if_neg (by omega), upd_other _ _ hji]
      exact (h3 j hj).1
  · simp only [Array.set!_eq_setIfInBounds, Array.getElem?_setIfInBounds]
    rw [if_neg (by omega)]
    exact (h3 j hj).2
theorem PB.below {w w1 : World} {b : Nat} {g : Nat → Nat} {l : Nat → List Row} {A : Nat → Option Addr} {c : Nat → Nat} (h : PB w b g l A c) (hb : Below w.heap.size w w1) : PB w1 b g l A c := by
  obtain ⟨cs, h1, h2⟩ := h
  exact ⟨cs, blk_below h1 hb, h2⟩
theorem PB.cellT {w : World} {b : Nat} {g : Nat → Nat} {l : Nat → List Row} {A : Nat → Option Addr} {c : Nat → Nat} (h : PB w b g l A c) {i : Nat} (hi : i < 3) : w.cell? ⟨b, i, none⟩ = some (.pointer (some ⟨g i, 0, none⟩)) := by
  obtain ⟨cs, h1, _, h3⟩ := h
  rw [cell_of h1]
  exact (h3 i hi).1
theorem PB.cellX {w : World} {b : Nat} {g : Nat → Nat} {l : Nat → List Row} {A : Nat → Option Addr} {c : Nat → Nat} (h : PB w b g l A c) {i : Nat} (hi : i < 3) : w.cell? ⟨b, 3 + i, none⟩ = some (.slice (A i) (l i).length (c i)) := by
  obtain ⟨cs, h1, _, h3⟩ := h
  rw [cell_of h1]
  exact (h3 i hi).2
theorem PB.frozen {w : World} {b : Nat} {g : Nat → Nat} {l : Nat → List Row} {A : Nat → Option Addr} {c : Nat → Nat} (h : PB w b g l A c) (j : Nat) : w.frozen? ⟨b, j, none⟩ = false := by
  obtain ⟨cs, h1, _⟩ := h
  exact blkz h1 j
theorem SP.set {n0 : Nat} {w : World} {b : Nat} {cs : Array Value} (h : w.heap[b]? = some (.cells cs tPl (0, 0))) (hb : n0 ≤ b) (j : Nat) (v : Value) : Kept w (w.setCell ⟨b, j, none⟩ v) (SP n0 w) :=
  ⟨by simp, fun k _ hs => Below.heap_setCell w ⟨b, j, none⟩ _ k (fun e => hs (by have e2 : k = b := e; subst e2; exact ⟨hb, cs, tPl, h, .inr rfl⟩))⟩
theorem TabR.setP {w : World} {g b j : Nat} {l : List Row} {v : Value} {cs : Array Value} (h : TabR w g l) (hb : w.heap[b]? = some (.cells cs tPl (0, 0))) : TabR (w.setCell ⟨b, j, none⟩ v) g l := by
  obtain ⟨t, root, h1, h2, h3⟩ := h
  exact ⟨t, root, blk_far (p := ⟨b, j, none⟩) h1 (blk_ne h1 hb (show tTab ≠ tPl by decide)) v, h2.set hb (show tN ≠ tPl by decide), h3⟩
/-- Behind the store of a list. -/
theorem play_setX {n0 : Nat} {w w1 : World} {b : Nat} {g : Nat → Nat} {l : Nat → List Row} {A : Nat → Option Addr} {c : Nat → Nat} {i : Nat} (hi : i < 3) {l' : List Row} {A' : Option Addr} {c' : Nat}
    (hB : PB w1 b g l A c) (hT : TabR w1 (g i) l') (hTs : ∀ j, j < 3 → j ≠ i → TabR w1 (g j) (l j)) (hok : ∀ j, j < 3 → LOk (l j)) (hok' : LOk l') (hX : XR n0 w1 A' c' l') (hXs : ∀ j, j < 3 → j ≠ i → XR n0 w1 (A j) (c j) (l j)) (hge : ∀ i, i < 3 → n0 ≤ g i) (hne : ∀ i j, i < 3 → j < 3 → i ≠ j → g i ≠ g j) (hb : n0 ≤ b) (hk : Kept w w1 (SP n0 w)) :
    PlayR n0 (w1.setCell ⟨b, 3 + i, none⟩ (.slice A' l'.length c')) b g (upd l i l') (upd A i A') (upd c i c') ∧ Kept w (w1.setCell ⟨b, 3 + i, none⟩ (.slice A' l'.length c')) (SP n0 w) := by
  obtain ⟨cs, hc, _⟩ := id hB
  have hs := SP.set (n0 := n0) hc hb (3 + i) (.slice A' l'.length c')
  refine ⟨⟨hB.setX hi l' A' c', fun j hj => ?_, fun j hj => ?_, fun j hj => ?_, hge, hne, hb⟩, SP.then_ hk hs⟩
  · by_cases hji : j = i
    · subst hji
      rw [upd_same]
      exact hT.setP hc
    · rw [upd_other _ _ hji]
      exact (hTs j hj hji).setP hc
  · by_cases hji : j = i
    · subst hji
      rw [upd_same]
      exact hok'
    · rw [upd_other _ _ hji]
      exact hok j hj
  · by_cases hji : j = i
    · subst hji
      rw [upd_same, upd_same, upd_same]
      exact hX.kept hs
    · rw [upd_other _ _ hji, upd_other _ _ hji, upd_other _ _ hji]
      exact (hXs j hj hji).kept hs
theorem change_done {w0 w wd w4 w6 : World} {b : Nat} {g : Nat → Nat} {l : Nat → List Row} {A : Nat → Option Addr} {c : Nat → Nat} {i : Nat} (hi : i < 3) {l' : List Row} {A' : Option Addr} {c' : Nat} (hK : Kept w wd (SP w0.heap.size w)) (PD : PlayR w0.heap.size wd b g l A c) (hK4 : Kept wd w4 (fun k => k = g i)) (T4 : TabR w4 (g i) l') (OK : LOk l') (BB : Below w4.heap.size w4 w6) (X6 : XR w0.heap.size w6 A' c' l') (B6 : Below w0.heap.size w0 w6) :
    PlayR w0.heap.size (w6.setCell ⟨b, 3 + i, none⟩ (.slice A' l'.length c')) b g (upd l i l') (upd A i A') (upd c i c') ∧ Kept w (w6.setCell ⟨b, 3 + i, none⟩ (.slice A' l'.length c')) (SP w0.heap.size w) ∧ Below w0.heap.size w0 (w6.setCell ⟨b, 3 + i, none⟩ (.slice A' l'.length c')) := by
  obtain ⟨_, h2, h3, h4, h5⟩ := PD.tabbed hi hK4
  have hP := play_setX (n0 := w0.heap.size) (w := w) hi (PB.below h2 BB) (T4.below BB) (fun j hj hji => (h3 j hj hji).below BB) PD.ok OK X6 (fun j hj _ => (h4 j hj).below BB) PD.ge PD.ne PD.hb ((SP.then_ hK h5).below BB)
  exact ⟨hP.1, hP.2, below_set B6 PD.hb⟩
/-- What a call comes to. -/
def changeP (l : Nat → List Row) (s : TStep) : Nat → List Row :=
  if s.call = 0 then upd l (idx s.table) (putL (l (idx s.table)) s.row).2 else if s.call = 1 then upd l (idx s.table) (without s.key (l (idx s.table))) else if s.call = 2 then upd l (idx s.table) (replL (l (idx s.table)) s.from_ s.upto s.rows).2 else if s.call = 3 then upd l (idx s.to2) (l (idx s.table)) else l
def ChangePost (w0 w w' : World) (b : Nat) (g : Nat → Nat) (s : TStep) (l' : Nat → List Row) (e : Ending) : Prop := e = .returned (.bool true) ∧ (∃ g' A' c', PlayR w0.heap.size w' b g' l' A' c' ∧ ∀ j, j < 3 → g' j = g j ∨ (s.call = 3 ∧ idx s.to2 = j)) ∧ Kept w w' (SP w0.heap.size w) ∧ Below w0.heap.size w0 w'

set_option maxHeartbeats 12800000 in
set_option maxRecDepth 100000 in
theorem change_put {w w0 : World} {b : Nat} {g : Nat → Nat} {l : Nat → List Row} {A : Nat → Option Addr} {c : Nat → Nat} (h : PlayR w0.heap.size w b g l A c) (HB : Below w0.heap.size w0 w) (s : TStep) (hs : s.call = 0) {Av : Option Addr} {cv : Nat} :
    Calls Try.prog 28 #[.pointer (some ⟨b, 0, none⟩), .agg #[Value.int .i64 s.call, .int .i64 s.table, .int .i64 s.to2, .string s.row.key, .string s.row.value, .int .i64 s.row.version, .string s.key, .string s.from_, .string s.upto, .slice Av s.rows.length cv, .int .i64 s.n]] w fun e w' => ChangePost w0 w w' b g s (upd l (idx s.table) (putL (l (idx s.table)) s.row).2) e := by
  have hi := idx_lt s.table
  have ba := below_alloc (Below.refl w.heap.size w) (.cells #[Value.int .i64 s.call, .int .i64 s.table, .int .i64 s.to2, .string s.row.key, .string s.row.value, .int .i64 s.row.version, .string s.key, .string s.from_, .string s.upto, .slice Av s.rows.length cv, .int .i64 s.n] tOp)
  have Q0 := Lib.hid (blk_new w (.cells #[Value.int .i64 s.call, .int .i64 s.table, .int .i64 s.to2, .string s.row.key, .string s.row.value, .int .i64 s.row.version, .string s.key, .string s.from_, .string s.upto, .slice Av s.rows.length cv, .int .i64 s.n] tOp))
  have PL := Lib.hid (h.below ba)
  have B0 := Lib.hid (below_then HB HB.size ba)
  have K0 := Lib.hid (Kept.of_below ba (SP w0.heap.size w))
  clear h HB ba
  have d0 : (s.call == 0) = true := by simpa using hs
  clear hs
  have cq := blkc Q0.out
  go_enter Try.func28, Try.ntmps28
  go_wp2_with fail
  generalize (World.alloc w _) = W0 at *
  generalize w.heap.size = q at *
  clear cq
  refine (index_any s.table W0).mono ?_
  rintro e w1 ⟨rfl, rfl⟩
  obtain ⟨i, hidx⟩ : ∃ i, idx s.table = i := ⟨_, rfl⟩
  rw [hidx] at hi ⊢
  have HIX := Lib.hid hidx
  clear hidx
  have cq := blkc Q0.out
  go_wp2_with fail
  clear cq d0
  have p0 := eq_true (show 0 ≤ (i : Int) by omega)
  have p3 := eq_true (show (i : Int) < 3 by omega)
  have p4 := eq_true (show i < 3 by omega)
  obtain ⟨X, hX⟩ : ∃ X, putL (l i) s.row = X := ⟨_, rfl⟩
  have HPX := Lib.hid hX
  have OKX := Lib.hid (show LOk X.2 by rw [← hX]; exact (PL.out.ok i hi).putL s.row)
  clear hX
  have hqg : q ≠ g i := fun e => by
    obtain ⟨t, root, h3, _⟩ := PL.out.tab i hi
    have h4 := Q0.out
    rw [e, h3] at h4
    cases h4
  have PD := Lib.hid (PL.out.below (below_drew (Below.refl _ _)))
  have QD := Lib.hid (blk_drew Q0.out)
  have BD := Lib.hid B0.out.drew
  have KD := Lib.hid K0.out.drew
  refine start_ (n := 10) (S := fun w' => w'.cell? ⟨b, i, none⟩ = some (.pointer (some ⟨g i, 0, none⟩)) ∧ (∀ o, w'.cell? ⟨q, o, none⟩ = #[Value.int .i64 s.call, .int .i64 s.table, .int .i64 s.to2, .string s.row.key, .string s.row.value, .int .i64 s.row.version, .string s.key, .string s.from_, .string s.upto, .slice Av s.rows.length cv, .int .i64 s.n][o]?)) (ds := [8]) #[false, false, false, false, false, false, false, false, false, false] (by kernel_rfl) rfl rfl ⟨(PL.out.cellT hi), (blkc Q0.out)⟩ (fun hHeld => ?_)
  refine pure_ (i := 0) (N := some 27) (v := ?_) (a' := ?_) #[true, false, false, false, false, false, false, false, false, false] rfl rfl (by kernel_rfl) (fun _ _ _ h => h) (Or.inl ⟨by rfl, ?_⟩) ?_ ?_
  rotate_left
  · intro w'
    go_simp
    with_reducible rfl
  rotate_left
  · simp only [Act.put, List.setIfInBounds_toArray, List.set_cons_zero, List.set_cons_succ, i64_w, i32_w]
    rfl
  refine pure_ (i := 1) (N := some 28) (v := ?_) (a' := ?_) #[true, true, false, false, false, false, false, false, false, false] rfl rfl (by kernel_rfl) (fun _ _ _ h => h) (Or.inl ⟨by rfl, ?_⟩) ?_ ?_
  rotate_left
  · intro w'
    go_simp
    with_reducible rfl
  rotate_left
  · simp only [Act.put, List.setIfInBounds_toArray, List.set_cons_zero, List.set_cons_succ, i64_w, i32_w]
    rfl
  refine pure_ (i := 2) (N := some 29) (v := ?_) (a' := ?_) #[true, true, true, false, false, false, false, false, false, false] rfl rfl (by kernel_rfl) (fun _ _ _ h => h) (Or.inl ⟨by rfl, ?_⟩) ?_ ?_
  rotate_left
  · intro w'
    go_simp
    with_reducible rfl
  rotate_left
  · simp only [Act.put, List.setIfInBounds_toArray, List.set_cons_zero, List.set_cons_succ, i64_w, i32_w]
    rfl
  refine pure_ (i := 3) (N := some 30) (v := ?_) (a' := ?_) #[true, true, true, true, false, false, false, false, false, false] rfl rfl (by kernel_rfl) (fun _ _ _ h => h) (Or.inl ⟨by rfl, ?_⟩) ?_ ?_
  rotate_left
  · intro w'
    go_simp
    with_reducible rfl
  rotate_left
  · simp only [Act.put, List.setIfInBounds_toArray, List.set_cons_zero, List.set_cons_succ, i64_w, i32_w]
    rfl
  refine pure_ (i := 4) (N := some 31) (v := ?_) (a' := ?_) #[true, true, true, true, true, false, false, false, false, false] rfl rfl (by kernel_rfl) (fun _ _ _ h => h) (Or.inl ⟨by rfl, ?_⟩) ?_ ?_
  rotate_left
  · intro w'
    go_simp
    with_reducible rfl
  rotate_left
  · simp only [Act.put, List.setIfInBounds_toArray, List.set_cons_zero, List.set_cons_succ, i64_w, i32_w]
    rfl
  refine pure_ (i := 6) (N := some 33) (v := ?_) (a' := ?_) #[true, true, true, true, true, false, true, false, false, false] rfl rfl (by kernel_rfl) (fun _ _ _ h => h) (Or.inl ⟨by rfl, ?_⟩) ?_ ?_
  rotate_left
  · intro w'
    go_simp
    with_reducible rfl
  rotate_left
  · simp only [Act.put, List.setIfInBounds_toArray, List.set_cons_zero, List.set_cons_succ, i64_w, i32_w]
    rfl
  refine take_ (i := 5) (N := some 32) (v := ?_) (a' := ?_) #[true, true, true, true, true, true, true, false, false, false] rfl rfl (by kernel_rfl) (fun _ _ _ h => h) (Or.inl ⟨by rfl, ?_⟩) hHeld ?_ ?_
  rotate_left
  · rintro w' ⟨s0, s1⟩
    go_simp
    with_reducible rfl
  rotate_left
  · simp only [Act.put, List.setIfInBounds_toArray, List.set_cons_zero, List.set_cons_succ, i64_w, i32_w]
    rfl
  refine take_ (i := 7) (N := some 34) (v := ?_) (a' := ?_) #[true, true, true, true, true, true, true, true, false, false] rfl rfl (by kernel_rfl) (fun _ _ _ h => h) (Or.inl ⟨by rfl, ?_⟩) hHeld ?_ ?_
  rotate_left
  · rintro w' ⟨s0, s1⟩
    go_simp
    with_reducible rfl
  rotate_left
  · simp only [Act.put, List.setIfInBounds_toArray, List.set_cons_zero, List.set_cons_succ, i64_w, i32_w]
    rfl
  refine last_ (i := 8) (N := some 35) #[true, true, true, true, true, true, true, true, true, false] rfl rfl (by kernel_rfl) (by decide) (fun K hK => ?_)
  refine goes_ Try.func22 (by kernel_rfl) rfl #[.pointer (some ⟨g i, 0, none⟩), s.row.val] (by rfl) rfl rfl (by simp only [List.map_toArray, List.map_cons, List.map_nil]; rfl) ?_
  with_reducible refine (tput_any (w0 := w0) s.row (PD.out.tab i hi) (PD.out.ok i hi) (PD.out.ge i hi) BD.out).mono ?_
  rintro e w4 ⟨rfl, hT4, hK4, hB4⟩
  refine ⟨_, rfl, ?_⟩
  rw [HPX.out] at hT4
  rw [HPX.out]
  have HTB := Lib.hid (PD.out.tabbed hi hK4)
  have Q4 := Lib.hid (blk_kept QD.out hK4 hqg)
  have T4 := Lib.hid hT4
  have B4 := Lib.hid hB4
  have hK4 := Lib.hid hK4
  clear hT4 hB4
  refine hK.out _ _ ?_
  clear hK K
  refine norm_ (a' := ?_) ?_ ?_
  rotate_left
  · show Act.put _ (some 35) _ = _
    simp only [Act.put, List.setIfInBounds_toArray, List.set_cons_zero, List.set_cons_succ, i64_w, i32_w]
    rfl
  refine pure_ (i := 9) (N := some 6) (v := ?_) (a' := ?_) #[true, true, true, true, true, true, true, true, true, true] rfl rfl (by kernel_rfl) (fun _ _ _ h => h) (Or.inl ⟨by rfl, ?_⟩) ?_ ?_
  rotate_left
  · intro w'
    go_simp
    with_reducible rfl
  rotate_left
  · simp only [Act.put, List.setIfInBounds_toArray, List.set_cons_zero, List.set_cons_succ, i64_w, i32_w]
    rfl
  refine done_ (by kernel_rfl) ?_
  have PB4 := Lib.hid (show PB w4 b g l A c from HTB.out.2.1)
  have cq := blkc Q4.out
  go_wp2_with fail
  clear cq
  have B5 := Lib.hid B4.out.drew
  have BW5 := below_drew (Below.refl w4.heap.size w4)
  have X5 := Lib.hid (XR.below (HTB.out.2.2.2.1 i hi) BW5)
  have T5 := Lib.hid (T4.out.below BW5)
  refine start_ (n := 14) (S := fun w' => w'.cell? ⟨b, 3 + i, none⟩ = some (.slice (A i) (l i).length (c i)) ∧ (∀ o, w'.cell? ⟨q, o, none⟩ = #[Value.int .i64 s.call, .int .i64 s.table, .int .i64 s.to2, .string s.row.key, .string s.row.value, .int .i64 s.row.version, .string s.key, .string s.from_, .string s.upto, .slice Av s.rows.length cv, .int .i64 s.n][o]?)) (ds := [8]) #[false, false, false, false, false, false, false, false, false, false, false, false, false, false] (by kernel_rfl) rfl rfl ⟨(PB4.out.cellX hi), (blkc Q4.out)⟩ (fun hHeld => ?_)
  refine pure_ (i := 0) (N := some 37) (v := ?_) (a' := ?_) #[true, false, false, false, false, false, false, false, false, false, false, false, false, false] rfl rfl (by kernel_rfl) (fun _ _ _ h => h) (Or.inl ⟨by rfl, ?_⟩) ?_ ?_
  rotate_left
  · intro w'
    go_simp
    with_reducible rfl
  rotate_left
  · simp only [Act.put, List.setIfInBounds_toArray, List.set_cons_zero, List.set_cons_succ, i64_w, i32_w]
    rfl
  refine pure_ (i := 1) (N := some 38) (v := ?_) (a' := ?_) #[true, true, false, false, false, false, false, false, false, false, false, false, false, false] rfl rfl (by kernel_rfl) (fun _ _ _ h => h) (Or.inl ⟨by rfl, ?_⟩) ?_ ?_
  rotate_left
  · intro w'
    go_simp
    with_reducible rfl
  rotate_left
  · simp only [Act.put, List.setIfInBounds_toArray, List.set_cons_zero, List.set_cons_succ, i64_w, i32_w]
    rfl
  refine pure_ (i := 2) (N := some 39) (v := ?_) (a' := ?_) #[true, true, true, false, false, false, false, false, false, false, false, false, false, false] rfl rfl (by kernel_rfl) (fun _ _ _ h => h) (Or.inl ⟨by rfl, ?_⟩) ?_ ?_
  rotate_left
  · intro w'
    go_simp
    with_reducible rfl
  rotate_left
  · simp only [Act.put, List.setIfInBounds_toArray, List.set_cons_zero, List.set_cons_succ, i64_w, i32_w]
    rfl
  refine pure_ (i := 3) (N := some 40) (v := ?_) (a' := ?_) #[true, true, true, true, false, false, false, false, false, false, false, false, false, false] rfl rfl (by kernel_rfl) (fun _ _ _ h => h) (Or.inl ⟨by rfl, ?_⟩) ?_ ?_
  rotate_left
  · intro w'
    go_simp
    with_reducible rfl
  rotate_left
  · simp only [Act.put, List.setIfInBounds_toArray, List.set_cons_zero, List.set_cons_succ, i64_w, i32_w]
    rfl
  refine pure_ (i := 4) (N := some 41) (v := ?_) (a' := ?_) #[true, true, true, true, true, false, false, false, false, false, false, false, false, false] rfl rfl (by kernel_rfl) (fun _ _ _ h => h) (Or.inl ⟨by rfl, ?_⟩) ?_ ?_
  rotate_left
  · intro w'
    go_simp
    with_reducible rfl
  rotate_left
  · simp only [Act.put, List.setIfInBounds_toArray, List.set_cons_zero, List.set_cons_succ, i64_w, i32_w]
    rfl
  refine pure_ (i := 6) (N := some 43) (v := ?_) (a' := ?_) #[true, true, true, true, true, false, true, false, false, false, false, false, false, false] rfl rfl (by kernel_rfl) (fun _ _ _ h => h) (Or.inl ⟨by rfl, ?_⟩) ?_ ?_
  rotate_left
  · intro w'
    go_simp
    with_reducible rfl
  rotate_left
  · simp only [Act.put, List.setIfInBounds_toArray, List.set_cons_zero, List.set_cons_succ, i64_w, i32_w]
    rfl
  refine take_ (i := 5) (N := some 42) (v := ?_) (a' := ?_) #[true, true, true, true, true, true, true, false, false, false, false, false, false, false] rfl rfl (by kernel_rfl) (fun _ _ _ h => h) (Or.inl ⟨by rfl, ?_⟩) hHeld ?_ ?_
  rotate_left
  · rintro w' ⟨s0, s1⟩
    go_simp
    with_reducible rfl
  rotate_left
  · simp only [Act.put, List.setIfInBounds_toArray, List.set_cons_zero, List.set_cons_succ, i64_w, i32_w]
    rfl
  refine take_ (i := 7) (N := some 44) (v := ?_) (a' := ?_) #[true, true, true, true, true, true, true, true, false, false, false, false, false, false] rfl rfl (by kernel_rfl) (fun _ _ _ h => h) (Or.inl ⟨by rfl, ?_⟩) hHeld ?_ ?_
  rotate_left
  · rintro w' ⟨s0, s1⟩
    go_simp
    with_reducible rfl
  rotate_left
  · simp only [Act.put, List.setIfInBounds_toArray, List.set_cons_zero, List.set_cons_succ, i64_w, i32_w]
    rfl
  refine last_ (i := 8) (N := some 45) #[true, true, true, true, true, true, true, true, true, false, false, false, false, false] rfl rfl (by kernel_rfl) (by decide) (fun K hK => ?_)
  refine goes_ Try.func37 (by kernel_rfl) rfl #[.slice (A i) (l i).length (c i), s.row.val] (by rfl) rfl rfl (by simp only [List.map_toArray, List.map_cons, List.map_nil]; rfl) ?_
  with_reducible refine (rput_any X5.out (PD.out.ok i hi) s.row).mono ?_
  rintro e w6 ⟨A6, c6, rfl, hX6, hb6⟩
  refine ⟨_, rfl, ?_⟩
  rw [HPX.out] at hX6
  rw [HPX.out]
  have X6 := Lib.hid hX6
  have BW6 := Lib.hid hb6
  clear hX6 hb6
  refine hK.out _ _ ?_
  clear hK K
  refine norm_ (a' := ?_) ?_ ?_
  rotate_left
  · show Act.put _ (some 45) _ = _
    simp only [Act.put, List.setIfInBounds_toArray, List.set_cons_zero, List.set_cons_succ, i64_w, i32_w]
    rfl
  refine pure_ (i := 9) (N := some 36) (v := ?_) (a' := ?_) #[true, true, true, true, true, true, true, true, true, true, false, false, false, false] rfl rfl (by kernel_rfl) (fun _ _ _ h => h) (Or.inl ⟨by rfl, ?_⟩) ?_ ?_
  rotate_left
  · intro w'
    go_simp
    with_reducible rfl
  rotate_left
  · simp only [Act.put, List.setIfInBounds_toArray, List.set_cons_zero, List.set_cons_succ, i64_w, i32_w]
    rfl
  refine pure_ (i := 10) (N := some 46) (v := ?_) (a' := ?_) #[true, true, true, true, true, true, true, true, true, true, true, false, false, false] rfl rfl (by kernel_rfl) (fun _ _ _ h => h) (Or.inl ⟨by rfl, ?_⟩) ?_ ?_
  rotate_left
  · intro w'
    go_simp
    with_reducible rfl
  rotate_left
  · simp only [Act.put, List.setIfInBounds_toArray, List.set_cons_zero, List.set_cons_succ, i64_w, i32_w]
    rfl
  refine pure_ (i := 11) (N := some 47) (v := ?_) (a' := ?_) #[true, true, true, true, true, true, true, true, true, true, true, true, false, false] rfl rfl (by kernel_rfl) (fun _ _ _ h => h) (Or.inl ⟨by rfl, ?_⟩) ?_ ?_
  rotate_left
  · intro w'
    go_simp
    with_reducible rfl
  rotate_left
  · simp only [Act.put, List.setIfInBounds_toArray, List.set_cons_zero, List.set_cons_succ, i64_w, i32_w]
    rfl
  refine pure_ (i := 12) (N := some 7) (v := ?_) (a' := ?_) #[true, true, true, true, true, true, true, true, true, true, true, true, true, false] rfl rfl (by kernel_rfl) (fun _ _ _ h => h) (Or.inl ⟨by rfl, ?_⟩) ?_ ?_
  rotate_left
  · intro w'
    go_simp
    with_reducible rfl
  rotate_left
  · simp only [Act.put, List.setIfInBounds_toArray, List.set_cons_zero, List.set_cons_succ, i64_w, i32_w]
    rfl
  refine pure_ (i := 13) (N := some 8) (v := ?_) (a' := ?_) #[true, true, true, true, true, true, true, true, true, true, true, true, true, true] rfl rfl (by kernel_rfl) (fun _ _ _ h => h) (Or.inl ⟨by rfl, ?_⟩) ?_ ?_
  rotate_left
  · intro w'
    go_simp
    with_reducible rfl
  rotate_left
  · simp only [Act.put, List.setIfInBounds_toArray, List.set_cons_zero, List.set_cons_succ, i64_w, i32_w]
    rfl
  refine done_ (by kernel_rfl) ?_
  have PB6 := Lib.hid ((PB4.out.below BW5).below BW6.out)
  have zp := PB6.out.frozen
  have cp := PB6.out.cellX hi
  have hxx : (X.1 == X.1) = true := by simp
  have FIN := Lib.hid (change_done hi KD.out PD.out hK4.out T4.out OKX.out (below_then BW5 BW5.size BW6.out) X6.out (below_then B5.out B5.out.size BW6.out))
  go_wp2_with fail
  go_ret
  rw [HIX.out, HPX.out]
  exact ⟨rfl, ⟨_, _, _, FIN.out.1, fun _ _ => .inl rfl⟩, FIN.out.2.1, FIN.out.2.2⟩

set_option maxHeartbeats 12800000 in
set_option maxRecDepth 100000 in
theorem change_del {w w0 : World} {b : Nat} {g : Nat → Nat} {l : Nat → List Row} {A : Nat → Option Addr} {c : Nat → Nat} (h : PlayR w0.heap.size w b g l A c) (HB : Below w0.heap.size w0 w) (s : TStep) (hs : s.call = 1) {Av : Option Addr} {cv : Nat} :
    Calls Try.prog 28 #[.pointer (some ⟨b, 0, none⟩), .agg #[Value.int .i64 s.call, .int .i64 s.table, .int .i64 s.to2, .string s.row.key, .string s.row.value, .int .i64 s.row.version, .string s.key, .string s.from_, .string s.upto, .slice Av s.rows.length cv, .int .i64 s.n]] w fun e w' => ChangePost w0 w w' b g s (upd l (idx s.table) (without s.key (l (idx s.table)))) e := by
  have hi := idx_lt s.table
  have ba := below_alloc (Below.refl w.heap.size w) (.cells #[Value.int .i64 s.call, .int .i64 s.table, .int .i64 s.to2, .string s.row.key, .string s.row.value, .int .i64 s.row.version, .string s.key, .string s.from_, .string s.upto, .slice Av s.rows.length cv, .int .i64 s.n] tOp)
  have Q0 := Lib.hid (blk_new w (.cells #[Value.int .i64 s.call, .int .i64 s.table, .int .i64 s.to2, .string s.row.key, .string s.row.value, .int .i64 s.row.version, .string s.key, .string s.from_, .string s.upto, .slice Av s.rows.length cv, .int .i64 s.n] tOp))
  have PL := Lib.hid (h.below ba)
  have B0 := Lib.hid (below_then HB HB.size ba)
  have K0 := Lib.hid (Kept.of_below ba (SP w0.heap.size w))
  clear h HB ba
  have d0 : (s.call == 0) = false := by simp [hs]
  have d1 : (s.call == 1) = true := by simpa using hs
  clear hs
  have cq := blkc Q0.out
  go_enter Try.func28, Try.ntmps28
  go_wp2_with fail
  generalize (World.alloc w _) = W0 at *
  generalize w.heap.size = q at *
  clear cq
  refine (index_any s.table W0).mono ?_
  rintro e w1 ⟨rfl, rfl⟩
  obtain ⟨i, hidx⟩ : ∃ i, idx s.table = i := ⟨_, rfl⟩
  rw [hidx] at hi ⊢
  have HIX := Lib.hid hidx
  clear hidx
  have cq := blkc Q0.out
  go_wp2_with fail
  clear cq d0 d1
  have p0 := eq_true (show 0 ≤ (i : Int) by omega)
  have p3 := eq_true (show (i : Int) < 3 by omega)
  have p4 := eq_true (show i < 3 by omega)
  obtain ⟨X, hX⟩ : ∃ X, without s.key (l i) = X := ⟨_, rfl⟩
  obtain ⟨F, hF⟩ : ∃ F, (find (l i) s.key).isSome = F := ⟨_, rfl⟩
  have HPX := Lib.hid hX
  have HPF := Lib.hid hF
  have OKX := Lib.hid (show LOk X by rw [← hX]; exact (PL.out.ok i hi).without s.key)
  clear hX hF
  have hqg : q ≠ g i := fun e => by
    obtain ⟨t, root, h3, _⟩ := PL.out.tab i hi
    have h4 := Q0.out
    rw [e, h3] at h4
    cases h4
  have PD := Lib.hid (PL.out.below (below_drew (Below.refl _ _)))
  have QD := Lib.hid (blk_drew Q0.out)
  have BD := Lib.hid B0.out.drew
  have KD := Lib.hid K0.out.drew
  refine start_ (n := 10) (S := fun w' => w'.cell? ⟨b, i, none⟩ = some (.pointer (some ⟨g i, 0, none⟩)) ∧ (∀ o, w'.cell? ⟨q, o, none⟩ = #[Value.int .i64 s.call, .int .i64 s.table, .int .i64 s.to2, .string s.row.key, .string s.row.value, .int .i64 s.row.version, .string s.key, .string s.from_, .string s.upto, .slice Av s.rows.length cv, .int .i64 s.n][o]?)) (ds := [8]) #[false, false, false, false, false, false, false, false, false, false] (by kernel_rfl) rfl rfl ⟨(PL.out.cellT hi), (blkc Q0.out)⟩ (fun hHeld => ?_)
  refine pure_ (i := 0) (N := some 59) (v := ?_) (a' := ?_) #[true, false, false, false, false, false, false, false, false, false] rfl rfl (by kernel_rfl) (fun _ _ _ h => h) (Or.inl ⟨by rfl, ?_⟩) ?_ ?_
  rotate_left
  · intro w'
    go_simp
    with_reducible rfl
  rotate_left
  · simp only [Act.put, List.setIfInBounds_toArray, List.set_cons_zero, List.set_cons_succ, i64_w, i32_w]
    rfl
  refine pure_ (i := 1) (N := some 60) (v := ?_) (a' := ?_) #[true, true, false, false, false, false, false, false, false, false] rfl rfl (by kernel_rfl) (fun _ _ _ h => h) (Or.inl ⟨by rfl, ?_⟩) ?_ ?_
  rotate_left
  · intro w'
    go_simp
    with_reducible rfl
  rotate_left
  · simp only [Act.put, List.setIfInBounds_toArray, List.set_cons_zero, List.set_cons_succ, i64_w, i32_w]
    rfl
  refine pure_ (i := 2) (N := some 61) (v := ?_) (a' := ?_) #[true, true, true, false, false, false, false, false, false, false] rfl rfl (by kernel_rfl) (fun _ _ _ h => h) (Or.inl ⟨by rfl, ?_⟩) ?_ ?_
  rotate_left
  · intro w'
    go_simp
    with_reducible rfl
  rotate_left
  · simp only [Act.put, List.setIfInBounds_toArray, List.set_cons_zero, List.set_cons_succ, i64_w, i32_w]
    rfl
  refine pure_ (i := 3) (N := some 62) (v := ?_) (a' := ?_) #[true, true, true, true, false, false, false, false, false, false] rfl rfl (by kernel_rfl) (fun _ _ _ h => h) (Or.inl ⟨by rfl, ?_⟩) ?_ ?_
  rotate_left
  · intro w'
    go_simp
    with_reducible rfl
  rotate_left
  · simp only [Act.put, List.setIfInBounds_toArray, List.set_cons_zero, List.set_cons_succ, i64_w, i32_w]
    rfl
  refine pure_ (i := 4) (N := some 63) (v := ?_) (a' := ?_) #[true, true, true, true, true, false, false, false, false, false] rfl rfl (by kernel_rfl) (fun _ _ _ h => h) (Or.inl ⟨by rfl, ?_⟩) ?_ ?_
  rotate_left
  · intro w'
    go_simp
    with_reducible rfl
  rotate_left
  · simp only [Act.put, List.setIfInBounds_toArray, List.set_cons_zero, List.set_cons_succ, i64_w, i32_w]
    rfl
  refine pure_ (i := 6) (N := some 65) (v := ?_) (a' := ?_) #[true, true, true, true, true, false, true, false, false, false] rfl rfl (by kernel_rfl) (fun _ _ _ h => h) (Or.inl ⟨by rfl, ?_⟩) ?_ ?_
  rotate_left
  · intro w'
    go_simp
    with_reducible rfl
  rotate_left
  · simp only [Act.put, List.setIfInBounds_toArray, List.set_cons_zero, List.set_cons_succ, i64_w, i32_w]
    rfl
  refine take_ (i := 5) (N := some 64) (v := ?_) (a' := ?_) #[true, true, true, true, true, true, true, false, false, false] rfl rfl (by kernel_rfl) (fun _ _ _ h => h) (Or.inl ⟨by rfl, ?_⟩) hHeld ?_ ?_
  rotate_left
  · rintro w' ⟨s0, s1⟩
    go_simp
    with_reducible rfl
  rotate_left
  · simp only [Act.put, List.setIfInBounds_toArray, List.set_cons_zero, List.set_cons_succ, i64_w, i32_w]
    rfl
  refine take_ (i := 7) (N := some 66) (v := ?_) (a' := ?_) #[true, true, true, true, true, true, true, true, false, false] rfl rfl (by kernel_rfl) (fun _ _ _ h => h) (Or.inl ⟨by rfl, ?_⟩) hHeld ?_ ?_
  rotate_left
  · rintro w' ⟨s0, s1⟩
    go_simp
    with_reducible rfl
  rotate_left
  · simp only [Act.put, List.setIfInBounds_toArray, List.set_cons_zero, List.set_cons_succ, i64_w, i32_w]
    rfl
  refine last_ (i := 8) (N := some 67) #[true, true, true, true, true, true, true, true, true, false] rfl rfl (by kernel_rfl) (by decide) (fun K hK => ?_)
  refine goes_ Try.func23 (by kernel_rfl) rfl #[.pointer (some ⟨g i, 0, none⟩), .string s.key] (by rfl) rfl rfl (by simp only [List.map_toArray, List.map_cons, List.map_nil]; rfl) ?_
  with_reducible refine (tdel_any (w0 := w0) s.key (PD.out.tab i hi) (PD.out.ok i hi) (PD.out.ge i hi) BD.out).mono ?_
  rintro e w4 ⟨rfl, hT4, hK4, hB4⟩
  refine ⟨_, rfl, ?_⟩
  rw [HPX.out] at hT4
  rw [HPF.out]
  have HTB := Lib.hid (PD.out.tabbed hi hK4)
  have Q4 := Lib.hid (blk_kept QD.out hK4 hqg)
  have T4 := Lib.hid hT4
  have B4 := Lib.hid hB4
  have hK4 := Lib.hid hK4
  clear hT4 hB4
  refine hK.out _ _ ?_
  clear hK K
  refine norm_ (a' := ?_) ?_ ?_
  rotate_left
  · show Act.put _ (some 67) _ = _
    simp only [Act.put, List.setIfInBounds_toArray, List.set_cons_zero, List.set_cons_succ, i64_w, i32_w]
    rfl
  refine pure_ (i := 9) (N := some 9) (v := ?_) (a' := ?_) #[true, true, true, true, true, true, true, true, true, true] rfl rfl (by kernel_rfl) (fun _ _ _ h => h) (Or.inl ⟨by rfl, ?_⟩) ?_ ?_
  rotate_left
  · intro w'
    go_simp
    with_reducible rfl
  rotate_left
  · simp only [Act.put, List.setIfInBounds_toArray, List.set_cons_zero, List.set_cons_succ, i64_w, i32_w]
    rfl
  refine done_ (by kernel_rfl) ?_
  have PB4 := Lib.hid (show PB w4 b g l A c from HTB.out.2.1)
  have cq := blkc Q4.out
  go_wp2_with fail
  clear cq
  have B5 := Lib.hid B4.out.drew
  have BW5 := below_drew (Below.refl w4.heap.size w4)
  have X5 := Lib.hid (XR.below (HTB.out.2.2.2.1 i hi) BW5)
  have T5 := Lib.hid (T4.out.below BW5)
  refine start_ (n := 14) (S := fun w' => w'.cell? ⟨b, 3 + i, none⟩ = some (.slice (A i) (l i).length (c i)) ∧ (∀ o, w'.cell? ⟨q, o, none⟩ = #[Value.int .i64 s.call, .int .i64 s.table, .int .i64 s.to2, .string s.row.key, .string s.row.value, .int .i64 s.row.version, .string s.key, .string s.from_, .string s.upto, .slice Av s.rows.length cv, .int .i64 s.n][o]?)) (ds := [8]) #[false, false, false, false, false, false, false, false, false, false, false, false, false, false] (by kernel_rfl) rfl rfl ⟨(PB4.out.cellX hi), (blkc Q4.out)⟩ (fun hHeld => ?_)
  refine pure_ (i := 0) (N := some 69) (v := ?_) (a' := ?_) #[true, false, false, false, false, false, false, false, false, false, false, false, false, false] rfl rfl (by kernel_rfl) (fun _ _ _ h => h) (Or.inl ⟨by rfl, ?_⟩) ?_ ?_
  rotate_left
  · intro w'
    go_simp
    with_reducible rfl
  rotate_left
  · simp only [Act.put, List.setIfInBounds_toArray, List.set_cons_zero, List.set_cons_succ, i64_w, i32_w]
    rfl
  refine pure_ (i := 1) (N := some 70) (v := ?_) (a' := ?_) #[true, true, false, false, false, false, false, false, false, false, false, false, false, false] rfl rfl (by kernel_rfl) (fun _ _ _ h => h) (Or.inl ⟨by rfl, ?_⟩) ?_ ?_
  rotate_left
  · intro w'
    go_simp
    with_reducible rfl
  rotate_left
  · simp only [Act.put, List.setIfInBounds_toArray, List.set_cons_zero, List.set_cons_succ, i64_w, i32_w]
    rfl
  refine pure_ (i := 2) (N := some 71) (v := ?_) (a' := ?_) #[true, true, true, false, false, false, false, false, false, false, false, false, false, false] rfl rfl (by kernel_rfl) (fun _ _ _ h => h) (Or.inl ⟨by rfl, ?_⟩) ?_ ?_
  rotate_left
  · intro w'
    go_simp
    with_reducible rfl
  rotate_left
  · simp only [Act.put, List.setIfInBounds_toArray, List.set_cons_zero, List.set_cons_succ, i64_w, i32_w]
    rfl
  refine pure_ (i := 3) (N := some 72) (v := ?_) (a' := ?_) #[true, true, true, true, false, false, false, false, false, false, false, false, false, false] rfl rfl (by kernel_rfl) (fun _ _ _ h => h) (Or.inl ⟨by rfl, ?_⟩) ?_ ?_
  rotate_left
  · intro w'
    go_simp
    with_reducible rfl
  rotate_left
  · simp only [Act.put, List.setIfInBounds_toArray, List.set_cons_zero, List.set_cons_succ, i64_w, i32_w]
    rfl
  refine pure_ (i := 4) (N := some 73) (v := ?_) (a' := ?_) #[true, true, true, true, true, false, false, false, false, false, false, false, false, false] rfl rfl (by kernel_rfl) (fun _ _ _ h => h) (Or.inl ⟨by rfl, ?_⟩) ?_ ?_
  rotate_left
  · intro w'
    go_simp
    with_reducible rfl
  rotate_left
  · simp only [Act.put, List.setIfInBounds_toArray, List.set_cons_zero, List.set_cons_succ, i64_w, i32_w]
    rfl
  refine pure_ (i := 6) (N := some 75) (v := ?_) (a' := ?_) #[true, true, true, true, true, false, true, false, false, false, false, false, false, false] rfl rfl (by kernel_rfl) (fun _ _ _ h => h) (Or.inl ⟨by rfl, ?_⟩) ?_ ?_
  rotate_left
  · intro w'
    go_simp
    with_reducible rfl
  rotate_left
  · simp only [Act.put, List.setIfInBounds_toArray, List.set_cons_zero, List.set_cons_succ, i64_w, i32_w]
    rfl
  refine take_ (i := 5) (N := some 74) (v := ?_) (a' := ?_) #[true, true, true, true, true, true, true, false, false, false, false, false, false, false] rfl rfl (by kernel_rfl) (fun _ _ _ h => h) (Or.inl ⟨by rfl, ?_⟩) hHeld ?_ ?_
  rotate_left
  · rintro w' ⟨s0, s1⟩
    go_simp
    with_reducible rfl
  rotate_left
  · simp only [Act.put, List.setIfInBounds_toArray, List.set_cons_zero, List.set_cons_succ, i64_w, i32_w]
    rfl
  refine take_ (i := 7) (N := some 76) (v := ?_) (a' := ?_) #[true, true, true, true, true, true, true, true, false, false, false, false, false, false] rfl rfl (by kernel_rfl) (fun _ _ _ h => h) (Or.inl ⟨by rfl, ?_⟩) hHeld ?_ ?_
  rotate_left
  · rintro w' ⟨s0, s1⟩
    go_simp
    with_reducible rfl
  rotate_left
  · simp only [Act.put, List.setIfInBounds_toArray, List.set_cons_zero, List.set_cons_succ, i64_w, i32_w]
    rfl
  refine last_ (i := 8) (N := some 77) #[true, true, true, true, true, true, true, true, true, false, false, false, false, false] rfl rfl (by kernel_rfl) (by decide) (fun K hK => ?_)
  refine goes_ Try.func52 (by kernel_rfl) rfl #[.slice (A i) (l i).length (c i), .string s.key] (by rfl) rfl rfl (by simp only [List.map_toArray, List.map_cons, List.map_nil]; rfl) ?_
  with_reducible refine (rdel_any X5.out (PD.out.ok i hi) s.key).mono ?_
  rintro e w6 ⟨A6, c6, rfl, hX6, hb6⟩
  refine ⟨_, rfl, ?_⟩
  rw [HPX.out] at hX6
  rw [HPX.out, HPF.out]
  have X6 := Lib.hid hX6
  have BW6 := Lib.hid hb6
  clear hX6 hb6
  refine hK.out _ _ ?_
  clear hK K
  refine norm_ (a' := ?_) ?_ ?_
  rotate_left
  · show Act.put _ (some 77) _ = _
    simp only [Act.put, List.setIfInBounds_toArray, List.set_cons_zero, List.set_cons_succ, i64_w, i32_w]
    rfl
  refine pure_ (i := 9) (N := some 68) (v := ?_) (a' := ?_) #[true, true, true, true, true, true, true, true, true, true, false, false, false, false] rfl rfl (by kernel_rfl) (fun _ _ _ h => h) (Or.inl ⟨by rfl, ?_⟩) ?_ ?_
  rotate_left
  · intro w'
    go_simp
    with_reducible rfl
  rotate_left
  · simp only [Act.put, List.setIfInBounds_toArray, List.set_cons_zero, List.set_cons_succ, i64_w, i32_w]
    rfl
  refine pure_ (i := 10) (N := some 78) (v := ?_) (a' := ?_) #[true, true, true, true, true, true, true, true, true, true, true, false, false, false] rfl rfl (by kernel_rfl) (fun _ _ _ h => h) (Or.inl ⟨by rfl, ?_⟩) ?_ ?_
  rotate_left
  · intro w'
    go_simp
    with_reducible rfl
  rotate_left
  · simp only [Act.put, List.setIfInBounds_toArray, List.set_cons_zero, List.set_cons_succ, i64_w, i32_w]
    rfl
  refine pure_ (i := 11) (N := some 79) (v := ?_) (a' := ?_) #[true, true, true, true, true, true, true, true, true, true, true, true, false, false] rfl rfl (by kernel_rfl) (fun _ _ _ h => h) (Or.inl ⟨by rfl, ?_⟩) ?_ ?_
  rotate_left
  · intro w'
    go_simp
    with_reducible rfl
  rotate_left
  · simp only [Act.put, List.setIfInBounds_toArray, List.set_cons_zero, List.set_cons_succ, i64_w, i32_w]
    rfl
  refine pure_ (i := 12) (N := some 10) (v := ?_) (a' := ?_) #[true, true, true, true, true, true, true, true, true, true, true, true, true, false] rfl rfl (by kernel_rfl) (fun _ _ _ h => h) (Or.inl ⟨by rfl, ?_⟩) ?_ ?_
  rotate_left
  · intro w'
    go_simp
    with_reducible rfl
  rotate_left
  · simp only [Act.put, List.setIfInBounds_toArray, List.set_cons_zero, List.set_cons_succ, i64_w, i32_w]
    rfl
  refine pure_ (i := 13) (N := some 11) (v := ?_) (a' := ?_) #[true, true, true, true, true, true, true, true, true, true, true, true, true, true] rfl rfl (by kernel_rfl) (fun _ _ _ h => h) (Or.inl ⟨by rfl, ?_⟩) ?_ ?_
  rotate_left
  · intro w'
    go_simp
    with_reducible rfl
  rotate_left
  · simp only [Act.put, List.setIfInBounds_toArray, List.set_cons_zero, List.set_cons_succ, i64_w, i32_w]
    rfl
  refine done_ (by kernel_rfl) ?_
  have PB6 := Lib.hid ((PB4.out.below BW5).below BW6.out)
  have zp := PB6.out.frozen
  have cp := PB6.out.cellX hi
  have hxx : (F == F) = true := by simp
  have FIN := Lib.hid (change_done hi KD.out PD.out hK4.out T4.out OKX.out (below_then BW5 BW5.size BW6.out) X6.out (below_then B5.out B5.out.size BW6.out))
  go_wp2_with fail
  go_ret
  rw [HIX.out, HPX.out]
  exact ⟨rfl, ⟨_, _, _, FIN.out.1, fun _ _ => .inl rfl⟩, FIN.out.2.1, FIN.out.2.2⟩

theorem C_part {w : World} {A : Option Addr} {l ys : List Row} (h : kR.C w A (l ++ ys).length (l ++ ys)) : kR.C w A l.length l := by
  have h2 := Kd.C_take h (m := l.length) (by rw [List.length_append]; omega)
  rwa [List.take_left] at h2
theorem row_kept {n0 v : Nat} {w w1 : World} {cs : Array Value} (h : w.heap[v]? = some (.cells cs tRow (0, 0))) (hk : Kept w w1 (SP n0 w)) : w1.heap[v]? = some (.cells cs tRow (0, 0)) :=
  blk_kept h hk (fun ⟨_, cs2, t, hc, ht⟩ => by
    rw [h] at hc
    cases hc
    rcases ht with ht | ht <;> exact absurd ht (by decide))
theorem op_kept {n0 v : Nat} {w w1 : World} {cs : Array Value} (h : w.heap[v]? = some (.cells cs tOp (0, 0))) (hk : Kept w w1 (SP n0 w)) : w1.heap[v]? = some (.cells cs tOp (0, 0)) :=
  blk_kept h hk (fun ⟨_, cs2, t, hc, ht⟩ => by
    rw [h] at hc
    cases hc
    rcases ht with ht | ht <;> exact absurd ht (by decide))
theorem XR.lt {n0 : Nat} {w : World} {A : Option Addr} {c : Nat} {l : List Row} (h : XR n0 w A c l) : ∀ ad, A = some ad → 0 < l.length → ad.block < w.heap.size := fun ad ha hn => by
  subst ha
  exact Kd.C_lt h.1 hn (by decide)
theorem PlayR.setRow {n0 : Nat} {w : World} {b v : Nat} {g : Nat → Nat} {l : Nat → List Row} {A : Nat → Option Addr} {c : Nat → Nat} {cs : Array Value} (h : PlayR n0 w b g l A c) (hv : w.heap[v]? = some (.cells cs tRow (0, 0))) (hn : ∀ j, j < 3 → ∀ ad, A j = some ad → 0 < (l j).length → ad.block ≠ v) (k : Nat) (x : Value) : PlayR n0 (w.setCell ⟨v, k, none⟩ x) b g l A c := by
  obtain ⟨cs0, h1, h2⟩ := h.blk
  refine ⟨⟨cs0, blk_far (p := ⟨v, k, none⟩) h1 (blk_ne h1 hv (show tPl ≠ tRow by decide)) x, h2⟩, fun j hj => (h.tab j hj).set_row hv, h.ok, fun j hj => ?_, h.ge, h.ne, h.hb⟩
  have hx := h.xr j hj
  refine ⟨Kd.C_foot_neS (S := fun k => k = v) ?_ hx.1 (hn j hj) _ ⟨by simp, fun i _ hi => Below.heap_setCell w ⟨v, k, none⟩ _ i hi⟩, hx.2.1, fun ad ha hp => (hx.2.2 ad ha hp).imp id (fun ⟨cs2, hc⟩ => ⟨cs2, blk_far (p := ⟨v, k, none⟩) hc (hn j hj ad ha hp) x⟩)⟩
  intro W W' y cy hy
  rw [kR_cells hy]
  exact kR.K_of_M (kR_M W' 0 (fun _ => True) y)
theorem PlayR.setRow3 {n0 : Nat} {w : World} {b v : Nat} {g : Nat → Nat} {l : Nat → List Row} {A : Nat → Option Addr} {c : Nat → Nat} {cs : Array Value} (h : PlayR n0 w b g l A c) (hv : w.heap[v]? = some (.cells cs tRow (0, 0))) (hn : ∀ j, j < 3 → ∀ ad, A j = some ad → 0 < (l j).length → ad.block ≠ v) (k : Nat) (x y z : Value) : PlayR n0 (((w.setCell ⟨v, k, none⟩ x).setCell ⟨v, k + 1, none⟩ y).setCell ⟨v, k + 2, none⟩ z) b g l A c :=
  ((h.setRow hv hn k x).setRow (blk_set hv k x) hn (k + 1) y).setRow (blk_set (blk_set hv k x) (k + 1) y) hn (k + 2) z
set_option maxHeartbeats 12800000 in
set_option maxRecDepth 100000 in
theorem change_rep {w w0 : World} {b : Nat} {g : Nat → Nat} {l : Nat → List Row} {A : Nat → Option Addr} {c : Nat → Nat} (h : PlayR w0.heap.size w b g l A c) (HB : Below w0.heap.size w0 w) (s : TStep) (hs : s.call = 2) {Av : Option Addr} {cv : Nat} (hbig : s.rows.length ≤ 3518437208780) (hC : ∀ W, Below w0.heap.size w0 W → kR.C W Av s.rows.length s.rows) :
    Calls Try.prog 28 #[.pointer (some ⟨b, 0, none⟩), .agg #[Value.int .i64 s.call, .int .i64 s.table, .int .i64 s.to2, .string s.row.key, .string s.row.value, .int .i64 s.row.version, .string s.key, .string s.from_, .string s.upto, .slice Av s.rows.length cv, .int .i64 s.n]] w fun e w' => ChangePost w0 w w' b g s (upd l (idx s.table) (replL (l (idx s.table)) s.from_ s.upto s.rows).2) e := by
  have hi := idx_lt s.table
  have ba := below_alloc (Below.refl w.heap.size w) (.cells #[Value.int .i64 s.call, .int .i64 s.table, .int .i64 s.to2, .string s.row.key, .string s.row.value, .int .i64 s.row.version, .string s.key, .string s.from_, .string s.upto, .slice Av s.rows.length cv, .int .i64 s.n] tOp)
  have Q0 := Lib.hid (blk_new w (.cells #[Value.int .i64 s.call, .int .i64 s.table, .int .i64 s.to2, .string s.row.key, .string s.row.value, .int .i64 s.row.version, .string s.key, .string s.from_, .string s.upto, .slice Av s.rows.length cv, .int .i64 s.n] tOp))
  have PL := Lib.hid (h.below ba)
  have B0 := Lib.hid (below_then HB HB.size ba)
  have K0 := Lib.hid (Kept.of_below ba (SP w0.heap.size w))
  have HWS := Lib.hid HB.size
  have HCC := Lib.hid hC
  have HBIG := Lib.hid hbig
  have hww : w.heap.size ≤ (w.alloc (.cells #[Value.int .i64 s.call, .int .i64 s.table, .int .i64 s.to2, .string s.row.key, .string s.row.value, .int .i64 s.row.version, .string s.key, .string s.from_, .string s.upto, .slice Av s.rows.length cv, .int .i64 s.n] tOp)).heap.size := by simp
  clear h HB ba hC
  have d0 : (s.call == 0) = false := by simp [hs]
  have d1 : (s.call == 1) = false := by simp [hs]
  have d2 : (s.call == 2) = true := by simpa using hs
  clear hs
  have cq := blkc Q0.out
  go_enter Try.func28, Try.ntmps28
  go_wp2_with fail
  generalize (World.alloc w _) = W0 at *
  obtain ⟨q, hq⟩ : ∃ q, w.heap.size = q := ⟨_, rfl⟩
  have HQ := Lib.hid hq
  rw [hq] at Q0 cq ⊢
  clear cq hq
  refine (index_any s.table W0).mono ?_
  rintro e w1 ⟨rfl, rfl⟩
  obtain ⟨i, hidx⟩ : ∃ i, idx s.table = i := ⟨_, rfl⟩
  rw [hidx] at hi ⊢
  have HIX := Lib.hid hidx
  clear hidx
  have cq := blkc Q0.out
  go_wp2_with fail
  clear cq d0 d1 d2
  refine (lend_any (HCC.out W0 B0.out) hbig).mono ?_
  rintro e w1 ⟨v, cap, hR, rfl, hcap, hb1⟩
  obtain ⟨cs1, hv1, hcs1, _, hbv⟩ := own_blk hR (by omega)
  have e2 : (s.rows ++ [sp7, sp8]).length = s.rows.length + 2 := by simp
  have V1 := Lib.hid hv1
  have HCS1 := Lib.hid hcs1
  have HCP := Lib.hid hcap
  have HBV := Lib.hid hbv
  have XA := Lib.hid (show XR w0.heap.size w1 (some ⟨v, 0, none⟩) cap (s.rows ++ [sp7, sp8]) from XR.of_own (by rw [e2]; exact hR))
  have B1 := Lib.hid (below_then B0.out B0.out.size hb1)
  have K1 := Lib.hid (K0.out.below hb1)
  have PL1 := Lib.hid (PL.out.below hb1)
  have Q1 := Lib.hid (blk_below Q0.out hb1)
  have HOLD := Lib.hid (fun j (hj : j < 3) => (PL.out.xr j hj).lt)
  clear hR hv1 hcs1 hcap hb1 B0 K0 PL Q0 e2 hbv
  have cq := blkc Q1.out
  go_wp2_with fail
  clear cq
  have p0 := eq_true (show 0 ≤ (i : Int) by omega)
  have p3 := eq_true (show (i : Int) < 3 by omega)
  have p4 := eq_true (show i < 3 by omega)
  obtain ⟨X, hX⟩ : ∃ X, replL (l i) s.from_ s.upto s.rows = X := ⟨_, rfl⟩
  have HPX := Lib.hid hX
  have OKX := Lib.hid (show LOk X.2 by rw [← hX]; exact LOk.replL (PL1.out.ok i hi) _ _ _)
  clear hX
  have hqg : q ≠ g i := fun e => by
    obtain ⟨t, root, h3, _⟩ := PL1.out.tab i hi
    have h4 := Q1.out
    rw [e, h3] at h4
    cases h4
  have PD := Lib.hid (PL1.out.below (below_drew (Below.refl _ _)))
  have QD := Lib.hid (blk_drew Q1.out)
  have BD := Lib.hid B1.out.drew
  have KD := Lib.hid K1.out.drew
  have XD := Lib.hid (XA.out.below (below_drew (Below.refl _ _)))
  have VD := Lib.hid (blk_drew V1.out)
  have HPC := Lib.hid (fun W (hk : Kept w1.drew W (fun k => k = g i)) (_ : Below w0.heap.size w0 W) => C_part (XD.out.kept (SP.of_tab (PD.out.tab i hi) (PD.out.ge i hi) hk)).1)
  have hb2 : s.rows.length ≤ 3518437208782 := by omega
  refine start_ (n := 11) (S := fun w' => w'.cell? ⟨b, i, none⟩ = some (.pointer (some ⟨g i, 0, none⟩)) ∧ (∀ o, w'.cell? ⟨q, o, none⟩ = #[Value.int .i64 s.call, .int .i64 s.table, .int .i64 s.to2, .string s.row.key, .string s.row.value, .int .i64 s.row.version, .string s.key, .string s.from_, .string s.upto, .slice Av s.rows.length cv, .int .i64 s.n][o]?)) (ds := [9]) #[false, false, false, false, false, false, false, false, false, false, false] (by kernel_rfl) rfl rfl ⟨(PL1.out.cellT hi), (blkc Q1.out)⟩ (fun hHeld => ?_)
  refine pure_ (i := 0) (N := some 97) (v := ?_) (a' := ?_) #[true, false, false, false, false, false, false, false, false, false, false] rfl rfl (by kernel_rfl) (fun _ _ _ h => h) (Or.inl ⟨by rfl, ?_⟩) ?_ ?_
  rotate_left
  · intro w'
    go_simp
    with_reducible rfl
  rotate_left
  · simp only [Act.put, List.setIfInBounds_toArray, List.set_cons_zero, List.set_cons_succ, i64_w, i32_w]
    rfl
  refine pure_ (i := 1) (N := some 98) (v := ?_) (a' := ?_) #[true, true, false, false, false, false, false, false, false, false, false] rfl rfl (by kernel_rfl) (fun _ _ _ h => h) (Or.inl ⟨by rfl, ?_⟩) ?_ ?_
  rotate_left
  · intro w'
    go_simp
    with_reducible rfl
  rotate_left
  · simp only [Act.put, List.setIfInBounds_toArray, List.set_cons_zero, List.set_cons_succ, i64_w, i32_w]
    rfl
  refine pure_ (i := 2) (N := some 99) (v := ?_) (a' := ?_) #[true, true, true, false, false, false, false, false, false, false, false] rfl rfl (by kernel_rfl) (fun _ _ _ h => h) (Or.inl ⟨by rfl, ?_⟩) ?_ ?_
  rotate_left
  · intro w'
    go_simp
    with_reducible rfl
  rotate_left
  · simp only [Act.put, List.setIfInBounds_toArray, List.set_cons_zero, List.set_cons_succ, i64_w, i32_w]
    rfl
  refine pure_ (i := 3) (N := some 100) (v := ?_) (a' := ?_) #[true, true, true, true, false, false, false, false, false, false, false] rfl rfl (by kernel_rfl) (fun _ _ _ h => h) (Or.inl ⟨by rfl, ?_⟩) ?_ ?_
  rotate_left
  · intro w'
    go_simp
    with_reducible rfl
  rotate_left
  · simp only [Act.put, List.setIfInBounds_toArray, List.set_cons_zero, List.set_cons_succ, i64_w, i32_w]
    rfl
  refine pure_ (i := 4) (N := some 101) (v := ?_) (a' := ?_) #[true, true, true, true, true, false, false, false, false, false, false] rfl rfl (by kernel_rfl) (fun _ _ _ h => h) (Or.inl ⟨by rfl, ?_⟩) ?_ ?_
  rotate_left
  · intro w'
    go_simp
    with_reducible rfl
  rotate_left
  · simp only [Act.put, List.setIfInBounds_toArray, List.set_cons_zero, List.set_cons_succ, i64_w, i32_w]
    rfl
  refine pure_ (i := 6) (N := some 103) (v := ?_) (a' := ?_) #[true, true, true, true, true, false, true, false, false, false, false] rfl rfl (by kernel_rfl) (fun _ _ _ h => h) (Or.inl ⟨by rfl, ?_⟩) ?_ ?_
  rotate_left
  · intro w'
    go_simp
    with_reducible rfl
  rotate_left
  · simp only [Act.put, List.setIfInBounds_toArray, List.set_cons_zero, List.set_cons_succ, i64_w, i32_w]
    rfl
  refine pure_ (i := 8) (N := some 105) (v := ?_) (a' := ?_) #[true, true, true, true, true, false, true, false, true, false, false] rfl rfl (by kernel_rfl) (fun _ _ _ h => h) (Or.inl ⟨by rfl, ?_⟩) ?_ ?_
  rotate_left
  · intro w'
    go_simp
    with_reducible rfl
  rotate_left
  · simp only [Act.put, List.setIfInBounds_toArray, List.set_cons_zero, List.set_cons_succ, i64_w, i32_w]
    rfl
  refine take_ (i := 5) (N := some 102) (v := ?_) (a' := ?_) #[true, true, true, true, true, true, true, false, true, false, false] rfl rfl (by kernel_rfl) (fun _ _ _ h => h) (Or.inl ⟨by rfl, ?_⟩) hHeld ?_ ?_
  rotate_left
  · rintro w' ⟨s0, s1⟩
    go_simp
    with_reducible rfl
  rotate_left
  · simp only [Act.put, List.setIfInBounds_toArray, List.set_cons_zero, List.set_cons_succ, i64_w, i32_w]
    rfl
  refine take_ (i := 7) (N := some 104) (v := ?_) (a' := ?_) #[true, true, true, true, true, true, true, true, true, false, false] rfl rfl (by kernel_rfl) (fun _ _ _ h => h) (Or.inl ⟨by rfl, ?_⟩) hHeld ?_ ?_
  rotate_left
  · rintro w' ⟨s0, s1⟩
    go_simp
    with_reducible rfl
  rotate_left
  · simp only [Act.put, List.setIfInBounds_toArray, List.set_cons_zero, List.set_cons_succ, i64_w, i32_w]
    rfl
  refine last_ (i := 9) (N := some 106) #[true, true, true, true, true, true, true, true, true, true, false] rfl rfl (by kernel_rfl) (by decide) (fun K hK => ?_)
  refine goes_ Try.func53 (by kernel_rfl) rfl #[.pointer (some ⟨g i, 0, none⟩), .agg #[.string s.from_, .string s.upto], .slice (some ⟨v, 0, none⟩) s.rows.length cap] (by rfl) rfl rfl (by simp only [List.map_toArray, List.map_cons, List.map_nil]; rfl) ?_
  with_reducible refine (trep_any (w0 := w0) (PD.out.tab i hi) (PD.out.ok i hi) (PD.out.ge i hi) BD.out s.from_ s.upto (rows := s.rows) (A := some ⟨v, 0, none⟩) (c := cap) hb2 HPC.out).mono ?_
  rintro e w4 ⟨rfl, hT4, hK4, hB4⟩
  refine ⟨_, rfl, ?_⟩
  rw [HPX.out] at hT4
  rw [HPX.out]
  have HTB := Lib.hid (PD.out.tabbed hi hK4)
  have T4 := Lib.hid hT4
  have B4 := Lib.hid hB4
  have hK4 := Lib.hid hK4
  clear hT4 hB4
  refine hK.out _ _ ?_
  clear hK K
  refine norm_ (a' := ?_) ?_ ?_
  rotate_left
  · show Act.put _ (some 106) _ = _
    simp only [Act.put, List.setIfInBounds_toArray, List.set_cons_zero, List.set_cons_succ, i64_w, i32_w]
    rfl
  refine pure_ (i := 10) (N := some 14) (v := ?_) (a' := ?_) #[true, true, true, true, true, true, true, true, true, true, true] rfl rfl (by kernel_rfl) (fun _ _ _ h => h) (Or.inl ⟨by rfl, ?_⟩) ?_ ?_
  rotate_left
  · intro w'
    go_simp
    with_reducible rfl
  rotate_left
  · simp only [Act.put, List.setIfInBounds_toArray, List.set_cons_zero, List.set_cons_succ, i64_w, i32_w]
    rfl
  refine done_ (by kernel_rfl) ?_
  have PB4 := Lib.hid (show PB w4 b g l A c from HTB.out.2.1)
  have SK4 := HTB.out.2.2.2.2
  have Q4 := Lib.hid (op_kept QD.out SK4)
  have V4 := Lib.hid (row_kept VD.out SK4)
  have X4 := Lib.hid (XD.out.kept SK4)
  have hs4 := hK4.out.1
  clear SK4 XD VD QD
  have cq := blkc Q4.out
  go_wp2_with fail
  clear cq
  have B5 := Lib.hid B4.out.drew
  have BW5 := below_drew (Below.refl w4.heap.size w4)
  have X5 := Lib.hid (XR.below (HTB.out.2.2.2.1 i hi) BW5)
  have T5 := Lib.hid (T4.out.below BW5)
  refine start_ (n := 16) (S := fun w' => w'.cell? ⟨b, 3 + i, none⟩ = some (.slice (A i) (l i).length (c i)) ∧ (∀ o, w'.cell? ⟨q, o, none⟩ = #[Value.int .i64 s.call, .int .i64 s.table, .int .i64 s.to2, .string s.row.key, .string s.row.value, .int .i64 s.row.version, .string s.key, .string s.from_, .string s.upto, .slice Av s.rows.length cv, .int .i64 s.n][o]?)) (ds := [10]) #[false, false, false, false, false, false, false, false, false, false, false, false, false, false, false, false] (by kernel_rfl) rfl rfl ⟨(PB4.out.cellX hi), (blkc Q4.out)⟩ (fun hHeld => ?_)
  refine pure_ (i := 0) (N := some 108) (v := ?_) (a' := ?_) #[true, false, false, false, false, false, false, false, false, false, false, false, false, false, false, false] rfl rfl (by kernel_rfl) (fun _ _ _ h => h) (Or.inl ⟨by rfl, ?_⟩) ?_ ?_
  rotate_left
  · intro w'
    go_simp
    with_reducible rfl
  rotate_left
  · simp only [Act.put, List.setIfInBounds_toArray, List.set_cons_zero, List.set_cons_succ, i64_w, i32_w]
    rfl
  refine pure_ (i := 1) (N := some 109) (v := ?_) (a' := ?_) #[true, true, false, false, false, false, false, false, false, false, false, false, false, false, false, false] rfl rfl (by kernel_rfl) (fun _ _ _ h => h) (Or.inl ⟨by rfl, ?_⟩) ?_ ?_
  rotate_left
  · intro w'
    go_simp
    with_reducible rfl
  rotate_left
  · simp only [Act.put, List.setIfInBounds_toArray, List.set_cons_zero, List.set_cons_succ, i64_w, i32_w]
    rfl
  refine pure_ (i := 2) (N := some 110) (v := ?_) (a' := ?_) #[true, true, true, false, false, false, false, false, false, false, false, false, false, false, false, false] rfl rfl (by kernel_rfl) (fun _ _ _ h => h) (Or.inl ⟨by rfl, ?_⟩) ?_ ?_
  rotate_left
  · intro w'
    go_simp
    with_reducible rfl
  rotate_left
  · simp only [Act.put, List.setIfInBounds_toArray, List.set_cons_zero, List.set_cons_succ, i64_w, i32_w]
    rfl
  refine pure_ (i := 3) (N := some 111) (v := ?_) (a' := ?_) #[true, true, true, true, false, false, false, false, false, false, false, false, false, false, false, false] rfl rfl (by kernel_rfl) (fun _ _ _ h => h) (Or.inl ⟨by rfl, ?_⟩) ?_ ?_
  rotate_left
  · intro w'
    go_simp
    with_reducible rfl
  rotate_left
  · simp only [Act.put, List.setIfInBounds_toArray, List.set_cons_zero, List.set_cons_succ, i64_w, i32_w]
    rfl
  refine pure_ (i := 4) (N := some 112) (v := ?_) (a' := ?_) #[true, true, true, true, true, false, false, false, false, false, false, false, false, false, false, false] rfl rfl (by kernel_rfl) (fun _ _ _ h => h) (Or.inl ⟨by rfl, ?_⟩) ?_ ?_
  rotate_left
  · intro w'
    go_simp
    with_reducible rfl
  rotate_left
  · simp only [Act.put, List.setIfInBounds_toArray, List.set_cons_zero, List.set_cons_succ, i64_w, i32_w]
    rfl
  refine pure_ (i := 6) (N := some 114) (v := ?_) (a' := ?_) #[true, true, true, true, true, false, true, false, false, false, false, false, false, false, false, false] rfl rfl (by kernel_rfl) (fun _ _ _ h => h) (Or.inl ⟨by rfl, ?_⟩) ?_ ?_
  rotate_left
  · intro w'
    go_simp
    with_reducible rfl
  rotate_left
  · simp only [Act.put, List.setIfInBounds_toArray, List.set_cons_zero, List.set_cons_succ, i64_w, i32_w]
    rfl
  refine pure_ (i := 8) (N := some 116) (v := ?_) (a' := ?_) #[true, true, true, true, true, false, true, false, true, false, false, false, false, false, false, false] rfl rfl (by kernel_rfl) (fun _ _ _ h => h) (Or.inl ⟨by rfl, ?_⟩) ?_ ?_
  rotate_left
  · intro w'
    go_simp
    with_reducible rfl
  rotate_left
  · simp only [Act.put, List.setIfInBounds_toArray, List.set_cons_zero, List.set_cons_succ, i64_w, i32_w]
    rfl
  refine take_ (i := 5) (N := some 113) (v := ?_) (a' := ?_) #[true, true, true, true, true, true, true, false, true, false, false, false, false, false, false, false] rfl rfl (by kernel_rfl) (fun _ _ _ h => h) (Or.inl ⟨by rfl, ?_⟩) hHeld ?_ ?_
  rotate_left
  · rintro w' ⟨s0, s1⟩
    go_simp
    with_reducible rfl
  rotate_left
  · simp only [Act.put, List.setIfInBounds_toArray, List.set_cons_zero, List.set_cons_succ, i64_w, i32_w]
    rfl
  refine take_ (i := 7) (N := some 115) (v := ?_) (a' := ?_) #[true, true, true, true, true, true, true, true, true, false, false, false, false, false, false, false] rfl rfl (by kernel_rfl) (fun _ _ _ h => h) (Or.inl ⟨by rfl, ?_⟩) hHeld ?_ ?_
  rotate_left
  · rintro w' ⟨s0, s1⟩
    go_simp
    with_reducible rfl
  rotate_left
  · simp only [Act.put, List.setIfInBounds_toArray, List.set_cons_zero, List.set_cons_succ, i64_w, i32_w]
    rfl
  refine take_ (i := 9) (N := some 117) (v := ?_) (a' := ?_) #[true, true, true, true, true, true, true, true, true, true, false, false, false, false, false, false] rfl rfl (by kernel_rfl) (fun _ _ _ h => h) (Or.inl ⟨by rfl, ?_⟩) hHeld ?_ ?_
  rotate_left
  · rintro w' ⟨s0, s1⟩
    go_simp
    with_reducible rfl
  rotate_left
  · simp only [Act.put, List.setIfInBounds_toArray, List.set_cons_zero, List.set_cons_succ, i64_w, i32_w]
    rfl
  refine last_ (i := 10) (N := some 118) #[true, true, true, true, true, true, true, true, true, true, true, false, false, false, false, false] rfl rfl (by kernel_rfl) (by decide) (fun K hK => ?_)
  refine goes_ Try.func54 (by kernel_rfl) rfl #[.slice (A i) (l i).length (c i), .agg #[.string s.from_, .string s.upto], .slice Av s.rows.length cv] (by rfl) rfl rfl (by simp only [List.map_toArray, List.map_cons, List.map_nil]; rfl) ?_
  with_reducible refine (rrep_any X5.out (PD.out.ok i hi) s.from_ s.upto (HCC.out _ B5.out) hb2).mono ?_
  rintro e w6 ⟨A6, c6, rfl, hX6, hb6, hsp6⟩
  refine ⟨_, rfl, ?_⟩
  rw [HPX.out] at hX6 hsp6
  rw [HPX.out]
  have X6 := Lib.hid hX6
  have BW6 := Lib.hid hb6
  have HSP := Lib.hid hsp6
  clear hX6 hb6 hsp6
  refine hK.out _ _ ?_
  clear hK K
  refine norm_ (a' := ?_) ?_ ?_
  rotate_left
  · show Act.put _ (some 118) _ = _
    simp only [Act.put, List.setIfInBounds_toArray, List.set_cons_zero, List.set_cons_succ, i64_w, i32_w]
    rfl
  refine pure_ (i := 11) (N := some 107) (v := ?_) (a' := ?_) #[true, true, true, true, true, true, true, true, true, true, true, true, false, false, false, false] rfl rfl (by kernel_rfl) (fun _ _ _ h => h) (Or.inl ⟨by rfl, ?_⟩) ?_ ?_
  rotate_left
  · intro w'
    go_simp
    with_reducible rfl
  rotate_left
  · simp only [Act.put, List.setIfInBounds_toArray, List.set_cons_zero, List.set_cons_succ, i64_w, i32_w]
    rfl
  refine pure_ (i := 12) (N := some 119) (v := ?_) (a' := ?_) #[true, true, true, true, true, true, true, true, true, true, true, true, true, false, false, false] rfl rfl (by kernel_rfl) (fun _ _ _ h => h) (Or.inl ⟨by rfl, ?_⟩) ?_ ?_
  rotate_left
  · intro w'
    go_simp
    with_reducible rfl
  rotate_left
  · simp only [Act.put, List.setIfInBounds_toArray, List.set_cons_zero, List.set_cons_succ, i64_w, i32_w]
    rfl
  refine pure_ (i := 13) (N := some 120) (v := ?_) (a' := ?_) #[true, true, true, true, true, true, true, true, true, true, true, true, true, true, false, false] rfl rfl (by kernel_rfl) (fun _ _ _ h => h) (Or.inl ⟨by rfl, ?_⟩) ?_ ?_
  rotate_left
  · intro w'
    go_simp
    with_reducible rfl
  rotate_left
  · simp only [Act.put, List.setIfInBounds_toArray, List.set_cons_zero, List.set_cons_succ, i64_w, i32_w]
    rfl
  refine pure_ (i := 14) (N := some 15) (v := ?_) (a' := ?_) #[true, true, true, true, true, true, true, true, true, true, true, true, true, true, true, false] rfl rfl (by kernel_rfl) (fun _ _ _ h => h) (Or.inl ⟨by rfl, ?_⟩) ?_ ?_
  rotate_left
  · intro w'
    go_simp
    with_reducible rfl
  rotate_left
  · simp only [Act.put, List.setIfInBounds_toArray, List.set_cons_zero, List.set_cons_succ, i64_w, i32_w]
    rfl
  refine pure_ (i := 15) (N := some 16) (v := ?_) (a' := ?_) #[true, true, true, true, true, true, true, true, true, true, true, true, true, true, true, true] rfl rfl (by kernel_rfl) (fun _ _ _ h => h) (Or.inl ⟨by rfl, ?_⟩) ?_ ?_
  rotate_left
  · intro w'
    go_simp
    with_reducible rfl
  rotate_left
  · simp only [Act.put, List.setIfInBounds_toArray, List.set_cons_zero, List.set_cons_succ, i64_w, i32_w]
    rfl
  refine done_ (by kernel_rfl) ?_
  have BW7 := Lib.hid (below_then BW5 BW5.size BW6.out)
  have PB6 := Lib.hid (PB4.out.below BW7.out)
  have Q6 := Lib.hid (blk_below Q4.out BW7.out)
  have V6 := Lib.hid (blk_below V4.out BW7.out)
  have XA6 := Lib.hid (X4.out.below BW7.out)
  have zp := PB6.out.frozen
  have cp := PB6.out.cellX hi
  have hxx : (X.1 == X.1) = true := by simp
  have B6 := Lib.hid (below_then B5.out B5.out.size BW6.out)
  have FIN := Lib.hid (change_done hi KD.out PD.out hK4.out T4.out OKX.out BW7.out X6.out B6.out)
  have HNV := Lib.hid (show ∀ j, j < 3 → ∀ ad, upd A i A6 j = some ad → 0 < (upd l i X.2 j).length → ad.block ≠ v from fun j hj ad ha hn e => by
    have hv0 : W0.heap.size ≤ v := HBV.out
    have hvl : v < w1.heap.size := blk_lt V1.out
    by_cases hji : j = i
    · subst hji
      rw [upd_same] at ha hn
      rcases HSP.out with ⟨h1, h2⟩ | h1
      · rw [h1] at ha
        rw [h2] at hn
        have := HOLD.out j hj ad ha hn
        omega
      · have h3 := h1 ad ha hn
        have h4 : w1.drew.heap.size = w1.heap.size := rfl
        have h5 : w4.drew.heap.size = w4.heap.size := rfl
        omega
    · rw [upd_other _ _ hji] at ha hn
      have := HOLD.out j hj ad ha hn
      omega)
  obtain ⟨csb, hcb, _⟩ := id PB6.out
  have SK7 := SP.set (n0 := w0.heap.size) hcb PD.out.hb (3 + i) (.slice A6 X.2.length c6)
  have Q7 := Lib.hid (op_kept Q6.out SK7)
  have V7 := Lib.hid (row_kept V6.out SK7)
  have XA7 := Lib.hid (XA6.out.kept SK7)
  have HVG := Lib.hid (show w0.heap.size ≤ v ∧ w.heap.size ≤ v from by have h1 : W0.heap.size ≤ v := HBV.out; have h2 := HWS.out; omega)
  clear hcb SK7 Q6 V6 XA6 HTB hK4 HSP PB4 BW5 BW7 BW6 X5 T5 X6 X4 V4 Q4 B6 B5 B4 T4 PD BD KD OKX HPC HOLD B1 K1 PL1 Q1 V1 XA hww hs4
  have cq := blkc Q7.out
  go_wp2_with fail
  clear cp zp cq
  generalize (World.setCell w6 _ _) = w7 at *
  clear PB6
  have e2 : (s.rows ++ [sp7, sp8]).length = s.rows.length + 2 := by simp
  refine (kept_any (HCC.out w7 FIN.out.2.2) (by have h := XA7.out.1; rw [e2] at h; exact h) hbig).mono ?_
  rintro e w8 ⟨rfl, hb8⟩
  have PL8 := Lib.hid (FIN.out.1.below hb8)
  have K8 := Lib.hid (FIN.out.2.1.below hb8)
  have B8 := Lib.hid (below_then FIN.out.2.2 FIN.out.2.2.size hb8)
  have V8 := Lib.hid (blk_below V7.out hb8)
  clear hb8 FIN V7 XA7 Q7 e2
  go_wp2_with fail
  go_loopg [138] (s.rows.length + 2) (fun kq v138 w' => ∃ (k : Nat) (cs : Array Value), v138 = .int .i64 (k : Int) ∧ Hid (k + kq = s.rows.length + 2) ∧ Hid (w'.heap[v]? = some (.cells cs tRow (0, 0))) ∧ Hid (cs.size = cap * 3) ∧ Hid (PlayR w0.heap.size w' b g (upd l i X.2) (upd A i A6) (upd c i c6)) ∧ Hid (Kept w w' (SP w0.heap.size w)) ∧ Hid (Below w0.heap.size w0 w'))
  case atStart => exact ⟨0, cs1, rfl, (show _ + _ = _ by omega), V8, HCS1, PL8, K8, B8⟩
  case round =>
    clear V8 HCS1 PL8 K8 B8
    obtain ⟨k, cs, rfl, HK, V, HCS, PLL, KK, B⟩ := hrel
    cases gk with
    | zero =>
      have hk : k = s.rows.length + 2 := HK.out
      have c2 : ((k : Int) < (s.rows.length : Int) + 2) = False := _root_.eq_false (by omega)
      have c3 : decide ((k : Int) < (s.rows.length : Int) + 2) = false := by simp; omega
      clear hk
      go_wp2
      go_ret
      rw [HIX.out, HPX.out]
      exact ⟨rfl, ⟨_, _, _, PLL.out, fun _ _ => .inl rfl⟩, KK.out, B.out⟩
    | succ k1 =>
      have hk : k < s.rows.length + 2 := by have := HK.out; omega
      have hkc : k < cap := by have := HCP.out; omega
      have hcs := HCS.out
      have c2 : ((k : Int) < (s.rows.length : Int) + 2) = True := eq_true (by omega)
      have c3 : decide ((k : Int) < (s.rows.length : Int) + 2) = true := by simp; omega
      have p1 := eq_true (show 0 ≤ (k : Int) by omega)
      have p2 := eq_true (show k < s.rows.length + 2 by omega)
      obtain ⟨x0, hx0⟩ := some_at (show k * 3 < cs.size by omega)
      obtain ⟨x1, hx1⟩ := some_at (cs := cs.setIfInBounds (k * 3) (.string ⟨#[122]⟩)) (show k * 3 + 1 < _ by simp; omega)
      obtain ⟨x2, hx2⟩ := some_at (cs := (cs.setIfInBounds (k * 3) (.string ⟨#[122]⟩)).setIfInBounds (k * 3 + 1) (.string ⟨#[]⟩)) (show k * 3 + 2 < _ by simp; omega)
      have V2 := Lib.hid (blk_set V.out (k * 3) (.string ⟨#[122]⟩))
      have V3 := Lib.hid (blk_set V2.out (k * 3 + 1) (.string ⟨#[]⟩))
      have V4 := Lib.hid (blk_set V3.out (k * 3 + 2) (.int .i64 99))
      have d0 := (blkc V.out (k * 3)).trans hx0
      have z0 := blkz V.out (k * 3)
      have d1 := (blkc V2.out (k * 3 + 1)).trans hx1
      have z1 := blkz V2.out (k * 3 + 1)
      have d2 := (blkc V3.out (k * 3 + 2)).trans hx2
      have z2 := blkz V3.out (k * 3 + 2)
      have B4 := Lib.hid (below_set3 B.out HVG.out.1 (k * 3) (.string ⟨#[122]⟩) (.string ⟨#[]⟩) (.int .i64 99))
      have P4 := Lib.hid (PLL.out.setRow3 V.out HNV.out (k * 3) (.string ⟨#[122]⟩) (.string ⟨#[]⟩) (.int .i64 99))
      have K4 := Lib.hid (((KK.out.setCell (p := ⟨v, k * 3, none⟩) (.inr HVG.out.2) (.string ⟨#[122]⟩)).setCell (p := ⟨v, k * 3 + 1, none⟩) (.inr HVG.out.2) (.string ⟨#[]⟩)).setCell (p := ⟨v, k * 3 + 2, none⟩) (.inr HVG.out.2) (.int .i64 99))
      have HF1 := Lib.hid (show wrap64 ((k : Int) + 1) = ((k + 1 : Nat) : Int) from by rw [← i64_w, IntWalk.i64_in _ (by have := HBIG.out; omega)]; omega)
      clear hx0 hx1 hx2 hcs hk hkc PLL KK B
      go_wp2_with fail
      go_roundg k1
      case measure => exact Nat.lt_succ_self _
      case rel => exact ⟨k + 1, _, by rw [HF1.out], Lib.hid (by have := HK.out; omega), V4, Lib.hid (by simp; exact HCS.out), P4, K4, B4⟩

end Go.Proofs.Ytjpalkggmefpfaa.Tab
