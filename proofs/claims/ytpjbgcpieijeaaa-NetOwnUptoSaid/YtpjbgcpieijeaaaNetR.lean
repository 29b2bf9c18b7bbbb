/- A net's whole memory: its blocks are told by a predicate (O); what is written elsewhere leaves it. -/
import Derived.Test.YtpjbgcpieijeaaaNetMem
import Derived.Test.YtpjbgcpieijeaaaWKept
import Derived.Test.YtpjbgcpieijeaaaWLast
set_option linter.unusedVariables false
set_option linter.unusedSimpArgs false
namespace Go.Proofs.Ytpjbgcpieijeaaa.Net
open Go.RowKit Go.Proofs.Ytpjbgcpieijeaaa.Mem Go.Proofs.YtpjbgcpieijeaaaW.PrintWords Go.Proofs.Ytpjbgcpieijeaaa.Byt
/-- A list of bytes of the net's own. -/
def Ow (w : World) (base : Nat) (v : Value) (bs : List Int) : Prop := w.ownsRow base tU8 1 v bs.length (nums .u8 bs)
theorem Ow.move {w w1 : World} {base : Nat} {v : Value} {bs : List Int} (h : Ow w base v bs) (hm : ∀ k, v.ownBlock = some k → w1.heap[k]? = w.heap[k]?) : Ow w1 base v bs := own_move h hm
theorem Ow.one {w : World} {base : Nat} {v : Value} {bs : List Int} (h : Ow w base v bs) : v.oneCell' = true := by
  obtain ⟨A, c, rfl⟩ := own_slice h
  rfl
/-- A flight's bytes. -/
structure FlR (w : World) (base : Nat) (O : Nat → Prop) (f : Fl) : Prop where
  s : Ow w base f.sv f.sb
  n : Ow w base f.nv f.nb
  os : ∀ k, f.sv.ownBlock = some k → O k
  on : ∀ k, f.nv.ownBlock = some k → O k
  len : f.sb.length = f.nb.length
  rs : ∀ x ∈ f.sb, 0 ≤ x ∧ x < 256
  rn : ∀ x ∈ f.nb, 0 ≤ x ∧ x < 256
  lb : f.nb.length ≤ 140737488351232
/-- No two have the same memory for what is now; nor is it what was sent. -/
def Apart (fls : List Fl) : Prop := ∀ (i j : Nat) (f f' : Fl), fls[i]? = some f → fls[j]? = some f' → ∀ k, f.nv.ownBlock = some k → f'.sv.ownBlock ≠ some k ∧ (i ≠ j → f'.nv.ownBlock ≠ some k)
structure NetR (w : World) (base : Nat) (O : Nat → Prop) (g m : Nat) (nd cl : Int) (v : Value) (fls : List Fl) (sent : List LtT) : Prop where
  net : w.heap[g]? = some (netC nd cl v m)
  way : WayR w base v fls
  fl : ∀ f ∈ fls, FlR w base O f
  sep : Apart fls
  mp : MapR w m sent
  og : O g
  om : O m
  ov : ∀ k, v.ownBlock = some k → O k
  ob : ∀ k, O k → base ≤ k
  nn : 1 ≤ nd ∧ nd ≤ 8
  nc : 0 ≤ cl ∧ cl ≤ 16
section
variable {w w1 : World} {base g m : Nat} {O O' : Nat → Prop} {nd cl : Int} {v : Value} {fls : List Fl} {sent : List LtT}
theorem FlR.move {f : Fl} (h : FlR w base O f) (hm : ∀ k, O k → k < w.heap.size → w1.heap[k]? = w.heap[k]?) : FlR w1 base O f :=
  ⟨h.s.move (fun k hk => hm k (h.os k hk) (own_lt h.s k hk)), h.n.move (fun k hk => hm k (h.on k hk) (own_lt h.n k hk)), h.os, h.on, h.len, h.rs, h.rn, h.lb⟩
theorem FlR.mono {f : Fl} (h : FlR w base O f) (ho : ∀ k, O k → O' k) : FlR w base O' f := ⟨h.s, h.n, fun k hk => ho k (h.os k hk), fun k hk => ho k (h.on k hk), h.len, h.rs, h.rn, h.lb⟩
theorem MapR.lt (h : MapR w m sent) : m < w.heap.size := by
  obtain ⟨es, n, h1, _⟩ := h
  exact blk_lt h1
/-- What is written elsewhere leaves it. -/
theorem NetR.move (h : NetR w base O g m nd cl v fls sent) (hm : ∀ k, O k → k < w.heap.size → w1.heap[k]? = w.heap[k]?) : NetR w1 base O g m nd cl v fls sent :=
  ⟨(hm g h.og (blk_lt h.net)).trans h.net, h.way.move (fun k hk => hm k (h.ov k hk) (h.way.lt k hk).2.1), fun f hf => (h.fl f hf).move hm, h.sep, h.mp.block (hm m h.om h.mp.lt), h.og, h.om, h.ov, h.ob, h.nn, h.nc⟩
theorem NetR.mono (h : NetR w base O g m nd cl v fls sent) (ho : ∀ k, O k → O' k) (hb : ∀ k, O' k → base ≤ k) : NetR w base O' g m nd cl v fls sent :=
  ⟨h.net, h.way, fun f hf => (h.fl f hf).mono ho, h.sep, h.mp, ho _ h.og, ho _ h.om, fun k hk => ho k (h.ov k hk), hb, h.nn, h.nc⟩
theorem NetR.below (h : NetR w base O g m nd cl v fls sent) (hb : Below w.heap.size w w1) : NetR w1 base O g m nd cl v fls sent := h.move (fun k _ hk => hb.block k hk)
theorem NetR.gm (h : NetR w base O g m nd cl v fls sent) : g ≠ m := by
  rintro rfl
  obtain ⟨es, n, h1, _⟩ := h.mp
  have := h.net
  rw [h1] at this
  cases this
/-- None of its blocks but one of bytes has that type. -/
theorem Ow.typed {w : World} {bs : List Int} (h : Ow w base v bs) {k : Nat} (hk : v.ownBlock = some k) : ∃ cs, w.heap[k]? = some (.cells cs tU8 (0, 0)) := own_typed h k hk
/-- The net's block is no list of bytes, nor the row of what is under way, nor the map. -/
theorem NetR.g_not (h : NetR w base O g m nd cl v fls sent) : v.ownBlock ≠ some g ∧ ∀ f ∈ fls, f.sv.ownBlock ≠ some g ∧ f.nv.ownBlock ≠ some g := by
  refine ⟨fun e => ?_, fun f hf => ⟨fun e => ?_, fun e => ?_⟩⟩
  · obtain ⟨_, _, cur, h1⟩ := h.way.lt g e
    rw [h.net] at h1
    injection h1 with h1
    injection h1 with _ h1 _
    exact absurd h1 (by decide)
  · obtain ⟨cs, h1⟩ := (h.fl f hf).s.typed e
    rw [h.net] at h1
    injection h1 with h1
    injection h1 with _ h1 _
    exact absurd h1 (by decide)
  · obtain ⟨cs, h1⟩ := (h.fl f hf).n.typed e
    rw [h.net] at h1
    injection h1 with h1
    injection h1 with _ h1 _
    exact absurd h1 (by decide)
theorem NetR.m_not (h : NetR w base O g m nd cl v fls sent) : v.ownBlock ≠ some m ∧ ∀ f ∈ fls, f.sv.ownBlock ≠ some m ∧ f.nv.ownBlock ≠ some m := by
  obtain ⟨es, n, hm, _⟩ := h.mp
  refine ⟨fun e => ?_, fun f hf => ⟨fun e => ?_, fun e => ?_⟩⟩
  · obtain ⟨_, _, cur, h1⟩ := h.way.lt m e
    rw [hm] at h1
    cases h1
  · obtain ⟨cs, h1⟩ := (h.fl f hf).s.typed e
    rw [hm] at h1
    cases h1
  · obtain ⟨cs, h1⟩ := (h.fl f hf).n.typed e
    rw [hm] at h1
    cases h1
theorem NetR.w_not (h : NetR w base O g m nd cl v fls sent) {k : Nat} (hk : v.ownBlock = some k) : ∀ f ∈ fls, f.sv.ownBlock ≠ some k ∧ f.nv.ownBlock ≠ some k := by
  obtain ⟨_, _, cur, h1⟩ := h.way.lt k hk
  refine fun f hf => ⟨fun e => ?_, fun e => ?_⟩
  · obtain ⟨cs, h2⟩ := (h.fl f hf).s.typed e
    rw [h1] at h2
    injection h2 with h2
    injection h2 with _ h2 _
    exact absurd h2 (by decide)
  · obtain ⟨cs, h2⟩ := (h.fl f hf).n.typed e
    rw [h1] at h2
    injection h2 with h2
    injection h2 with _ h2 _
    exact absurd h2 (by decide)
/-- The net's block is given another row of flights that lies there. -/
theorem NetR.setWay (h : NetR w base O g m nd cl v fls sent) {v' : Value} {fls' : List Fl} (hw : WayR w base v' fls') (hf : ∀ f ∈ fls', FlR w base O f) (hs : Apart fls') (ho : ∀ k, v'.ownBlock = some k → O k) : NetR (w.setCell ⟨g, 2, none⟩ v') base O g m nd cl v' fls' sent := by
  have hg : ∀ k, k ≠ g → (w.setCell ⟨g, 2, none⟩ v').heap[k]? = w.heap[k]? := fun k hk => Below.heap_setCell w ⟨g, 2, none⟩ _ k hk
  have ty : ∀ {k t : Nat} {cs : Array Value}, w.heap[k]? = some (.cells cs t (0, 0)) → t ≠ tNet → k ≠ g := fun {k t cs} h1 ht e => by
    rw [e, h.net] at h1
    injection h1 with h1
    injection h1 with _ h1 _
    exact ht h1.symm
  refine ⟨by have := blk_set h.net 2 v'; simpa using this, hw.move (fun k hk => hg k ?_), fun f hf' => ⟨(hf f hf').s.move (fun k hk => hg k ?_), (hf f hf').n.move (fun k hk => hg k ?_), (hf f hf').os, (hf f hf').on, (hf f hf').len, (hf f hf').rs, (hf f hf').rn, (hf f hf').lb⟩, hs, h.mp.block (hg m (fun e => h.gm e.symm)), h.og, h.om, ho, h.ob, h.nn, h.nc⟩
  · obtain ⟨_, _, cur, h1⟩ := hw.lt k hk
    exact ty h1 (by decide)
  · obtain ⟨cs, h1⟩ := (hf f hf').s.typed hk
    exact ty h1 (by decide)
  · obtain ⟨cs, h1⟩ := (hf f hf').n.typed hk
    exact ty h1 (by decide)
end
end Go.Proofs.Ytpjbgcpieijeaaa.Net
