/- A range over a function whose iterator hands each round memory that it has just made: what holds of an element where it is yielded (X), against the world in which the round before ended, is told to the round. -/
import Derived.Test.YtpjbgcpieijeaaaNetSwap
import Derived.RangeFuncNested
set_option linter.unusedVariables false
set_option linter.unusedSimpArgs false
namespace Go.Proofs.Ytpjbgcpieijeaaa.Net
open Go.RowKit
/-- The contract of such an iterator. -/
def Tells {α : Type} (F : Fence) (n : Nat) (P : Program) (gf : Nat) (lb : Array Value) (encs : α → Array Value) (Kp : World → World → Prop) (X : List α → α → World → World → Prop) (S : List α → Prop) (w : World) : Prop :=
  ∀ (l : Nat) (J Jx : List α → World → Prop) (W : World), Below w.heap.size w W → AbidesFrom W.heap.size J → AbidesFrom W.heap.size Jx →
    (∀ pre x Wb W1, J pre Wb → J pre W1 → Below Wb.heap.size Wb W1 → X pre x Wb W1 → YieldAt F (n - 1) P l (encs x) W1 fun e W' => (e = .returned (.bool true) ∧ J (pre ++ [x]) W' ∧ Kp W1 W') ∨ (e = .returned (.bool false) ∧ Jx (pre ++ [x]) W')) →
    J [] W → CallsIn F n P gf (#[.func (.yield l) #[] #[]] ++ lb) W fun e W' => (∃ v, e = .returned v) ∧ ((∃ xs, S xs ∧ J xs W') ∨ ∃ pre, Jx pre W')
section
variable {F : Fence} {n : Nat} {P : Program} {w : World}
/-- The loop's record, and the block behind it for the rounds' deferred calls. -/
def Book (w W : World) (r : Loop) : Prop := W.heap[w.heap.size + 1]? = some (.loop r) ∧ W.heap[w.heap.size]? = some (.deferred (some []))
theorem Book.put {w W : World} {r r' : Loop} (h : Book w W r) : Book w (W.putObj (w.heap.size + 1) (.loop r')) r' :=
  ⟨World.putObj_heap_same (Array.getElem?_eq_some_iff.1 h.1).1, (World.putObj_heap_other (by omega)).trans h.2⟩
theorem Book.keeps {w W W' : World} {r : Loop} (h : Book w W r) (k : KeepsFrom w.heap.size W W') : Book w W' r :=
  ⟨k.same _ _ (by omega) h.1 rfl, k.same _ _ (Nat.le_refl _) h.2 rfl⟩
theorem Book.grown {w W W' : World} {r : Loop} {row : Option Nat} (h : Book w W r) (hg : W.grownBy W' row) (hr : ∀ q, row = some q → ∃ o : Obj, W.heap[q]? = some o ∧ o.isWalk = true) : Book w W' r :=
  ⟨(grownBy_keeps hg hr h.1 rfl).trans h.1, (grownBy_keeps hg hr h.2 rfl).trans h.2⟩
theorem range_tells {α : Type} {g : Operand} {ps : Array Tmp} {assign body : Code} {Q : Exit → Act → World → Prop} {a : Act}
    (hro : F.round = none) (h1 : 1 ≤ n) {gf : Nat} {lb : Array Value} (hg : a.eval g = .func (.func gf) #[] lb) (hFg : F.fn gf) (eg : ∀ args w, (callFunc gf args).run P w = .ok (.enter gf args) w)
    {encs : α → Array Value} {Kp : World → World → Prop} {X : List α → α → World → World → Prop} {S : List α → Prop} {w0 : World} (hseq : Tells F (n - 1) P gf lb encs Kp X S w0)
    (hKt : ∀ {A B C : World}, Kp A B → Kp B C → Kp A C) (hKb : ∀ (W : World) (l : Nat) (o o' : Obj), W.heap[l]? = some o → o.isCells = false → Kp W (W.putObj l o')) (hb0 : Below w0.heap.size w0 w) (hps : ∀ x, (encs x).size = ps.size)
    (I : List α → World → Prop) (Ix : Code → List α → World → Prop) (hI : OwnFrom w.heap.size I) (hIx : ∀ c, OwnFrom w.heap.size (Ix c)) (h0 : I [] w) (Ax : List α → α → Act → World → Prop) (hAx : ∀ pre x a', OwnFrom w.heap.size (fun (_ : Unit) W => Ax pre x a' W))
    (hassign : ∀ (l : Nat) (pre : List α) (x : α) (Wb W : World) (K : Act → World → Prop), I pre Wb → I pre W → Below Wb.heap.size Wb W → X pre x Wb W → (∀ a' W', KeepsFrom w.heap.size W W' → Kp W W' → I pre W' → Ax pre x a' W' → K a' W') →
      assign.wpIn (F.inRound l) (n - 1 - 1) P (Exit.then K (fun _ _ _ => False)) { tmps := (ps.zip (encs x)).foldl (fun t (p, v) => t.setIfInBounds p v) a.tmps, defers := [] } W)
    (hbody : ∀ (l : Nat) (pre : List α) (x : α) (a' : Act) (W : World), I pre W → Ax pre x a' W → body.wpIn (F.inRound l) (n - 1 - 1) P (ownPostG w.heap.size Kp I Ix (pre ++ [x]) W) a' W)
    (hdone : ∀ (D : Nat) (xs : List α) (W : World), w.heap.size ≤ D → S xs → I xs W → W.heap[D]? = some (.deferred (some [])) → Q .normal { a with defers := { target := .collected D, args := #[] } :: a.defers } W)
    (hstop : ∀ (D : Nat) (c : Code) (pre : List α) (W : World), w.heap.size ≤ D → Ix c pre W → W.heap[D]? = some (.deferred (some [])) → c.wpIn F n P Q { a with defers := { target := .collected D, args := #[] } :: a.defers } W) :
    (Code.rangeFunc g ps assign body).wpIn F n P Q a w := by
  refine wpIn_rangeFunc (fun fn hfn => ?_)
  rw [hro]
  let R : LoopState → Option Code → Loop := fun st pe => { state := st, pending := pe, fn := fn, tmps := a.tmps, params := ps, assign := assign, body := body, defers := w.heap.size }
  have B1 : Book w ((w.alloc (.deferred (some []))).alloc (.loop (R .ready none))) (R .ready none) := by
    refine ⟨?_, ?_⟩
    · have h := World.alloc_heap_new (w.alloc (.deferred (some []))) (.loop (R .ready none))
      rwa [World.size_alloc] at h
    · exact (Below.heap_alloc _ _ _ (by simp)).trans (World.alloc_heap_new w _)
  have I1 : I [] ((w.alloc (.deferred (some []))).alloc (.loop (R .ready none))) := hI.alloc _ (hI.alloc _ h0)
  have W1b : Below w0.heap.size w0 ((w.alloc (.deferred (some []))).alloc (.loop (R .ready none))) := hb0.trans ((((Below.refl _ w).alloc (Nat.le_refl _) _).alloc (by simp) _).mono hb0.size)
  have hsz : w.heap.size + 2 = ((w.alloc (.deferred (some []))).alloc (.loop (R .ready none))).heap.size := by simp
  generalize hW1 : (w.alloc (.deferred (some []))).alloc (.loop (R .ready none)) = W1 at *
  refine ⟨w.heap.size + 1, [{ target := .collected w.heap.size, args := #[] }], W1, ⟨.fn (.func gf) lb, #[.func (.yield (w.heap.size + 1)) #[] #[]]⟩, W1, gf, #[.func (.yield (w.heap.size + 1)) #[] #[]] ++ lb, W1, ?_, ?_, ?_, ?_, fun _ => h1, ?_⟩
  · rw [← hW1]
    exact run_enterLoop_outer fn a.tmps ps assign body
  · simp only [resolve, hg]
    simp [go_sem]
  · intro f' hf'
    simp [Target.leads] at hf'
    subst hf'
    exact hFg
  · simp [invoke, go_sem, eg]
  · have cells : ∀ {A : World} {row : Option Nat}, (∀ q, row = some q → W1.heap.size ≤ q ∧ ∃ o : Obj, A.heap[q]? = some o ∧ o.isWalk = true) → ∀ q, row = some q → w.heap.size ≤ q ∧ ∃ o : Obj, A.heap[q]? = some o ∧ o.isCells = false := fun hr q e => by
      obtain ⟨h2, o, h3, h4⟩ := hr q e
      exact ⟨by omega, o, h3, Obj.not_cells_of_walk h4⟩
    refine (hseq (w.heap.size + 1) (fun pre W => I pre W ∧ Book w W (R .ready none)) (fun pre W => ∃ c, Ix c pre W ∧ Book w W (R .done (some c))) W1 W1b (fun s A B row h2 hg' hr => ⟨hI s A B row h2.1 hg' (cells hr), h2.2.grown hg' (fun q e => (hr q e).2)⟩)
      (fun s A B row h2 hg' hr => by
        obtain ⟨c, h3, h4⟩ := h2
        exact ⟨c, hIx c s A B row h3 hg' (cells hr), h4.grown hg' (fun q e => (hr q e).2)⟩) ?_ ⟨I1, B1⟩).mono ?_
    · rintro pre x Wb W ⟨hib, _⟩ ⟨hi, hbk⟩ hbw hx
      refine ⟨fn, _, assign, body, run_yield (P := P) (args := encs x) hbk.1 (hps x), roundIn_of_wpIn hfn (hassign _ pre x Wb W _ hib hi hbw hx (fun a' Wa k1 k2 hia hax => ?_))⟩
      have b2 := hbk.keeps k1
      have b3 : Book w _ (R .busy none) := b2.put
      refine ⟨_, run_beginRound b2.1 rfl, wpIn_mono (hbody _ pre x a' _ (hI.putObj _ hia (by omega) b2.1 rfl) ((hAx pre x a').putObj (s := ()) _ hax (by omega) b2.1 rfl)) ?_⟩
      have kb := hKb Wa (w.heap.size + 1) _ (.loop (R .busy none)) b2.1 rfl
      rintro e a3 W3 hp
      cases e with
      | normal =>
        obtain ⟨k3, k4, hi3⟩ := hp
        have b4 := b3.keeps k3
        exact ⟨_, _, run_endRound (P := P) none b4.1, .inl ⟨rfl, ⟨hI.putObj _ hi3 (by omega) b4.1 rfl, b4.put⟩, hKt k2 (hKt (hKt kb k4) (hKb _ _ _ _ b4.1 rfl))⟩⟩
      | ret =>
        obtain ⟨k3, hi3⟩ := hp
        have b4 := b3.keeps k3
        exact ⟨_, _, run_endRound (P := P) (some .ret) b4.1, .inr ⟨rfl, .ret, (hIx _).putObj _ hi3 (by omega) b4.1 rfl, b4.put⟩⟩
      | exit id =>
        obtain ⟨k3, hi3⟩ := hp
        have b4 := b3.keeps k3
        exact ⟨_, _, run_endRound (P := P) (some (.exit id)) b4.1, .inr ⟨rfl, .exit id, (hIx _).putObj _ hi3 (by omega) b4.1 rfl, b4.put⟩⟩
      | goto u =>
        obtain ⟨k3, hi3⟩ := hp
        have b4 := b3.keeps k3
        exact ⟨_, _, run_endRound (P := P) (some (.goto u)) b4.1, .inr ⟨rfl, .goto u, (hIx _).putObj _ hi3 (by omega) b4.1 rfl, b4.put⟩⟩
      | panic ch => exact hp.elim
      | outgrown => exact hp.elim
    · rintro e W2 ⟨⟨v, rfl⟩, ⟨xs, hS, hi, hbk⟩ | ⟨pre, c, hi, hbk⟩⟩
      · exact ⟨none, _, run_endLoop (P := P) hbk.1 (by simp [R]), hdone _ xs _ (Nat.le_refl _) hS (hI.putObj _ hi (by omega) hbk.1 rfl) ((World.putObj_heap_other (by omega)).trans hbk.2)⟩
      · exact ⟨some c, _, run_endLoop (P := P) hbk.1 (by simp [R]), hstop _ c pre _ (Nat.le_refl _) ((hIx c).putObj _ hi (by omega) hbk.1 rfl) ((World.putObj_heap_other (by omega)).trans hbk.2)⟩
end
end Go.Proofs.Ytpjbgcpieijeaaa.Net
