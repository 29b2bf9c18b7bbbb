/- Both nearer ends in one world. -/
import Derived.Test.YtofmgijdeeikeaaHopSimO
import Derived.Test.YtofmgijdeeikeaaHopRefOffer
import Derived.Test.YtofmgijdeeikeaaHopNews
set_option linter.unusedVariables false
set_option linter.unusedSimpArgs false
namespace Go.Proofs.Ytofmgijdeeikeaa.Hop
open Go.RowKit Go.Proofs.Ytofmgijdeeikeaa.Mem Go.Proofs.YtofmgijdeeikeaaW.PrintWords Go.Proofs.YtofmgijdeeikeaaW.PrintLast Go.Deep
theorem simO_ok {s : St} {x : RO} (h : s.Ok) (hs : SimO s x) (h1 : x.first ≤ 1152921504606846976) (h2 : x.all.length ≤ 1649267441664) : x.Ok where
  h0 := hs.f0
  h1 := h1
  h2 := h2
  fa := hs.fa
  ast := by have := hs.acked; have := hs.sent; have := h.fs; omega
  sl := by have := hs.last; have := hs.sent; have := h.sl; omega
  w1 := by have := hs.wi; have := h.w1; omega
  w2 := by have := hs.wi; have := h.w2; omega
  c0 := by have := hs.clock; have := h.c0; omega
  c1 := by have := hs.clock; have := h.c1; have := h.p2; omega
theorem OutR.kept {w w1 : World} {b g : Nat} {v : Value} {s : St} {P : Nat → Prop} (h : OutR w b g v s) (hk : Kept w w1 P) (hne : ¬ P g) (hv : ∀ k, v.ownBlock = some k → ¬ P k) : OutR w1 b g v s := by
  obtain ⟨cs, G, C, Q⟩ := h
  exact ⟨cs, blk_kept G hk hne, C, Q_ok (Kd.Q_step (Q_ok (ok' := fun k => v.ownBlock = some k) Q (fun _ hk => hk)) (fun k hk' hlt => hk.2 k hlt (hv k hk'))) (fun _ _ => trivial)⟩
/-- Both ends in one world, their rows apart. -/
def Two (w w0 : World) (g gx : Nat) (v vx : Value) (st : St) (x : RO) : Prop :=
  OutR w w0.heap.size g v st ∧ ROR w w0.heap.size gx vx x ∧ (∀ k, v.ownBlock = some k → ¬ vx.ownBlock = some k) ∧ g ≠ gx
theorem Two.below {w w1 w0 : World} {g gx : Nat} {v vx : Value} {st : St} {x : RO} (h : Two w w0 g gx v vx st x) (hb : Below w.heap.size w w1) : Two w1 w0 g gx v vx st x := ⟨h.1.below hb, h.2.1.below hb, h.2.2⟩
theorem Two.drewN {w w0 : World} {g gx : Nat} {v vx : Value} {st : St} {x : RO} (h : Two w w0 g gx v vx st x) (n : Nat) : Two (w.drewN n) w0 g gx v vx st x := ⟨h.1.drewN n, h.2.1.drewN n, h.2.2⟩
theorem Two.lt {w w0 : World} {g gx : Nat} {v vx : Value} {st : St} {x : RO} (h : Two w w0 g gx v vx st x) : g < w.heap.size ∧ gx < w.heap.size ∧ (∀ k, v.ownBlock = some k → k < w.heap.size) ∧ (∀ k, vx.ownBlock = some k → k < w.heap.size) := by
  obtain ⟨⟨cs, G, C, Q⟩, h2, _⟩ := h
  exact ⟨blk_lt G, blk_lt h2.1, Kd.Q_lt Q, Kd.R_lt h2.2⟩
theorem Two.ne {w w0 : World} {g gx : Nat} {v vx : Value} {st : St} {x : RO} (h : Two w w0 g gx v vx st x) : some g ≠ v.ownBlock ∧ some gx ≠ v.ownBlock ∧ some g ≠ vx.ownBlock ∧ some gx ≠ vx.ownBlock := by
  obtain ⟨⟨cs, G, C, Q⟩, h2, _⟩ := h
  exact ⟨Kd.Q_ne Q G (show tU ≠ tOut by decide), Kd.Q_ne Q h2.1 (show tU ≠ tRO by decide), Kd.R_ne h2.2 G (show tU ≠ tOut by decide), Kd.R_ne h2.2 h2.1 (show tU ≠ tRO by decide)⟩
/-- Behind a call on the program's end. -/
theorem Two.first {w w1 w0 : World} {g gx : Nat} {v vx r : Value} {st st1 : St} {x : RO} {out : List U} (h : Two w w0 g gx v vx st x) (hp : OutPost w w0 g v st1 out r w1) :
    ∃ v1, Two w1 w0 g gx v1 vx st1 x ∧ kU.R tU w1 w.heap.size (fun _ => True) r out ∧ (∀ k, r.ownBlock = some k → ¬ v1.ownBlock = some k) ∧ w.heap.size ≤ w1.heap.size ∧ Below w0.heap.size w0 w1 := by
  obtain ⟨v1, h1, hv, hr, hk, hb⟩ := hp
  obtain ⟨l1, l2, l3, l4⟩ := h.lt
  obtain ⟨n1, n2, n3, n4⟩ := h.ne
  obtain ⟨_, hx, hs, hgg⟩ := h
  refine ⟨v1, ⟨h1, hx.kept hk (fun e => e.elim (fun e => hgg e.symm) n2) (fun k hk' e => e.elim (fun e => n3 (by rw [hk', e])) (fun e => hs k e.symm hk')), fun k hk' e => ?_, hgg⟩, R_ok hr (fun _ _ => trivial), fun k hk' e => hr.1 k hk' e.symm, hk.1, hb⟩
  rcases hv with hv | ⟨b, hv, hle⟩
  · exact hs k (hv.symm.trans hk') e
  · have e2 : b = k := Option.some.inj (hv.symm.trans hk')
    have := l4 k e
    omega
/-- .. and behind the same call on the document's. -/
theorem Two.second {w1 w2 w0 : World} {g gx : Nat} {v vx r r2 : Value} {st : St} {x x2 : RO} {out out2 : List U} {m : Nat} (h : Two w1 w0 g gx v vx st x) (hg : g < m) (hgx : gx < m) (hm : ∀ k, vx.ownBlock = some k → k < m) (hr : kU.R tU w1 m (fun _ => True) r out) (hrv : ∀ k, r.ownBlock = some k → ¬ v.ownBlock = some k) (hp : ROPost w1 w0 gx vx x2 out2 r2 w2) :
    ∃ vx2, Two w2 w0 g gx v vx2 st x2 ∧ kU.R tU w2 m (fun _ => True) r out ∧ kU.R tU w2 w1.heap.size (fun _ => True) r2 out2 ∧ (∀ k, r.ownBlock = some k → ¬ vx2.ownBlock = some k) ∧ w1.heap.size ≤ w2.heap.size ∧ Below w0.heap.size w0 w2 := by
  obtain ⟨vx2, h1, hv, hr2, hk, hb⟩ := hp
  obtain ⟨l1, l2, l3, l4⟩ := h.lt
  obtain ⟨n1, n2, n3, n4⟩ := h.ne
  obtain ⟨ho, hx, hs, hgg⟩ := h
  have hrl := Kd.R_lt hr
  have hrb := Kd.R_base hr
  refine ⟨vx2, ⟨ho.kept hk (fun e => e.elim hgg n3) (fun k hk' e => e.elim (fun e => n2 (by rw [hk', e])) (fun e => hs k hk' e.symm)), h1, fun k hk' e => ?_, hgg⟩, R_mine hr (fun k hk' => hk.2 k (hrl k hk') (fun e => e.elim (fun e => by have := hrb k hk'; omega) (fun e => by have h1 := hrb k hk'; have h2 := hm k e.symm; omega))), R_ok hr2 (fun _ _ => trivial), fun k hk' e => ?_, hk.1, hb⟩
  · rcases hv with hv | ⟨b, hv, hle⟩
    · exact hs k hk' (hv.symm.trans e)
    · have e2 : b = k := Option.some.inj (hv.symm.trans e)
      have := l3 k hk'
      omega
  · rcases hv with hv | ⟨b, hv, hle⟩
    · have h1 := hrb k hk'
      have h2 := hm k (hv.symm.trans e)
      omega
    · have e2 : b = k := Option.some.inj (hv.symm.trans e)
      have := hrl k hk'
      omega
/-- .. and behind 'own' on the answer. -/
theorem Two.third {w2 w3 w0 : World} {g gx : Nat} {v vx r : Value} {st : St} {x : RO} {out : List U} {m : Nat} (h : Two w2 w0 g gx v vx st x) (hg : g < m) (hgx : gx < m) (hr : kU.R tU w2 m (fun _ => True) r out) (h1 : ∀ k, r.ownBlock = some k → ¬ v.ownBlock = some k) (h2 : ∀ k, r.ownBlock = some k → ¬ vx.ownBlock = some k) (hk : Kept w2 w3 (fun k => some k = r.ownBlock)) : Two w3 w0 g gx v vx st x := by
  have hrb := Kd.R_base hr
  obtain ⟨ho, hx, hs, hgg⟩ := h
  exact ⟨ho.kept hk (fun e => by have := hrb g e.symm; omega) (fun k hk' e => h1 k e.symm hk'), hx.kept hk (fun e => by have := hrb gx e.symm; omega) (fun k hk' e => h2 k e.symm hk'), hs, hgg⟩
end Go.Proofs.Ytofmgijdeeikeaa.Hop
