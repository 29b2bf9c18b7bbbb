/- Offer and Ack of both nearer ends, each in one word. -/
import Derived.Test.YtofmgijdeeikeaaHopTwo
set_option linter.unusedVariables false
set_option linter.unusedSimpArgs false
namespace Go.Proofs.Ytofmgijdeeikeaa.Hop
open Go.RowKit Go.Proofs.Ytofmgijdeeikeaa.Mem Go.Proofs.YtofmgijdeeikeaaW.PrintWords Go.Proofs.YtofmgijdeeikeaaW.PrintLast Go.Deep
def St.offer (s : St) (u : U) : St × List U × Int := if u.seq = s.last + 1 then ((s.more u).on, (s.more u).onL, 0) else (s, [], 190)
def RO.offer (x : RO) (u : U) : RO × List U × Int := if u.seq = x.last + 1 then ((x.setAll (x.all ++ [u])).on, (x.setAll (x.all ++ [u])).onL, 0) else (x, [], 190)
def St.ack (s : St) (q : Int) : St × List U := if q ≤ s.line.from_ then (s, []) else ((s.acked (min q s.last)).on, (s.acked (min q s.last)).onL)
theorem offer_any {w w0 : World} {g : Nat} {v : Value} {s : St} (u : U) (hok : s.Ok) (h : OutR w w0.heap.size g v s) (hg : w0.heap.size ≤ g) (HB : Below w0.heap.size w0 w) (hlen : s.wait.length < 1649267441664) (hll : s.last < 2305843009213693952) :
    Calls Try.prog 26 #[.pointer (some ⟨g, 0, none⟩), u.val] w fun e w' => ∃ r, e = .returned (.tuple #[r, .int .i64 (s.offer u).2.2]) ∧ OutPost w w0 g v (s.offer u).1 (s.offer u).2.1 r w' := by
  unfold St.offer
  by_cases hu : u.seq = s.last + 1
  · rw [if_pos hu]
    exact offer_ok u hok h hg HB hu hlen hll
  · rw [if_neg hu]
    exact offer_no u hok h hg HB hu
theorem refOffer_any {w w0 : World} {g : Nat} {v : Value} {x : RO} (u : U) (hok : x.Ok) (h : ROR w w0.heap.size g v x) (hg : w0.heap.size ≤ g) (HB : Below w0.heap.size w0 w) (hlen : x.all.length < 1649267441664) :
    Calls Try.prog 27 #[.pointer (some ⟨g, 0, none⟩), u.val] w fun e w' => ∃ r, e = .returned (.tuple #[r, .int .i64 (x.offer u).2.2]) ∧ ROPost w w0 g v (x.offer u).1 (x.offer u).2.1 r w' := by
  unfold RO.offer
  by_cases hu : u.seq = x.last + 1
  · rw [if_pos hu]
    exact refOffer_ok u hok h hg HB hu hlen
  · rw [if_neg hu]
    exact refOffer_no u hok h hg HB hu
theorem ack_any {w w0 : World} {g : Nat} {v : Value} {s : St} (q : Int) (hok : s.Ok) (h : OutR w w0.heap.size g v s) (hg : w0.heap.size ≤ g) (HB : Below w0.heap.size w0 w) (hlen : s.wait.length < 1649267441664) :
    Calls Try.prog 30 #[.pointer (some ⟨g, 0, none⟩), .int .i64 q] w fun e w' => ∃ r, e = .returned r ∧ OutPost w w0 g v (s.ack q).1 (s.ack q).2 r w' := by
  unfold St.ack
  by_cases hq : q ≤ s.line.from_
  · rw [if_pos hq]
    exact ack_no q hok h hg HB hq
  · rw [if_neg hq]
    exact ack_ok q hok h hg HB (by omega) (by have := hok.fs; have := hok.sl; omega) hlen
theorem OutPost.keeps {w w0 w' : World} {g : Nat} {v r : Value} {s : St} {out : List U} (h : OutPost w w0 g v s out r w') : Kept w w' (fun k => k = g ∨ some k = v.ownBlock) := by
  obtain ⟨_, _, _, _, hk, _⟩ := h
  exact hk
theorem ROPost.keeps {w w0 w' : World} {g : Nat} {v r : Value} {x : RO} {out : List U} (h : ROPost w w0 g v x out r w') : Kept w w' (fun k => k = g ∨ some k = v.ownBlock) := by
  obtain ⟨_, _, _, _, hk, _⟩ := h
  exact hk
theorem on_n (s : St) : s.onL.length ≤ s.wait.length := by unfold St.onL; rw [List.length_take]; omega
theorem onL_len {s : St} (h : s.Ok) : s.onL.length ≤ 64 := by
  unfold St.onL
  rw [List.length_take]
  have := h.fs
  have := h.w2
  unfold St.n
  omega
theorem offer_len {s : St} (h : s.Ok) (u : U) (hl : s.last < 2305843009213693952) : (s.offer u).2.1.length ≤ 64 := by
  unfold St.offer
  split
  · rename_i hu
    exact onL_len (h.more hu hl)
  · simp
theorem ack_len {s : St} (h : s.Ok) (q : Int) : (s.ack q).2.length ≤ 64 := by
  unfold St.ack
  split
  · simp
  · exact onL_len (h.acked (by have := h.fs; have := h.sl; omega) (by omega))
theorem St.Ok.offer {s : St} (h : s.Ok) (u : U) (hl : s.last < 2305843009213693952) : (s.offer u).1.Ok := by
  unfold St.offer
  split
  · rename_i hu
    exact (h.more hu hl).on
  · exact h
theorem St.Ok.ack {s : St} (h : s.Ok) (q : Int) : (s.ack q).1.Ok := by
  unfold St.ack
  split
  · exact h
  · exact (h.acked (by have := h.fs; have := h.sl; omega) (by omega)).on
theorem simO_offer {s : St} {x : RO} (h : s.Ok) (hs : SimO s x) (u : U) (hl : s.last < 2305843009213693952) : (s.offer u).2.2 = (x.offer u).2.2 ∧ (s.offer u).2.1 = (x.offer u).2.1 ∧ SimO (s.offer u).1 (x.offer u).1 := by
  unfold St.offer RO.offer
  have h3 := hs.last
  by_cases hu : u.seq = s.last + 1
  · rw [if_pos hu, if_pos (by omega)]
    have hk := h.more hu hl
    have hm := simO_more h hs hu
    exact ⟨rfl, simO_onL hk hm, simO_on hk hm⟩
  · rw [if_neg hu, if_neg (by omega)]
    exact ⟨rfl, rfl, hs⟩
theorem simO_ack {s : St} {x : RO} (h : s.Ok) (hs : SimO s x) (q : Int) : (s.ack q).2 = (x.ack q).2 ∧ SimO (s.ack q).1 (x.ack q).1 := by
  unfold St.ack RO.ack
  have h1 := hs.acked
  have h3 := hs.last
  have h4 := h.fs
  have h5 := h.sl
  by_cases hq : q ≤ s.line.from_
  · rw [if_pos hq, if_pos (by omega)]
    exact ⟨rfl, hs⟩
  · rw [if_neg hq, if_neg (by omega), h3]
    have hk := h.acked (q := min q s.last) (by omega) (by omega)
    have hm := simO_acked h hs (a := min q s.last) (by omega) (by omega)
    exact ⟨simO_onL hk hm, simO_on hk hm⟩
theorem offer_all (x : RO) (u : U) : (x.offer u).1.all.length ≤ x.all.length + 1 ∧ (x.offer u).1.first = x.first := by
  unfold RO.offer
  split
  · exact ⟨by show (x.all ++ [u]).length ≤ _; simp, rfl⟩
  · exact ⟨by simp, rfl⟩
theorem ack_all (x : RO) (q : Int) : (x.ack q).1.all.length = x.all.length ∧ (x.ack q).1.first = x.first := by
  unfold RO.ack
  split
  · exact ⟨rfl, rfl⟩
  · exact ⟨rfl, rfl⟩
/-- A store into a block that is neither end's. -/
theorem Two.set {w w0 : World} {g gx q j : Nat} {v vx v0 : Value} {st : St} {x : RO} (h : Two w w0 g gx v vx st x) (hg : g ≠ q) (hgx : gx ≠ q) (hv : ∀ k, v.ownBlock = some k → k < q) (hvx : ∀ k, vx.ownBlock = some k → k < q) : Two (w.setCell ⟨q, j, none⟩ v0) w0 g gx v vx st x := by
  have hk : Kept w (w.setCell ⟨q, j, none⟩ v0) (fun k => k = q) := ⟨by simp, fun k _ hk => Below.heap_setCell w ⟨q, j, none⟩ _ k hk⟩
  obtain ⟨ho, hx, hs, hgg⟩ := h
  exact ⟨ho.kept hk hg (fun k hk' e => by have := hv k hk'; have e2 : k = q := e; omega), hx.kept hk hgx (fun k hk' e => by have := hvx k hk'; have e2 : k = q := e; omega), hs, hgg⟩
end Go.Proofs.Ytofmgijdeeikeaa.Hop
