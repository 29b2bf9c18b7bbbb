/- The document's nearer end: NewOut, Last, at. -/
import Derived.Test.YtofmgijdeeikeaaHopTick
import Derived.Test.YtofmgijdeeikeaaHopRefTake
set_option linter.unusedVariables false
set_option linter.unusedSimpArgs false
namespace Go.Proofs.Ytofmgijdeeikeaa.Hop
open Go.RowKit Go.Proofs.Ytofmgijdeeikeaa.Mem Go.Proofs.YtofmgijdeeikeaaW.PrintWords Go.Proofs.YtofmgijdeeikeaaW.PrintLast Go.Deep
abbrev tRO : TypeId := 61
/-- The document's nearer end. -/
structure RO where
  d : Int
  wi : Int
  p : Int
  c : Int
  l : Int
  first : Int
  all : List U
  acked : Int
  sent : Int
  clock : Int
def RO.obj (x : RO) (v : Value) : Obj := .cells #[.int .i64 x.d, .int .i64 x.wi, .int .i64 x.p, .int .i64 x.c, .int .i64 x.l, .int .i64 x.first, v, .int .i64 x.acked, .int .i64 x.sent, .int .i64 x.clock] tRO (0, 0)
def ROR (w : World) (b g : Nat) (v : Value) (x : RO) : Prop := w.heap[g]? = some (x.obj v) ∧ kU.R tU w b (fun _ => True) v x.all
theorem hUW : ∀ q, q ∈ tU :: kU.E → q ≠ tRO := by
  intro q hq
  simp only [kU, List.mem_cons, List.not_mem_nil, or_false] at hq
  subst hq
  decide
def RO.last (x : RO) : Int := x.first + x.all.length
def RO.setAcked (x : RO) (n : Int) : RO := { x with acked := n }
def RO.setSent (x : RO) (n : Int) : RO := { x with sent := n }
def RO.setClock (x : RO) (n : Int) : RO := { x with clock := n }
def RO.setAll (x : RO) (l : List U) : RO := { x with all := l }
theorem RO.set6 {w : World} {g : Nat} {v v' : Value} {x : RO} (h : w.heap[g]? = some (x.obj v)) (l : List U) : (w.setCell ⟨g, 6, none⟩ v').heap[g]? = some ((x.setAll l).obj v') := by
  have := blk_set h 6 v'
  simpa [RO.obj, RO.setAll] using this
theorem RO.set7 {w : World} {g : Nat} {v : Value} {x : RO} (h : w.heap[g]? = some (x.obj v)) (n : Int) : (w.setCell ⟨g, 7, none⟩ (.int .i64 n)).heap[g]? = some ((x.setAcked n).obj v) := by
  have := blk_set h 7 (.int .i64 n)
  simpa [RO.obj, RO.setAcked] using this
theorem RO.set8 {w : World} {g : Nat} {v : Value} {x : RO} (h : w.heap[g]? = some (x.obj v)) (n : Int) : (w.setCell ⟨g, 8, none⟩ (.int .i64 n)).heap[g]? = some ((x.setSent n).obj v) := by
  have := blk_set h 8 (.int .i64 n)
  simpa [RO.obj, RO.setSent] using this
theorem RO.set9 {w : World} {g : Nat} {v : Value} {x : RO} (h : w.heap[g]? = some (x.obj v)) (n : Int) : (w.setCell ⟨g, 9, none⟩ (.int .i64 n)).heap[g]? = some ((x.setClock n).obj v) := by
  have := blk_set h 9 (.int .i64 n)
  simpa [RO.obj, RO.setClock] using this
theorem ROR.below {w w1 : World} {b g : Nat} {v : Value} {x : RO} (h : ROR w b g v x) (hb : Below w.heap.size w w1) : ROR w1 b g v x := ⟨blk_below h.1 hb, Kd.R_below h.2 hb⟩
theorem ROR.drewN {w : World} {b g : Nat} {v : Value} {x : RO} (h : ROR w b g v x) (n : Nat) : ROR (w.drewN n) b g v x := ⟨h.1, Kd.R_drewN h.2 n⟩
theorem ROR.kept {w w1 : World} {b g : Nat} {v : Value} {x : RO} {P : Nat → Prop} (h : ROR w b g v x) (hk : Kept w w1 P) (hne : ¬ P g) (hv : ∀ k, v.ownBlock = some k → ¬ P k) : ROR w1 b g v x :=
  ⟨blk_kept h.1 hk hne, R_mine h.2 (fun k hk' => hk.2 k (Kd.R_lt h.2 k hk') (hv k hk'))⟩
set_option maxHeartbeats 800000 in
set_option maxRecDepth 100000 in
theorem refNewOut_ok (n d wi p c l : Int) (w : World) (h : 0 ≤ n ∧ n ≤ 1152921504606846976) (hs : setB d wi p c l = true) :
    Calls Try.prog 23 #[.int .i64 n, .agg #[.int .i64 d, .int .i64 wi, .int .i64 p, .int .i64 c, .int .i64 l]] w fun e w' => ∃ g, e = .returned (.tuple #[.pointer (some ⟨g, 0, none⟩), .int .i64 0]) ∧ w.heap.size ≤ g ∧ ROR w' w.heap.size g (.slice none 0 0) ⟨d, wi, p, c, l, n, [], n, n, 0⟩ ∧ Below w.heap.size w w' := by
  obtain ⟨h1, h2⟩ := h
  have HS := Lib.hid hs
  have t1 : decide (n < 0) = false := by simp; omega
  have t2 : decide (1152921504606846976 < n) = false := by simp; omega
  have hus := Try.underlying26
  have S0 := Lib.hid (blk_new w (.cells #[.int .i64 d, .int .i64 wi, .int .i64 p, .int .i64 c, .int .i64 l] 26))
  have B0 := Lib.hid (below_alloc (Below.refl w.heap.size w) (.cells #[.int .i64 d, .int .i64 wi, .int .i64 p, .int .i64 c, .int .i64 l] 26))
  clear hs
  go_enter Try.func23, Try.ntmps23
  go_wp2_with fail
  refine (may_any _ _ _ _ _ _).mono ?_
  rintro e w1 ⟨rfl, hb1⟩
  rw [HS.out]
  have S1 := Lib.hid (blk_below S0.out hb1)
  have B1 := Lib.hid (below_then B0.out B0.out.size hb1)
  have c1 := blkc S1.out
  clear hb1
  have G2 := Lib.hid (blk_new w1 (RO.obj ⟨d, wi, p, c, l, n, [], n, n, 0⟩ (.slice none 0 0)))
  have B2 := Lib.hid (below_alloc B1.out (RO.obj ⟨d, wi, p, c, l, n, [], n, n, 0⟩ (.slice none 0 0)))
  have hws : w.heap.size ≤ w1.heap.size := B1.out.size
  go_wp2_with fail
  go_ret2
  exact ⟨_, rfl, hws, ⟨G2.out, Kd.R_nil _ _ _ _ _⟩, B2.out⟩
set_option maxHeartbeats 800000 in
set_option maxRecDepth 100000 in
theorem refLast_any {w : World} {b g : Nat} {v : Value} {x : RO} (h : ROR w b g v x) (h0 : 0 ≤ x.first) (h1 : x.first ≤ 2305843009213693952) (h2 : x.all.length ≤ 1649267441664) :
    Calls Try.prog 24 #[.pointer (some ⟨g, 0, none⟩)] w fun e w' => e = .returned (.int .i64 x.last) ∧ ∃ n, w' = w.drewN n := by
  obtain ⟨hG, hR⟩ := h
  obtain ⟨A, c, rfl, hc, hC⟩ := Kd.R_reads hR
  have hm := hC.2.1
  have c6 : w.cell? ⟨g, 6, none⟩ = some (.slice A x.all.length c) := blkc hG 6
  have c5 : w.cell? ⟨g, 5, none⟩ = some (.int .i64 x.first) := blkc hG 5
  have e1 : IntKind.i64.wrap (x.first + (x.all.length : Int)) = x.first + (x.all.length : Int) := IntWalk.i64_in _ (by omega)
  clear hC hR hG
  go_enter Try.func24, Try.ntmps24
  go_wp2_with fail
  go_quiet (fail)
  go_wp2
  go_ret
  exact ⟨rfl, _, rfl⟩
end Go.Proofs.Ytofmgijdeeikeaa.Hop
