/- The document's farther end: NewIn, held. -/
import Derived.Test.YtofmgijdeeikeaaHopSame
set_option linter.unusedVariables false
set_option linter.unusedSimpArgs false
namespace Go.Proofs.Ytofmgijdeeikeaa.Hop
open Go.RowKit Go.Proofs.Ytofmgijdeeikeaa.Mem Go.Proofs.YtofmgijdeeikeaaW.PrintWords Go.Proofs.YtofmgijdeeikeaaW.PrintLast Go.Deep
abbrev tRI : TypeId := 69
def riC (d wi p c l next : Int) (v : Value) : Obj := .cells #[.int .i64 d, .int .i64 wi, .int .i64 p, .int .i64 c, .int .i64 l, .int .i64 next, v] tRI (0, 0)
/-- The document's farther end. -/
structure RI where
  d : Int
  wi : Int
  p : Int
  c : Int
  l : Int
  next : Int
  held : List U
def RI.obj (x : RI) (v : Value) : Obj := riC x.d x.wi x.p x.c x.l x.next v
def RIR (w : World) (b g : Nat) (v : Value) (x : RI) : Prop := w.heap[g]? = some (x.obj v) ∧ kU.R tU w b (fun _ => True) v x.held
theorem hUR : ∀ q, q ∈ tU :: kU.E → q ≠ tRI := by
  intro q hq
  simp only [kU, List.mem_cons, List.not_mem_nil, or_false] at hq
  subst hq
  decide
set_option maxHeartbeats 800000 in
set_option maxRecDepth 100000 in
theorem refNewIn_ok (n d wi p c l : Int) (w : World) (h : 0 ≤ n ∧ n ≤ 1152921504606846976) (hs : setB d wi p c l = true) :
    Calls Try.prog 34 #[.int .i64 n, .agg #[.int .i64 d, .int .i64 wi, .int .i64 p, .int .i64 c, .int .i64 l]] w fun e w' => ∃ g, e = .returned (.tuple #[.pointer (some ⟨g, 0, none⟩), .int .i64 0]) ∧ w.heap.size ≤ g ∧ w'.heap[g]? = some (riC d wi p c l (n + 1) (.slice none 0 0)) ∧ Below w.heap.size w w' := by
  obtain ⟨h1, h2⟩ := h
  have HS := Lib.hid hs
  have t1 : decide (n < 0) = false := by simp; omega
  have t2 : decide (1152921504606846976 < n) = false := by simp; omega
  have e1 : IntKind.i64.wrap (n + 1) = n + 1 := IntWalk.i64_in _ (by omega)
  have hus := Try.underlying26
  have S0 := Lib.hid (blk_new w (.cells #[.int .i64 d, .int .i64 wi, .int .i64 p, .int .i64 c, .int .i64 l] 26))
  have B0 := Lib.hid (below_alloc (Below.refl w.heap.size w) (.cells #[.int .i64 d, .int .i64 wi, .int .i64 p, .int .i64 c, .int .i64 l] 26))
  clear hs
  go_enter Try.func34, Try.ntmps34
  go_wp2_with fail
  refine (may_any _ _ _ _ _ _).mono ?_
  rintro e w1 ⟨rfl, hb1⟩
  rw [HS.out]
  have S1 := Lib.hid (blk_below S0.out hb1)
  have B1 := Lib.hid (below_then B0.out B0.out.size hb1)
  have c1 := blkc S1.out
  clear hb1
  have G2 := Lib.hid (blk_new w1 (riC d wi p c l (n + 1) (.slice none 0 0)))
  have B2 := Lib.hid (below_alloc B1.out (riC d wi p c l (n + 1) (.slice none 0 0)))
  have hws : w.heap.size ≤ w1.heap.size := B1.out.size
  go_wp2_with fail
  go_ret2
  exact ⟨_, rfl, hws, G2.out, B2.out⟩
/-- The place of a number in a list; -1: none. -/
def hidx (h : List U) (n : Int) : Int := match h.findIdx? (fun u => u.seq == n) with
  | some k => (k : Int)
  | none => -1
theorem hidx_none {h : List U} {n : Int} (hh : ∀ (i : Nat) (u : U), h[i]? = some u → u.seq ≠ n) : hidx h n = -1 := by
  have : h.findIdx? (fun u => u.seq == n) = none := by
    rw [List.findIdx?_eq_none_iff]
    intro x hx
    obtain ⟨i, hi, rfl⟩ := List.getElem_of_mem hx
    simpa using hh i _ (List.getElem?_eq_getElem hi)
  rw [hidx, this]
theorem hidx_some {h : List U} {n : Int} {k : Nat} {u : U} (hk : h[k]? = some u) (hu : u.seq = n) (hh : ∀ (i : Nat) (x : U), i < k → h[i]? = some x → x.seq ≠ n) : hidx h n = k := by
  have hkl := (List.getElem?_eq_some_iff.1 hk).1
  have : h.findIdx? (fun u => u.seq == n) = some k := by
    rw [List.findIdx?_eq_some_iff_getElem]
    refine ⟨hkl, ?_, fun j hj => ?_⟩
    · have := (List.getElem?_eq_some_iff.1 hk).2
      rw [this]
      simpa using hu
    · simpa using hh j _ hj (List.getElem?_eq_getElem (by omega))
  rw [hidx, this]
set_option maxHeartbeats 800000 in
set_option maxRecDepth 100000 in
theorem refHeld_any {w w0 : World} {b g : Nat} {v : Value} {x : RI} (n : Int) (h : RIR w b g v x) :
    Calls Try.prog 44 #[.pointer (some ⟨g, 0, none⟩), .int .i64 n] w fun e w' => e = .returned (.int .i64 (hidx x.held n)) ∧ Below w.heap.size w w' := by
  obtain ⟨hG, hR⟩ := h
  obtain ⟨A, c, rfl, hc, hC⟩ := Kd.R_reads hR
  have HC := Lib.hid hC
  have hm := hC.2.1
  have c6 : w.cell? ⟨g, 6, none⟩ = some (.slice A x.held.length c) := blkc hG 6
  clear hC hR hG
  go_enter Try.func44, Try.ntmps44
  go_wp2
  go_loopg [12] x.held.length (fun kq v12 w' => ∃ (i : Nat), v12 = .int .i64 (i : Int) ∧ Hid (i + kq = x.held.length) ∧ Hid (∀ (j : Nat) (y : U), j < i → x.held[j]? = some y → y.seq ≠ n) ∧ Hid (Below w.heap.size w w'))
  case atStart => exact ⟨0, rfl, (show _ + _ = _ by omega), Lib.hid (fun j y hj => by omega), Below.refl _ _⟩
  case round =>
    obtain ⟨i, rfl, HI, HN, HB⟩ := hrel
    cases gk with
    | zero =>
      have hi : i = x.held.length := HI.out
      have c2 : decide (i < x.held.length) = false := by simp; omega
      have F := Lib.hid (hidx_none (h := x.held) (n := n) (fun j y hy => HN.out j y (by have := (List.getElem?_eq_some_iff.1 hy).1; omega) hy))
      clear hi
      go_wp2
      go_ret
      rw [F.out]
      exact ⟨rfl, HB.out⟩
    | succ k1 =>
      have hi : i < x.held.length := by have := HI.out; omega
      have hu := List.getElem?_eq_getElem hi
      generalize x.held[i] = u at *
      obtain ⟨ad, hA, a0, a1, a2, a3, a4, a5, a6⟩ := at_U HC.out hu
      cases hA
      have a0 := pw_cell_below (w1 := wr) HB.out a0
      have a1 := pw_cell_below (w1 := wr) HB.out a1
      have a2 := pw_cell_below (w1 := wr) HB.out a2
      have a3 := pw_cell_below (w1 := wr) HB.out a3
      have a4 := pw_cell_below (w1 := wr) HB.out a4
      have a5 := pw_cell_below (w1 := wr) HB.out a5
      have a6 := pw_cell_below (w1 := wr) HB.out a6
      have c2 : decide (i < x.held.length) = true := by simpa using hi
      have p1 := eq_true (show 0 ≤ (i : Int) by omega)
      have p2 := eq_true (show i < x.held.length by omega)
      have HU := Lib.hid hu
      have B2 := Lib.hid (below_alloc HB.out (.cells #[.int .i64 u.seq, .int .i64 u.client, .int .i64 u.number, .int .i64 u.kind, .string u.key, .string u.value, .int .i64 u.version] tU))
      clear hu
      by_cases hs : u.seq = n
      · have t1 : (u.seq == n) = true := by simpa using hs
        have F := Lib.hid (hidx_some HU.out hs (fun j y hj hy => HN.out j y hj hy))
        clear hs
        go_wp2_with fail
        go_ret
        rw [F.out]
        exact ⟨rfl, B2.out⟩
      · have t1 : (u.seq == n) = false := by simpa using hs
        have HS := Lib.hid hs
        clear hs
        go_wp2_with fail
        go_roundg k1
        case measure => exact Nat.lt_succ_self _
        case rel =>
          refine ⟨i + 1, rfl, Lib.hid (by have := HI.out; omega), Lib.hid (fun j y hj hy => ?_), B2.out⟩
          by_cases e : j = i
          · subst e
            rw [HU.out] at hy
            cases hy
            exact HS.out
          · exact HN.out j y (by omega) hy
end Go.Proofs.Ytofmgijdeeikeaa.Hop
