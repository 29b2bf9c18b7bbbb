/- Same, own, near. -/
import Derived.Test.YtofmgijdeeikeaaHopInOrder
set_option linter.unusedVariables false
set_option linter.unusedSimpArgs false
namespace Go.Proofs.Ytofmgijdeeikeaa.Hop
open Go.RowKit Go.Proofs.Ytofmgijdeeikeaa.Mem Go.Proofs.YtofmgijdeeikeaaW.PrintWords Go.Proofs.YtofmgijdeeikeaaW.PrintLast Go.Deep
theorem near_any (n k : Int) (w : World) (h0 : -4611686018427387904 ≤ n) (h1 : n ≤ 4611686018427387904) :
    Calls Try.prog 25 #[.int .i64 n, .int .i64 k] w fun e w' => e = .returned (.int .i64 (n + k % 200 - 100)) ∧ w = w' := by
  have h2 := Int.emod_nonneg k (show (200 : Int) ≠ 0 by omega)
  have h3 := Int.emod_lt_of_pos k (show (0 : Int) < 200 by omega)
  have e1 : IntKind.i64.wrap (n + k % 200) = n + k % 200 := IntWalk.i64_in _ (by omega)
  have e2 : IntKind.i64.wrap (n + k % 200 - 100) = n + k % 200 - 100 := IntWalk.i64_in _ (by omega)
  go_enter Try.func25, Try.ntmps25
  go_wp2_with fail
  refine (place_any _ 200 _ (by omega) (by omega)).mono ?_
  rintro e w' ⟨rfl, rfl⟩
  go_wp2
  go_ret
  exact ⟨rfl, rfl⟩
/-- Two lists that are alike. -/
theorem same_any (w : World) (A B : Option Addr) (c d : Nat) (xs : List U) (hA : kU.C w A xs.length xs) (hB : kU.C w B xs.length xs) :
    Calls Try.prog 28 #[.slice A xs.length c, .slice B xs.length d] w fun e w' => e = .returned (.bool true) ∧ ∃ n, w' = w.drewN n := by
  have HA := Lib.hid hA
  have HB := Lib.hid hB
  have hm := hA.2.1
  clear hA hB
  go_enter Try.func28, Try.ntmps28
  go_wp2
  go_loopg [13] xs.length (fun kq v13 w' => ∃ (i : Nat), v13 = .int .i64 (i : Int) ∧ Hid (i + kq = xs.length) ∧ Hid (∃ m, w' = w.drewN m))
  case atStart => exact ⟨0, rfl, (show _ + _ = _ by omega), Lib.hid ⟨0, rfl⟩⟩
  case round =>
    obtain ⟨i, rfl, HI, HW⟩ := hrel
    obtain ⟨m, rfl⟩ := HW.out
    clear HW
    cases gk with
    | zero =>
      have hi : i = xs.length := HI.out
      have c2 : decide (i < xs.length) = false := by simp; omega
      clear hi
      go_wp2
      go_ret
      exact ⟨rfl, _, rfl⟩
    | succ k1 =>
      have hi : i < xs.length := by have := HI.out; omega
      have hu := List.getElem?_eq_getElem hi
      generalize xs[i] = u at *
      obtain ⟨ad, hA, a0, a1, a2, a3, a4, a5, a6⟩ := at_U HA.out hu
      obtain ⟨bd, hB, b0, b1, b2, b3, b4, b5, b6⟩ := at_U HB.out hu
      cases hA
      cases hB
      have c2 : decide (i < xs.length) = true := by simpa using hi
      have p1 := eq_true (show 0 ≤ (i : Int) by omega)
      have p2 := eq_true (show i < xs.length by omega)
      have hne := fun W => run_neU u u W
      rw [(U.eqb_iff u u).2 rfl] at hne
      clear hu
      go_wp2_with fail
      go_quiet (fail)
      go_wp2_with fail
      go_roundg k1
      case measure => exact Nat.lt_succ_self _
      case rel => exact ⟨i + 1, rfl, Lib.hid (by have := HI.out; omega), Lib.hid ⟨_, rfl⟩⟩
/-! ### a row of one's own as its block -/
theorem R_blk {w : World} {base : Nat} {ok : Nat → Prop} {v : Value} {xs : List U} (h : kU.R tU w base ok v xs) (hp : 0 < xs.length) : ∃ g cap cur, v = .slice (some ⟨g, 0, none⟩) xs.length cap ∧ ok g ∧ base ≤ g ∧ w.heap[g]? = some (.cells cur tU (0, 0)) ∧ xs.length ≤ cap ∧ cap ≤ maxLen ∧ cur.size = cap * 7 ∧ LR cur xs := by
  obtain ⟨A, c, hv, _, _, hra⟩ := R_LR h
  obtain ⟨g', cs', hA, _, hg', hL⟩ := hra hp
  obtain ⟨hok, inner, ho, hr⟩ := h
  rcases ho.2 with ⟨_, h0⟩ | ⟨g, cap, cur, he, hb, hh, hnc, hcm, hcs, ht⟩
  · omega
  · rw [hv, hA] at he
    cases he
    rw [hh] at hg'
    cases hg'
    exact ⟨_, _, _, by rw [hv, hA], hok _ (by rw [hv, hA]; rfl), hb, hh, hnc, hcm, hcs, hL⟩
theorem R_of_blk {w : World} {base g cap : Nat} {ok : Nat → Prop} {cur : Array Value} {xs : List U} (hok : ok g) (hb : base ≤ g) (hh : w.heap[g]? = some (.cells cur tU (0, 0))) (hnc : xs.length ≤ cap) (hcm : cap ≤ maxLen) (hcs : cur.size = cap * 7) (hL : LR cur xs) : kU.R tU w base ok (.slice (some ⟨g, 0, none⟩) xs.length cap) xs := by
  refine ⟨fun k hk => ?_, cur.toList.take (xs.length * 7), ⟨?_, .inr ⟨g, cap, cur, rfl, hb, hh, hnc, hcm, hcs, rfl⟩⟩, ?_, fun j p hj => ?_⟩
  · have : g = k := by simpa [Value.ownBlock] using hk
    subst this
    exact hok
  · show _ = xs.length * 7
    rw [List.length_take, Array.length_toList]
    exact Nat.min_eq_left hL.1
  · show _ = xs.length * 7
    rw [List.length_take, Array.length_toList]
    exact Nat.min_eq_left hL.1
  · have hl := (List.getElem?_eq_some_iff.1 hj).1
    obtain ⟨h0, h1, h2, h3, h4, h5, h6⟩ := hL.2 j p hj
    show ((cur.toList.take (xs.length * 7)).drop (j * 7)).take 7 = p.cells
    apply List.ext_getElem?
    intro i
    by_cases hi : i < 7
    · rw [List.getElem?_take, if_pos hi, List.getElem?_drop, List.getElem?_take, if_pos (by omega), Array.getElem?_toList]
      match i, hi with
      | 0, _ => simpa [U.cells] using h0
      | 1, _ => simpa [U.cells] using h1
      | 2, _ => simpa [U.cells] using h2
      | 3, _ => simpa [U.cells] using h3
      | 4, _ => simpa [U.cells] using h4
      | 5, _ => simpa [U.cells] using h5
      | 6, _ => simpa [U.cells] using h6
    · rw [List.getElem?_take, if_neg hi, List.getElem?_eq_none (by simp [U.cells]; omega)]
/-- One field of one of them written. -/
theorem LR.field {cs : Array Value} {xs : List U} (h : LR cs xs) {i : Nat} {u u' : U} (hi : xs[i]? = some u) (o : Nat) (ho : o < 7) (v : Value) (hv : u'.cells = u.cells.set o v) : LR (cs.setIfInBounds (i * 7 + o) v) (xs.set i u') := by
  have hil := (List.getElem?_eq_some_iff.1 hi).1
  have hsz := h.1
  refine ⟨by simpa using h.1, fun j x hx => ?_⟩
  by_cases e : j = i
  · subst e
    rw [List.getElem?_set_self hil] at hx
    cases hx
    obtain ⟨h0, h1, h2, h3, h4, h5, h6⟩ := h.2 j u hi
    have hc : ∀ q, q < 7 → cs[j * 7 + q]? = u.cells[q]? := by
      intro q hq
      match q, hq with
      | 0, _ => simpa [U.cells] using h0
      | 1, _ => simpa [U.cells] using h1
      | 2, _ => simpa [U.cells] using h2
      | 3, _ => simpa [U.cells] using h3
      | 4, _ => simpa [U.cells] using h4
      | 5, _ => simpa [U.cells] using h5
      | 6, _ => simpa [U.cells] using h6
    have hn : ∀ q, q < 7 → (cs.setIfInBounds (j * 7 + o) v)[j * 7 + q]? = u'.cells[q]? := by
      intro q hq
      rw [hv]
      by_cases e : q = o
      · subst e
        rw [Array.getElem?_setIfInBounds_self_of_lt (by omega), List.getElem?_set_self (by simp [U.cells]; omega)]
      · rw [Array.getElem?_setIfInBounds_ne (by omega), List.getElem?_set_ne (by omega)]
        exact hc q hq
    exact ⟨by simpa [U.cells] using hn 0 (by omega), by simpa [U.cells] using hn 1 (by omega), by simpa [U.cells] using hn 2 (by omega), by simpa [U.cells] using hn 3 (by omega), by simpa [U.cells] using hn 4 (by omega), by simpa [U.cells] using hn 5 (by omega), by simpa [U.cells] using hn 6 (by omega)⟩
  · rw [List.getElem?_set_ne (by omega)] at hx
    exact held_set (h.2 j x hx) (by omega)
theorem C_of_blk {w : World} {g : Nat} {cs : Array Value} {ls : List U} (hg : w.heap[g]? = some (.cells cs tU (0, 0))) (hL : LR cs ls) (hm : ls.length ≤ 9223372036854775807) : kU.C w (some ⟨g, 0, none⟩) ls.length ls := by
  refine ⟨rfl, hm, fun _ => ⟨_, rfl, fun j p hj => ⟨p.cells, rfl, rfl, fun i u hu => ?_⟩⟩⟩
  have h := held_range hg (hL.2 j p hj) i u hu
  rw [add_at, Nat.zero_add]
  exact h
set_option maxHeartbeats 1600000 in
set_option maxRecDepth 100000 in
/- own: an answer written over, and grown. -/
theorem own_any {w w0 : World} {base : Nat} {v : Value} {xs : List U} (h : kU.R tU w base (fun _ => True) v xs) (hb0 : w0.heap.size ≤ base) (HB : Below w0.heap.size w0 w) (hbw : base ≤ w.heap.size) (hl : xs.length ≤ 1099511627776) :
    Calls Try.prog 29 #[v] w fun e w' => e = .returned (.bool true) ∧ Kept w w' (fun k => some k = v.ownBlock) ∧ Below w0.heap.size w0 w' := by
  obtain ⟨A, c, hv, hc, hm, hra⟩ := R_LR h
  subst hv
  have R0 := Lib.hid h
  have B0 := Lib.hid HB
  clear h HB hra
  go_enter Try.func29, Try.ntmps29
  go_wp2
  go_loopg [6] xs.length (fun kq v6 w' => ∃ (i : Nat) (ys : List U), v6 = .int .i64 (i : Int) ∧ Hid (i + kq = xs.length) ∧ Hid (ys.length = xs.length) ∧ Hid (kU.R tU w' base (fun _ => True) (.slice A xs.length c) ys) ∧ Hid (Below w0.heap.size w0 w') ∧ Hid (Kept w w' (fun k => some k = (Value.slice A xs.length c).ownBlock)))
  case atStart => exact ⟨0, xs, rfl, (show _ + _ = _ by omega), rfl, R0.out, B0.out, Kept.refl _ _⟩
  case round =>
    obtain ⟨i, ys, rfl, HI, HY, R1, B1, K1⟩ := hrel
    cases gk with
    | zero =>
      have hi : i = xs.length := HI.out
      have c2 : decide (i < xs.length) = false := by simp; omega
      clear hi
      have P2 := Lib.hid (blk_new wr (.cells #[.int .i64 (-2), .int .i64 0, .int .i64 0, .int .i64 0, .string ⟨#[]⟩, .string ⟨#[]⟩, .int .i64 0, .int .i64 (-3), .int .i64 0, .int .i64 0, .int .i64 0, .string ⟨#[]⟩, .string ⟨#[]⟩, .int .i64 0] tU))
      have R2 := Lib.hid (Kd.R_alloc R1.out (.cells #[.int .i64 (-2), .int .i64 0, .int .i64 0, .int .i64 0, .string ⟨#[]⟩, .string ⟨#[]⟩, .int .i64 0, .int .i64 (-3), .int .i64 0, .int .i64 0, .int .i64 0, .string ⟨#[]⟩, .string ⟨#[]⟩, .int .i64 0] tU))
      have B2 := Lib.hid (below_alloc B1.out (.cells #[.int .i64 (-2), .int .i64 0, .int .i64 0, .int .i64 0, .string ⟨#[]⟩, .string ⟨#[]⟩, .int .i64 0, .int .i64 (-3), .int .i64 0, .int .i64 0, .int .i64 0, .string ⟨#[]⟩, .string ⟨#[]⟩, .int .i64 0] tU))
      have K2 := Lib.hid (K1.out.alloc (.cells #[.int .i64 (-2), .int .i64 0, .int .i64 0, .int .i64 0, .string ⟨#[]⟩, .string ⟨#[]⟩, .int .i64 0, .int .i64 (-3), .int .i64 0, .int .i64 0, .int .i64 0, .string ⟨#[]⟩, .string ⟨#[]⟩, .int .i64 0] tU))
      have C2 := Lib.hid (C_of_blk (ls := [uS (-2), uS (-3)]) P2.out ⟨by simp, fun j p hj => by
        match j, hj with
        | 0, hj =>
          simp only [List.getElem?_cons_zero, Option.some.injEq] at hj
          subst hj
          exact ⟨rfl, rfl, rfl, rfl, rfl, rfl, rfl⟩
        | 1, hj =>
          simp only [List.getElem?_cons_succ, List.getElem?_cons_zero, Option.some.injEq] at hj
          subst hj
          exact ⟨rfl, rfl, rfl, rfl, rfl, rfl, rfl⟩
        | j + 2, hj => simp at hj⟩ (by simp))
      have hbb : base ≤ (wr.alloc (.cells #[.int .i64 (-2), .int .i64 0, .int .i64 0, .int .i64 0, .string ⟨#[]⟩, .string ⟨#[]⟩, .int .i64 0, .int .i64 (-3), .int .i64 0, .int .i64 0, .int .i64 0, .string ⟨#[]⟩, .string ⟨#[]⟩, .int .i64 0] tU)).heap.size := by have := K2.out.1; omega
      have hyl : (ys.length + 2) * 72 ≤ 140737488355328 := by have := HY.out; omega
      have RB := Lib.hid (Kd.R_base R1.out)
      go_wp2_with ((at_builtin; refine Kd.R_append_rows kU (Rr := fun u cs => cs = u.cells) (w0 := _) base rfl (.tmp 19) (.tmp 22) 24 tU (.agg #[.int .i64 0, .int .i64 0, .int .i64 0, .int .i64 0, .string ⟨#[]⟩, .string ⟨#[]⟩, .int .i64 0]) 72 rfl Try.underlying24 info_U rfl (by decide) (by decide) (.slice A xs.length c) ys [uS (-2), uS (-3)] (some ⟨wr.heap.size, 0, none⟩) 2 2 (fun _ => True) (fun _ => False) rfl rfl R2.out C2.out (fun _ _ h => h) (fun _ h => h.elim) (fun _ _ => trivial) (Below.refl _ _) hbb hyl ?_); intro v7 w7 hr7 hb7 hg7 hat7; (have K7 := Lib.hid (Kept.of_grown hg7 K2.out (fun k e => .inl e.symm))); (have B7 := Lib.hid (pw_below_grown B2.out _ B2.out.size hg7 (fun k e => by have := RB.out k e; omega))); (obtain ⟨A7, c7, rfl, _⟩ := R_LR hr7); (have h7 : (ys ++ [uS (-2), uS (-3)]).length = ys.length + 2 := by simp); rw [h7]; clear hr7 hb7 hg7 hat7 h7; (have t7 : decide ((2 : Int) ≤ (ys.length : Int) + 2) = true := by simp; omega))
      go_ret
      exact ⟨rfl, K7.out, B7.out⟩
    | succ k1 =>
      have hi : i < xs.length := by have := HI.out; omega
      have hiy : i < ys.length := by have := HY.out; omega
      have hu := List.getElem?_eq_getElem hiy
      generalize ys[i] = u at *
      obtain ⟨g, cap, cur, hv, _, hbg, hG, hnc, hcm, hcs, hL⟩ := R_blk R1.out (by omega)
      injection hv with hvA hvl hvc
      subst hvA
      subst hvc
      have HU := Lib.hid hu
      have G1 := Lib.hid hG
      have LL := Lib.hid hL
      have HCS := Lib.hid hcs
      have HCM := Lib.hid hcm
      have HNC := Lib.hid hnc
      have c2 : decide (i < xs.length) = true := by simpa using hi
      have p1 := eq_true (show 0 ≤ (i : Int) by omega)
      have p2 := eq_true (show i < xs.length by omega)
      clear hvl
      have c4 := (blkc G1.out (i * 7 + 3 + 1)).trans (hL.2 i u hu).2.2.2.2.1
      have z4 := blkz G1.out (i * 7 + 3 + 1)
      have G2 := Lib.hid (blk_set G1.out (i * 7 + 3 + 1) (.string ⟨#[115, 112, 111, 105, 108, 116]⟩))
      have L2 := Lib.hid (hL.field (u' := { u with key := ⟨#[115, 112, 111, 105, 108, 116]⟩ }) hu 4 (by omega) (.string ⟨#[115, 112, 111, 105, 108, 116]⟩) rfl)
      have hiy2 : (ys.set i { u with key := ⟨#[115, 112, 111, 105, 108, 116]⟩ })[i]? = some { u with key := ⟨#[115, 112, 111, 105, 108, 116]⟩ } := by rw [List.getElem?_set_self hiy]
      have c0 := (blkc G2.out (i * 7)).trans (L2.out.2 i _ hiy2).1
      have z0 := blkz G2.out (i * 7)
      have G3 := Lib.hid (blk_set G2.out (i * 7) (.int .i64 (-1)))
      have L3 := Lib.hid (L2.out.field (u' := { u with key := ⟨#[115, 112, 111, 105, 108, 116]⟩, seq := -1 }) hiy2 0 (by omega) (.int .i64 (-1)) rfl)
      have B3 := Lib.hid (below_set (j := i * 7) (v := .int .i64 (-1)) (below_set (j := i * 7 + 3 + 1) (v := .string ⟨#[115, 112, 111, 105, 108, 116]⟩) B1.out (by omega : w0.heap.size ≤ g)) (by omega : w0.heap.size ≤ g))
      have K3 := Lib.hid ((K1.out.setCell (p := ⟨g, i * 7 + 3 + 1, none⟩) (.inl rfl) (.string ⟨#[115, 112, 111, 105, 108, 116]⟩)).setCell (p := ⟨g, i * 7, none⟩) (.inl rfl) (.int .i64 (-1)))
      clear hu hG hL hcs hcm hnc hiy2
      go_wp2_with fail
      go_roundg k1
      case measure => exact Nat.lt_succ_self _
      case rel =>
        refine ⟨i + 1, (ys.set i { u with key := ⟨#[115, 112, 111, 105, 108, 116]⟩ }).set i { u with key := ⟨#[115, 112, 111, 105, 108, 116]⟩, seq := -1 }, rfl, Lib.hid (by have := HI.out; omega), Lib.hid (by simp; exact HY.out), ?_, B3.out, K3.out⟩
        have h := R_of_blk (base := base) (ok := fun _ => True) (xs := (ys.set i { u with key := ⟨#[115, 112, 111, 105, 108, 116]⟩ }).set i { u with key := ⟨#[115, 112, 111, 105, 108, 116]⟩, seq := -1 }) trivial hbg G3.out (by simp; exact HNC.out) HCM.out (by simp; exact HCS.out) L3.out
        have e : ((ys.set i { u with key := ⟨#[115, 112, 111, 105, 108, 116]⟩ }).set i { u with key := ⟨#[115, 112, 111, 105, 108, 116]⟩, seq := -1 }).length = xs.length := by simp; exact HY.out
        rw [e] at h
        exact h
end Go.Proofs.Ytofmgijdeeikeaa.Hop
