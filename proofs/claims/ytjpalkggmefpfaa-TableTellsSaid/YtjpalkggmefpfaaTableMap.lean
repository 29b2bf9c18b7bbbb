/- TableMap, walked. -/
import Derived.Test.YtjpalkggmefpfaaTable
import Derived.Test.YtjpalkggmefpfaaTabKinds
set_option linter.unusedVariables false
set_option linter.unusedSimpArgs false
namespace Go.Proofs.Ytjpalkggmefpfaa.Tab
open Go.RowKit Go.Proofs.Ytjpalkggmefpfaa.Mem Go.Proofs.YtjpalkggmefpfaaW.PrintWords Go.Proofs.YtjpalkggmefpfaaW.PrintLast Go.Deep Go.Proofs.Ytjpalkggmefpfaa.Opn
abbrev tOp : TypeId := 47
theorem TabR.set_row {w : World} {g b j : Nat} {l : List Row} {v : Value} {cs : Array Value} (h : TabR w g l) (hb : w.heap[b]? = some (.cells cs tRow (0, 0))) : TabR (w.setCell ⟨b, j, none⟩ v) g l := by
  obtain ⟨t, root, h1, h2, h3⟩ := h
  exact ⟨t, root, blk_far (p := ⟨b, j, none⟩) h1 (blk_ne h1 hb (show tTab ≠ tRow by decide)) v, h2.set hb (show tN ≠ tRow by decide), h3⟩
theorem new_some (w : World) : Calls Try.prog 21 #[] w fun e w' => ∃ g, e = .returned (.pointer (some ⟨g, 0, none⟩)) ∧ w.heap.size ≤ g ∧ TabR w' g [] ∧ Below w.heap.size w w' :=
  (new_any w).mono fun e w' ⟨h1, h2, h3⟩ => ⟨_, h1, Nat.le_refl _, h2, h3⟩
/-- Three stores of a row into a block of its own. -/
theorem set_row3 {w : World} {b : Nat} {cs : Array Value} (h : w.heap[b]? = some (.cells cs tRow (0, 0))) (hs : cs.size = 3) (x y z : Value) : (((w.setCell ⟨b, 0, none⟩ x).setCell ⟨b, 1, none⟩ y).setCell ⟨b, 2, none⟩ z).heap[b]? = some (.cells #[x, y, z] tRow (0, 0)) := by
  have h1 := blk_set (blk_set (blk_set h 0 x) 1 y) 2 z
  rw [h1]
  obtain ⟨l⟩ := cs
  match l, hs with
  | [a, b, c], _ => simp
theorem TabR.set_row3 {w : World} {g b : Nat} {l : List Row} {cs : Array Value} (h : TabR w g l) (hb : w.heap[b]? = some (.cells cs tRow (0, 0))) (x y z : Value) : TabR (((w.setCell ⟨b, 0, none⟩ x).setCell ⟨b, 1, none⟩ y).setCell ⟨b, 2, none⟩ z) g l :=
  ((h.set_row hb (j := 0) (v := x)).set_row (blk_set hb 0 x) (j := 1) (v := y)).set_row (blk_set (blk_set hb 0 x) 1 y) (j := 2) (v := z)
theorem below_row3 {w W : World} {b : Nat} (h : Below w.heap.size w W) (hb : w.heap.size ≤ b) (x y z : Value) : Below w.heap.size w (((W.setCell ⟨b, 0, none⟩ x).setCell ⟨b, 1, none⟩ y).setCell ⟨b, 2, none⟩ z) :=
  below_set (below_set (below_set h hb) hb) hb
abbrev rK : Row := ⟨⟨#[107]⟩, ⟨#[]⟩, 9⟩
theorem putL_k : putL [] rK = (0, [rK]) := by
  unfold putL
  rw [if_pos (by decide), if_pos (.inr (by simp))]
  rfl
theorem find_k : find [rK] ⟨#[107]⟩ = some rK := by
  unfold find
  rw [List.find?_cons, eq_iff.2 rfl]
theorem without_k : without ⟨#[107]⟩ [rK] = [] := by
  unfold without
  rw [List.filter_cons, eq_iff.2 rfl]
  rfl
theorem put_code {l : List Row} {r : Row} (h : (putL l r).1 = 0) : (putL l r).2 = below r.key l ++ r :: above r.key l := by
  unfold putL at *
  split at h
  · rename_i h1
    rw [if_pos h1]
    split at h
    · rename_i h2
      rw [if_pos h2]
    · exact absurd h (show ¬ (3 : Int) = 0 by decide)
  · rename_i h1
    exact absurd h h1
theorem put_not {l : List Row} {r : Row} (h : (putL l r).1 ≠ 0) : (putL l r).2 = l ∧ (r.check = 0 → ¬ l.length < 1048576) := by
  unfold putL at *
  split
  · rename_i h1
    rw [if_pos h1] at h
    split
    · rename_i h2
      rw [if_pos h2] at h
      exact absurd rfl h
    · rename_i h2
      exact ⟨rfl, fun _ h3 => h2 (.inr h3)⟩
  · rename_i h1
    exact ⟨rfl, fun h2 => absurd h2 h1⟩
set_option maxHeartbeats 6400000 in
set_option maxRecDepth 100000 in
theorem map_any (script : List TStep) (Ag : Option Addr) (cg : Nat) (key : ByteArray) (w : World) (hcg : script.length ≤ cg) (hlen : script.length ≤ 1649267441664) (hG : kTOp.C w Ag script.length script) :
    Calls Try.prog 6 #[.slice Ag script.length cg, .string key] w fun e w' => e = .returned (.bool true) ∧ Below w.heap.size w w' := by
  have HG := Lib.hid hG
  clear hG
  go_enter Try.func6, Try.ntmps6
  go_wp2_with fail
  refine (new_some w).mono ?_
  rintro e w1 ⟨g, rfl, hg, hT1, hb1⟩
  have T1 := Lib.hid hT1
  have B1 := Lib.hid hb1
  clear hT1 hb1
  go_wp2_with fail
  refine (tput_any (w0 := w) rK T1.out LOk.nil hg B1.out).mono ?_
  rintro e w2 ⟨rfl, hT2, hk2, hb2⟩
  rw [putL_k] at hT2 ⊢
  have T2 := Lib.hid hT2
  have B2 := Lib.hid hb2
  have O2 : Hid (LOk [rK]) := Lib.hid (by have := LOk.nil.putL rK; rw [putL_k] at this; exact this)
  clear hT2 hk2 hb2
  go_wp2_with fail
  refine (tdel_any (w0 := w) ⟨#[107]⟩ T2.out O2.out hg B2.out).mono ?_
  rintro e w3 ⟨rfl, hT3, hk3, hb3⟩
  rw [without_k] at hT3
  rw [find_k]
  have T3 := Lib.hid (hT3.below (below_alloc (Below.refl _ _) (.cells #[Value.string ⟨#[]⟩, .string ⟨#[]⟩, .int .i64 0] tRow)))
  have B3 := Lib.hid (below_alloc hb3 (.cells #[Value.string ⟨#[]⟩, .string ⟨#[]⟩, .int .i64 0] tRow))
  have W3 := Lib.hid (blk_new w3 (.cells #[Value.string ⟨#[]⟩, .string ⟨#[]⟩, .int .i64 0] tRow))
  have hbw : w.heap.size ≤ w3.heap.size := hb3.size
  have hgw : g ≠ w3.heap.size := by have := hT3.lt; omega
  clear hT3 hk3 hb3
  go_wp2_with fail
  generalize (World.alloc w3 _) = W3w at *
  generalize w3.heap.size = b at *
  go_loopg [7, 25] script.length (fun kq v7 v25 w' => ∃ (k : Nat) (l : List Row), v25 = .int .i64 (k : Int) ∧ v7 = .bool (find l key).isSome ∧ Hid (k + kq = script.length) ∧ Hid (TabR w' g l) ∧ Hid (LOk l) ∧ Hid (w'.heap[b]? = some (.cells #[Value.string ((find l key).getD Row.zero).key, .string ((find l key).getD Row.zero).value, .int .i64 ((find l key).getD Row.zero).version] tRow (0, 0))) ∧ Hid (Below w.heap.size w w'))
  case atStart => exact ⟨0, [], rfl, rfl, (show _ + _ = _ by omega), T3.out, Lib.hid LOk.nil, W3.out, B3.out⟩
  case round =>
    clear T1 T2 T3 B1 B2 B3 O2 W3
    obtain ⟨k, l, rfl, rfl, HK, T, OK, Wt, B⟩ := hrel
    cases gk with
    | zero =>
      have hk : k = script.length := HK.out
      have c2 : decide (k < script.length) = false := by simp; omega
      clear hk
      go_wp2_with fail
      go_ret
      exact ⟨rfl, B.out⟩
    | succ k1 =>
      have hk : k < script.length := by have := HK.out; omega
      have hu := List.getElem?_eq_getElem hk
      generalize script[k] = s at *
      obtain ⟨ad, v, hA, hv, hx0, hx⟩ := at_TOp HG.out hu
      cases hA
      obtain ⟨Av, cv, ev, hvv⟩ := hv
      cases ev
      have hx0 := pw_cell_below (w1 := wr) B.out hx0
      have hx1 := pw_cell_below (w1 := wr) B.out (show w.cell? ⟨(ad.add (k * 11)).block, (ad.add (k * 11)).off + 1, none⟩ = some (.int .i64 s.table) from hx 1 (by omega) (by omega))
      have hx2 := pw_cell_below (w1 := wr) B.out (show w.cell? ⟨(ad.add (k * 11)).block, (ad.add (k * 11)).off + 2, none⟩ = some (.int .i64 s.to2) from hx 2 (by omega) (by omega))
      have hx3 := pw_cell_below (w1 := wr) B.out (show w.cell? ⟨(ad.add (k * 11)).block, (ad.add (k * 11)).off + 3, none⟩ = some (.string s.row.key) from hx 3 (by omega) (by omega))
      have hx4 := pw_cell_below (w1 := wr) B.out (show w.cell? ⟨(ad.add (k * 11)).block, (ad.add (k * 11)).off + 4, none⟩ = some (.string s.row.value) from hx 4 (by omega) (by omega))
      have hx5 := pw_cell_below (w1 := wr) B.out (show w.cell? ⟨(ad.add (k * 11)).block, (ad.add (k * 11)).off + 5, none⟩ = some (.int .i64 s.row.version) from hx 5 (by omega) (by omega))
      have hx6 := pw_cell_below (w1 := wr) B.out (show w.cell? ⟨(ad.add (k * 11)).block, (ad.add (k * 11)).off + 6, none⟩ = some (.string s.key) from hx 6 (by omega) (by omega))
      have hx7 := pw_cell_below (w1 := wr) B.out (show w.cell? ⟨(ad.add (k * 11)).block, (ad.add (k * 11)).off + 7, none⟩ = some (.string s.from_) from hx 7 (by omega) (by omega))
      have hx8 := pw_cell_below (w1 := wr) B.out (show w.cell? ⟨(ad.add (k * 11)).block, (ad.add (k * 11)).off + 8, none⟩ = some (.string s.upto) from hx 8 (by omega) (by omega))
      have hx9 := pw_cell_below (w1 := wr) B.out (show w.cell? ⟨(ad.add (k * 11)).block, (ad.add (k * 11)).off + 9, none⟩ = some (.slice Av s.rows.length cv) from hx 9 (by omega) (by omega))
      have hx10 := pw_cell_below (w1 := wr) B.out (show w.cell? ⟨(ad.add (k * 11)).block, (ad.add (k * 11)).off + 10, none⟩ = some (.int .i64 s.n) from hx 10 (by omega) (by omega))
      have c2 : decide (k < script.length) = true := by simpa using hk
      have p1 := eq_true (show 0 ≤ (k : Int) by omega)
      have p2 := eq_true (show k < script.length by omega)
      have P4 := Lib.hid (blk_new wr (.cells #[Value.int .i64 s.call, .int .i64 s.table, .int .i64 s.to2, .string s.row.key, .string s.row.value, .int .i64 s.row.version, .string s.key, .string s.from_, .string s.upto, .slice Av s.rows.length cv, .int .i64 s.n] tOp))
      have T4 := Lib.hid (T.out.below (below_alloc (Below.refl _ _) (.cells #[Value.int .i64 s.call, .int .i64 s.table, .int .i64 s.to2, .string s.row.key, .string s.row.value, .int .i64 s.row.version, .string s.key, .string s.from_, .string s.upto, .slice Av s.rows.length cv, .int .i64 s.n] tOp)))
      have W4 := Lib.hid (blk_below Wt.out (below_alloc (Below.refl _ _) (.cells #[Value.int .i64 s.call, .int .i64 s.table, .int .i64 s.to2, .string s.row.key, .string s.row.value, .int .i64 s.row.version, .string s.key, .string s.from_, .string s.upto, .slice Av s.rows.length cv, .int .i64 s.n] tOp)))
      have B4 := Lib.hid (below_alloc B.out (.cells #[Value.int .i64 s.call, .int .i64 s.table, .int .i64 s.to2, .string s.row.key, .string s.row.value, .int .i64 s.row.version, .string s.key, .string s.from_, .string s.upto, .slice Av s.rows.length cv, .int .i64 s.n] tOp))
      have hpw : w.heap.size ≤ wr.heap.size := B.out.size
      have hgp : wr.heap.size ≠ g := by have := T.out.lt; omega
      have hbp : wr.heap.size ≠ b := by have := blk_lt Wt.out; omega
      clear hu hx T Wt B hvv
      go_upto_region 9 with (fail)
      generalize wr.heap.size = q at *
      generalize (World.alloc wr _) = WA at *
      clear hx0 hx1 hx2 hx3 hx4 hx5 hx6 hx7 hx8 hx9 hx10 p1 p2
      have cp := blkc P4.out
      cases k0 : (s.call == 0) with
      | true =>
        have k1' : (s.call == 1) = false := by have e : s.call = 0 := by simpa using k0
                                               rw [e]; rfl
        go_wp2_with fail
        refine (tput_any (w0 := w) s.row T4.out OK.out hg B4.out).mono ?_
        rintro e w5 ⟨rfl, hT5, hk5, hb5⟩
        have P5 := Lib.hid (blk_kept P4.out hk5 hgp)
        have W5 := Lib.hid (blk_kept W4.out hk5 (fun e => hgw e.symm))
        have B5 := Lib.hid hb5
        have T5 := Lib.hid hT5
        have O5 := Lib.hid (OK.out.putL s.row)
        clear hT5 hk5 hb5 P4 W4 B4 T4 cp
        have cp := blkc P5.out
        cases hp : ((putL l s.row).1 == 0) with
        | true =>
          have HL := Lib.hid (put_code (l := l) (r := s.row) (by simpa using hp))
          cases h2 : (s.row.key.toList == key.toList) with
          | true =>
            have HF := Lib.hid (show find (putL l s.row).2 key = some s.row by rw [HL.out, find_put, if_pos (show eq s.row.key key = true from h2)])
            have cw := blkc W5.out
            have zw := blkz W5.out
            go_wp2_with fail
            have W6 := Lib.hid (set_row3 W5.out rfl (.string s.row.key) (.string s.row.value) (.int .i64 s.row.version))
            have T6 := Lib.hid (T5.out.set_row3 W5.out (.string s.row.key) (.string s.row.value) (.int .i64 s.row.version))
            have B6 := Lib.hid (below_row3 (b := b) B5.out hbw (.string s.row.key) (.string s.row.value) (.int .i64 s.row.version))
            clear cp cw zw
            generalize (World.setCell _ _ _) = WB at *
            have HC := tget_any T6.out O5.out.up key
            rw [HF.out] at HC
            simp only [Option.getD_some, Option.isSome_some] at HC
            refine HC.mono ?_
            rintro e wG ⟨rfl, hbG⟩
            clear HC
            have TG := Lib.hid (T6.out.below hbG)
            have WG := Lib.hid (blk_below W6.out hbG)
            have BG := Lib.hid (below_then B6.out B6.out.size hbG)
            clear hbG
            have TH := Lib.hid (TG.out.below (below_alloc (Below.refl _ _) (.cells #[Value.string s.row.key, .string s.row.value, .int .i64 s.row.version] tRow)))
            have WH := Lib.hid (blk_below WG.out (below_alloc (Below.refl _ _) (.cells #[Value.string s.row.key, .string s.row.value, .int .i64 s.row.version] tRow)))
            have BH := Lib.hid (below_alloc BG.out (.cells #[Value.string s.row.key, .string s.row.value, .int .i64 s.row.version] tRow))
            clear TG BG
            have cw := blkc WH.out
            have cr := blkc (blk_new wG (.cells #[Value.string s.row.key, .string s.row.value, .int .i64 s.row.version] tRow))
            go_wp2_with fail
            go_roundg k1
            case measure => exact Nat.lt_succ_self _
            case rel => exact ⟨k + 1, (putL l s.row).2, rfl, by rw [HF.out]; rfl, Lib.hid (by have := HK.out; omega), TH.out, O5.out, by rw [HF.out]; exact WH.out, BH.out⟩
          | false =>
            have HF := Lib.hid (show find (putL l s.row).2 key = find l key by rw [HL.out, find_put, if_neg (by rw [show eq s.row.key key = false from h2]; decide)])
            go_wp2_with fail
            clear cp
            have HC := tget_any T5.out O5.out.up key
            rw [HF.out] at HC
            refine HC.mono ?_
            rintro e wG ⟨rfl, hbG⟩
            clear HC
            have TG := Lib.hid (T5.out.below hbG)
            have WG := Lib.hid (blk_below W5.out hbG)
            have BG := Lib.hid (below_then B5.out B5.out.size hbG)
            clear hbG
            generalize hrr : (find l key).getD Row.zero = rr at *
            have HRR := Lib.hid hrr
            clear hrr
            have TH := Lib.hid (TG.out.below (below_alloc (Below.refl _ _) (.cells #[Value.string rr.key, .string rr.value, .int .i64 rr.version] tRow)))
            have WH := Lib.hid (blk_below WG.out (below_alloc (Below.refl _ _) (.cells #[Value.string rr.key, .string rr.value, .int .i64 rr.version] tRow)))
            have BH := Lib.hid (below_alloc BG.out (.cells #[Value.string rr.key, .string rr.value, .int .i64 rr.version] tRow))
            clear TG BG
            have cw := blkc WH.out
            have cr := blkc (blk_new wG (.cells #[Value.string rr.key, .string rr.value, .int .i64 rr.version] tRow))
            go_wp2_with fail
            go_roundg k1
            case measure => exact Nat.lt_succ_self _
            case rel => exact ⟨k + 1, (putL l s.row).2, rfl, by rw [HF.out], Lib.hid (by have := HK.out; omega), TH.out, O5.out, by rw [HF.out, HRR.out]; exact WH.out, BH.out⟩
        | false =>
          have HN := Lib.hid (put_not (l := l) (r := s.row) (by simpa using hp))
          have T7 := Lib.hid (show TabR w5 g l by have := T5.out; rw [HN.out.1] at this; exact this)
          cases h2 : (s.row.key.toList == key.toList) with
          | false =>
            go_wp2_with fail
            clear cp
            have HC := tget_any T7.out OK.out.up key
            refine HC.mono ?_
            rintro e wG ⟨rfl, hbG⟩
            clear HC
            have TG := Lib.hid (T7.out.below hbG)
            have WG := Lib.hid (blk_below W5.out hbG)
            have BG := Lib.hid (below_then B5.out B5.out.size hbG)
            clear hbG
            generalize hrr : (find l key).getD Row.zero = rr at *
            have HRR := Lib.hid hrr
            clear hrr
            have TH := Lib.hid (TG.out.below (below_alloc (Below.refl _ _) (.cells #[Value.string rr.key, .string rr.value, .int .i64 rr.version] tRow)))
            have WH := Lib.hid (blk_below WG.out (below_alloc (Below.refl _ _) (.cells #[Value.string rr.key, .string rr.value, .int .i64 rr.version] tRow)))
            have BH := Lib.hid (below_alloc BG.out (.cells #[Value.string rr.key, .string rr.value, .int .i64 rr.version] tRow))
            clear TG BG
            have cw := blkc WH.out
            have cr := blkc (blk_new wG (.cells #[Value.string rr.key, .string rr.value, .int .i64 rr.version] tRow))
            go_wp2_with fail
            go_roundg k1
            case measure => exact Nat.lt_succ_self _
            case rel => exact ⟨k + 1, l, rfl, rfl, Lib.hid (by have := HK.out; omega), TH.out, OK.out, by rw [HRR.out]; exact WH.out, BH.out⟩
          | true =>
            go_wp2_with fail
            refine (rCheck_any s.row.key s.row.value s.row.version w5).mono ?_
            rintro e w6 ⟨rfl, hb6⟩
            have T8 := Lib.hid (T7.out.below hb6)
            have W8 := Lib.hid (blk_below W5.out hb6)
            have B8 := Lib.hid (below_then B5.out B5.out.size hb6)
            clear hb6 cp
            cases h3 : (checkRow (s.row.key, s.row.value, s.row.version) == 0) with
            | false =>
              go_wp2_with fail
              have HC := tget_any T8.out OK.out.up key
              refine HC.mono ?_
              rintro e wG ⟨rfl, hbG⟩
              clear HC
              have TG := Lib.hid (T8.out.below hbG)
              have WG := Lib.hid (blk_below W8.out hbG)
              have BG := Lib.hid (below_then B8.out B8.out.size hbG)
              clear hbG
              generalize hrr : (find l key).getD Row.zero = rr at *
              have HRR := Lib.hid hrr
              clear hrr
              have TH := Lib.hid (TG.out.below (below_alloc (Below.refl _ _) (.cells #[Value.string rr.key, .string rr.value, .int .i64 rr.version] tRow)))
              have WH := Lib.hid (blk_below WG.out (below_alloc (Below.refl _ _) (.cells #[Value.string rr.key, .string rr.value, .int .i64 rr.version] tRow)))
              have BH := Lib.hid (below_alloc BG.out (.cells #[Value.string rr.key, .string rr.value, .int .i64 rr.version] tRow))
              clear TG BG
              have cw := blkc WH.out
              have cr := blkc (blk_new wG (.cells #[Value.string rr.key, .string rr.value, .int .i64 rr.version] tRow))
              go_wp2_with fail
              go_roundg k1
              case measure => exact Nat.lt_succ_self _
              case rel => exact ⟨k + 1, l, rfl, rfl, Lib.hid (by have := HK.out; omega), TH.out, OK.out, by rw [HRR.out]; exact WH.out, BH.out⟩
            | true =>
              have HLI : Hid (¬ ((l.length : Int) < 1048576)) := Lib.hid (by have := HN.out.2 (by simpa [Row.check] using h3); omega)
              go_wp2_with fail
              refine (len_any T8.out).mono ?_
              rintro e w7 ⟨rfl, rfl⟩
              have hlI := HLI.out
              clear HLI
              generalize (l.length : Int) = nn at hlI ⊢
              have dl : decide (nn < 1048576) = false := by simpa using hlI
              clear hlI
              go_wp2_with fail
              clear dl
              have HC := tget_any T8.out OK.out.up key
              refine HC.mono ?_
              rintro e wG ⟨rfl, hbG⟩
              clear HC
              have TG := Lib.hid (T8.out.below hbG)
              have WG := Lib.hid (blk_below W8.out hbG)
              have BG := Lib.hid (below_then B8.out B8.out.size hbG)
              clear hbG
              generalize hrr : (find l key).getD Row.zero = rr at *
              have HRR := Lib.hid hrr
              clear hrr
              have TH := Lib.hid (TG.out.below (below_alloc (Below.refl _ _) (.cells #[Value.string rr.key, .string rr.value, .int .i64 rr.version] tRow)))
              have WH := Lib.hid (blk_below WG.out (below_alloc (Below.refl _ _) (.cells #[Value.string rr.key, .string rr.value, .int .i64 rr.version] tRow)))
              have BH := Lib.hid (below_alloc BG.out (.cells #[Value.string rr.key, .string rr.value, .int .i64 rr.version] tRow))
              clear TG BG
              have cw := blkc WH.out
              have cr := blkc (blk_new wG (.cells #[Value.string rr.key, .string rr.value, .int .i64 rr.version] tRow))
              go_wp2_with fail
              go_roundg k1
              case measure => exact Nat.lt_succ_self _
              case rel => exact ⟨k + 1, l, rfl, rfl, Lib.hid (by have := HK.out; omega), TH.out, OK.out, by rw [HRR.out]; exact WH.out, BH.out⟩
      | false =>
        cases k1' : (s.call == 1) with
        | true =>
          go_wp2_with fail
          refine (tdel_any (w0 := w) s.key T4.out OK.out hg B4.out).mono ?_
          rintro e w5 ⟨rfl, hT5, hk5, hb5⟩
          have P5 := Lib.hid (blk_kept P4.out hk5 hgp)
          have W5 := Lib.hid (blk_kept W4.out hk5 (fun e => hgw e.symm))
          have B5 := Lib.hid hb5
          have T5 := Lib.hid hT5
          have O5 := Lib.hid (OK.out.without s.key)
          clear hT5 hk5 hb5 P4 W4 B4 T4 cp
          have cp := blkc P5.out
          cases h2 : (s.key.toList == key.toList) with
          | true =>
            rw [show find l s.key = find l key by rw [eq_iff.1 (show eq s.key key = true from h2)]]
            have HF := Lib.hid (show find (without s.key l) key = none by rw [find_without, if_pos (show eq s.key key = true from h2)])
            have cw := blkc W5.out
            have zw := blkz W5.out
            go_wp2_with fail
            have W6 := Lib.hid (set_row3 W5.out rfl (.string ⟨#[]⟩) (.string ⟨#[]⟩) (.int .i64 0))
            have T6 := Lib.hid (T5.out.set_row3 W5.out (.string ⟨#[]⟩) (.string ⟨#[]⟩) (.int .i64 0))
            have B6 := Lib.hid (below_row3 (b := b) B5.out hbw (.string ⟨#[]⟩) (.string ⟨#[]⟩) (.int .i64 0))
            clear cp cw zw
            generalize (World.setCell _ _ _) = WB at *
            have HC := tget_any T6.out O5.out.up key
            rw [HF.out] at HC
            simp only [Option.getD_none, Option.isSome_none, Row.val, Row.zero] at HC
            refine HC.mono ?_
            rintro e wG ⟨rfl, hbG⟩
            clear HC
            have TG := Lib.hid (T6.out.below hbG)
            have WG := Lib.hid (blk_below W6.out hbG)
            have BG := Lib.hid (below_then B6.out B6.out.size hbG)
            clear hbG
            have TH := Lib.hid (TG.out.below (below_alloc (Below.refl _ _) (.cells #[Value.string ⟨#[]⟩, .string ⟨#[]⟩, .int .i64 0] tRow)))
            have WH := Lib.hid (blk_below WG.out (below_alloc (Below.refl _ _) (.cells #[Value.string ⟨#[]⟩, .string ⟨#[]⟩, .int .i64 0] tRow)))
            have BH := Lib.hid (below_alloc BG.out (.cells #[Value.string ⟨#[]⟩, .string ⟨#[]⟩, .int .i64 0] tRow))
            clear TG BG
            have cw := blkc WH.out
            have cr := blkc (blk_new wG (.cells #[Value.string ⟨#[]⟩, .string ⟨#[]⟩, .int .i64 0] tRow))
            go_wp2_with fail
            go_roundg k1
            case measure => exact Nat.lt_succ_self _
            case rel => exact ⟨k + 1, (without s.key l), rfl, by rw [HF.out]; rfl, Lib.hid (by have := HK.out; omega), TH.out, O5.out, by rw [HF.out]; exact WH.out, BH.out⟩
          | false =>
            have HF := Lib.hid (show find (without s.key l) key = find l key by rw [find_without, if_neg (by rw [show eq s.key key = false from h2]; decide)])
            go_wp2_with fail
            clear cp
            have HC := tget_any T5.out O5.out.up key
            rw [HF.out] at HC
            refine HC.mono ?_
            rintro e wG ⟨rfl, hbG⟩
            clear HC
            have TG := Lib.hid (T5.out.below hbG)
            have WG := Lib.hid (blk_below W5.out hbG)
            have BG := Lib.hid (below_then B5.out B5.out.size hbG)
            clear hbG
            generalize hrr : (find l key).getD Row.zero = rr at *
            have HRR := Lib.hid hrr
            clear hrr
            have TH := Lib.hid (TG.out.below (below_alloc (Below.refl _ _) (.cells #[Value.string rr.key, .string rr.value, .int .i64 rr.version] tRow)))
            have WH := Lib.hid (blk_below WG.out (below_alloc (Below.refl _ _) (.cells #[Value.string rr.key, .string rr.value, .int .i64 rr.version] tRow)))
            have BH := Lib.hid (below_alloc BG.out (.cells #[Value.string rr.key, .string rr.value, .int .i64 rr.version] tRow))
            clear TG BG
            have cw := blkc WH.out
            have cr := blkc (blk_new wG (.cells #[Value.string rr.key, .string rr.value, .int .i64 rr.version] tRow))
            go_wp2_with fail
            go_roundg k1
            case measure => exact Nat.lt_succ_self _
            case rel => exact ⟨k + 1, (without s.key l), rfl, by rw [HF.out], Lib.hid (by have := HK.out; omega), TH.out, O5.out, by rw [HF.out, HRR.out]; exact WH.out, BH.out⟩
        | false =>
          go_wp2_with fail
          clear cp
          have HC := tget_any T4.out OK.out.up key
          refine HC.mono ?_
          rintro e wG ⟨rfl, hbG⟩
          clear HC
          have TG := Lib.hid (T4.out.below hbG)
          have WG := Lib.hid (blk_below W4.out hbG)
          have BG := Lib.hid (below_then B4.out B4.out.size hbG)
          clear hbG
          generalize hrr : (find l key).getD Row.zero = rr at *
          have HRR := Lib.hid hrr
          clear hrr
          have TH := Lib.hid (TG.out.below (below_alloc (Below.refl _ _) (.cells #[Value.string rr.key, .string rr.value, .int .i64 rr.version] tRow)))
          have WH := Lib.hid (blk_below WG.out (below_alloc (Below.refl _ _) (.cells #[Value.string rr.key, .string rr.value, .int .i64 rr.version] tRow)))
          have BH := Lib.hid (below_alloc BG.out (.cells #[Value.string rr.key, .string rr.value, .int .i64 rr.version] tRow))
          clear TG BG
          have cw := blkc WH.out
          have cr := blkc (blk_new wG (.cells #[Value.string rr.key, .string rr.value, .int .i64 rr.version] tRow))
          go_wp2_with fail
          go_roundg k1
          case measure => exact Nat.lt_succ_self _
          case rel => exact ⟨k + 1, l, rfl, rfl, Lib.hid (by have := HK.out; omega), TH.out, OK.out, by rw [HRR.out]; exact WH.out, BH.out⟩
end Go.Proofs.Ytjpalkggmefpfaa.Tab
namespace Go.Proofs.Ytjpalkggmefpfaa.Walk
open Go.RowKit Go.Proofs.Ytjpalkggmefpfaa.Opn Go.Proofs.Ytjpalkggmefpfaa.Tab Go.Proofs.YtjpalkggmefpfaaW.PrintWords
theorem bytesTOp : Try.prog.bytesOf 47 = 144 := by kernel_rfl
theorem TableMap (l : List TStep) (A : Option Addr) (n : Nat) (key : ByteArray) (W : World) (hl : l.length ≤ n) (hC : kTOp.C W A l.length l) (hm : l.length ≤ 9223372036854775807) (hq : ∀ a ∈ l, pTOp a) (hr : l.length * Try.prog.bytesOf 47 ≤ 140737488351232) (hk : key.size ≤ 9223372036854775807) :
    Calls Try.prog 6 #[.slice A l.length n, .string key] W fun e W' => e = .returned (.bool true) ∧ Below W.heap.size W W' := by
  rw [bytesTOp] at hr
  exact Tab.map_any l A n key W hl (by omega) hC
end Go.Proofs.Ytjpalkggmefpfaa.Walk
