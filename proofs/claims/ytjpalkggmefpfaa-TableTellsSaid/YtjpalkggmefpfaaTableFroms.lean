/- TableFroms, walked. -/
import Derived.Test.YtjpalkggmefpfaaTabLend
import Derived.Test.YtjpalkggmefpfaaTable
set_option linter.unusedVariables false
set_option linter.unusedSimpArgs false
namespace Go.Proofs.Ytjpalkggmefpfaa.Tab
open Go.RowKit Go.Proofs.Ytjpalkggmefpfaa.Mem Go.Proofs.YtjpalkggmefpfaaW.PrintWords Go.Proofs.YtjpalkggmefpfaaW.PrintLast Go.Deep Go.Proofs.Ytjpalkggmefpfaa.Opn
attribute [local go_sem ↓] execOp_call_tmp
attribute [local go_sem] callVal_func
theorem TabR.set3 {w : World} {g b : Nat} {l : List Row} {cs : Array Value} (h : TabR w g l) (hb : w.heap[b]? = some (.cells cs tRow (0, 0))) (i : Nat) (x y z : Value) : TabR (((w.setCell ⟨b, i, none⟩ x).setCell ⟨b, i + 1, none⟩ y).setCell ⟨b, i + 2, none⟩ z) g l :=
  ((h.set_row hb (j := i) (v := x)).set_row (blk_set hb i x) (j := i + 1) (v := y)).set_row (blk_set (blk_set hb i x) (i + 1) y) (j := i + 2) (v := z)
theorem below_set3 {w W : World} {b : Nat} (h : Below w.heap.size w W) (hb : w.heap.size ≤ b) (i : Nat) (x y z : Value) : Below w.heap.size w (((W.setCell ⟨b, i, none⟩ x).setCell ⟨b, i + 1, none⟩ y).setCell ⟨b, i + 2, none⟩ z) :=
  below_set (below_set (below_set h hb) hb) hb
theorem some_at {cs : Array Value} {i : Nat} (h : i < cs.size) : ∃ x, cs[i]? = some x := ⟨cs[i], Array.getElem?_eq_getElem h⟩
theorem own_blk {w : World} {base v n cap : Nat} {ok : Nat → Prop} {l : List Row} (h : kR.R tRow w base ok (.slice (some ⟨v, 0, none⟩) n cap) l) (hp : 0 < n) : ∃ cs, w.heap[v]? = some (.cells cs tRow (0, 0)) ∧ cs.size = cap * 3 ∧ n ≤ cap ∧ base ≤ v := by
  have hb := Kd.R_base h v (by simp [Value.ownBlock])
  have hn := (Kd.R_reads' h).1
  obtain ⟨inner, ho⟩ := Kd.R_own h
  rcases ho.2 with ⟨_, h0⟩ | ⟨g, cap', cur, he, hb, hh, hnc, hcm, hcs, ht⟩
  · omega
  · injection he with h1 h2 h3
    injection h1 with h1
    injection h1 with h1
    subst h1
    subst h3
    exact ⟨cur, hh, hcs, by omega, hb⟩
theorem lt_none (k : ByteArray) : lt k ⟨#[]⟩ = false := by
  cases h : lt k ⟨#[]⟩ with
  | false => rfl
  | true =>
    exfalso
    unfold lt at h
    revert h
    cases k.toList <;> simp [Op.bytesLess, ByteArray.toList_eq]
theorem told_all (l : List Row) : firstN (segD false l (below ⟨#[]⟩ l).length (upTo l ⟨#[]⟩)) (-1) = l := by
  have h1 : below ⟨#[]⟩ l = [] := by
    unfold below
    rw [List.filter_eq_nil_iff]
    intro x _
    simp [lt_none]
  rw [h1, show upTo l ⟨#[]⟩ = l.length from rfl]
  show firstN (seg l 0 l.length) (-1) = l
  rw [seg_all]
  exact firstN_all (by omega)
abbrev ra : Row := ⟨⟨#[97]⟩, ⟨#[]⟩, 1⟩
abbrev rb : Row := ⟨⟨#[98]⟩, ⟨#[]⟩, 1⟩
theorem list_ab : listErr [ra, rb] = 0 := by
  have h1 : ra.check = 0 := by decide
  have h2 : rb.check = 0 := by decide
  have h3 : lt ra.key rb.key = true := by simp [lt, ByteArray.toList_eq, Op.bytesLess]
  unfold listErr
  rw [if_neg (by simp)]
  simp only [scanP, h1, h2, h3, if_true]
set_option maxHeartbeats 6400000 in
set_option maxRecDepth 100000 in
theorem froms_ok {l : List Row} {A : Option Addr} {n : Nat} (w : World) (hcap : l.length ≤ n) (hbig : l.length ≤ 3518437208780) (hC : kR.C w A l.length l) (hz : listErr l = 0) :
    Calls Try.prog 5 #[.slice A l.length n] w fun e w' => e = .returned (.bool true) ∧ Below w.heap.size w w' := by
  have HC := Lib.hid hC
  have HCAP := Lib.hid hcap
  have HBIG := Lib.hid hbig
  have HZ := Lib.hid hz
  clear hC hcap hz
  go_enter Try.func5, Try.ntmps5
  go_wp2_with fail
  refine (lend_any HC.out hbig).mono ?_
  rintro e w1 ⟨v, cap, hR, rfl, hcap, hb1⟩
  obtain ⟨cs1, hv1, hcs1, _, hbv⟩ := own_blk hR (by omega)
  have hvr := Kd.R_reads' hR
  have B1 := Lib.hid hb1
  have V1 := Lib.hid hv1
  have HCS1 := Lib.hid hcs1
  have HCP := Lib.hid hcap
  have D1 : Hid (kR.C w1 (some ⟨v, 0, none⟩) (l.length + 2) (l ++ [sp7, sp8])) := Lib.hid (by have h := hvr.2.2; rw [← hvr.1] at h; exact h)
  have C1 := Lib.hid (C_lent hR)
  clear hR hb1 hv1 hcs1 hcap hvr
  go_wp2_with fail
  refine (from_any (by have := HCP.out; omega) C1.out (by omega)).mono ?_
  rintro e w2 ⟨hcase, hb2⟩
  have B2 := Lib.hid (below_then B1.out B1.out.size hb2)
  have V2 := Lib.hid (blk_below V1.out hb2)
  have D2 := Lib.hid (Kd.C_below D1.out hb2)
  clear hb2 B1 V1 D1 C1 hbig
  obtain ⟨g, rfl, hg, hT⟩ : ∃ g, e = Ending.returned (.tuple #[.pointer (some ⟨g, 0, none⟩), .int .i64 0]) ∧ w1.heap.size ≤ g ∧ TabR w2 g l := by
    rcases hcase with ⟨_, h⟩ | ⟨h, _⟩
    · exact h
    · exact absurd HZ.out h
  have T2 := Lib.hid hT
  have HOK := Lib.hid (listErr_ok HZ.out)
  clear hcase hT hg
  go_wp2_with fail
  refine (refList_any HCAP.out (Kd.C_below HC.out B2.out) (by have := HBIG.out; omega)).mono ?_
  rintro e w3 ⟨rfl, hb3⟩
  have B3 := Lib.hid (below_then B2.out B2.out.size hb3)
  have V3 := Lib.hid (blk_below V2.out hb3)
  have D3 := Lib.hid (Kd.C_below D2.out hb3)
  have T3 := Lib.hid (T2.out.below hb3)
  have hz := HZ.out
  rw [hz]
  clear hz hb3 B2 V2 D2 T2
  go_wp2_with fail
  refine (kept_any (Kd.C_below HC.out B3.out) D3.out HBIG.out).mono ?_
  rintro e w4 ⟨rfl, hb4⟩
  have B4 := Lib.hid (below_then B3.out B3.out.size hb4)
  have V4 := Lib.hid (blk_below V3.out hb4)
  have T4 := Lib.hid (T3.out.below hb4)
  clear hb4 B3 V3 D3 T3
  go_wp2_with fail
  go_loopg [39] (l.length + 2) (fun kq v39 w' => ∃ (k : Nat) (cs : Array Value), v39 = .int .i64 (k : Int) ∧ Hid (k + kq = l.length + 2) ∧ Hid (w'.heap[v]? = some (.cells cs tRow (0, 0))) ∧ Hid (cs.size = cap * 3) ∧ Hid (Below w.heap.size w w') ∧ Hid (TabR w' g l))
  case atStart => exact ⟨0, cs1, rfl, (show _ + _ = _ by omega), V4, HCS1, B4, T4⟩
  case round =>
    clear V4 B4 T4 HCS1
    obtain ⟨k, cs, rfl, HK, V, HCS, B, T⟩ := hrel
    cases gk with
    | zero =>
      have hk : k = l.length + 2 := HK.out
      have c2 : ((k : Int) < (l.length : Int) + 2) = False := _root_.eq_false (by omega)
      have c3 : decide ((k : Int) < (l.length : Int) + 2) = false := by simp; omega
      clear hk
      go_wp2_with fail
      refine (whole_any wr).mono ?_
      rintro e w5 ⟨rfl, hb5⟩
      have B5 := Lib.hid (below_then B.out B.out.size hb5)
      have T5 := Lib.hid (T.out.below hb5)
      clear hb5 B T V c2 c3
      go_wp2_with fail
      refine (told_up T5.out HOK.out ⟨#[]⟩ ⟨#[]⟩ (-1)).mono ?_
      rintro e w6 ⟨v6, rfl, hr6, hb6⟩
      rw [told_all] at hr6
      obtain ⟨A6, c6, rfl, _, hC6⟩ := C_of_own hr6
      have B6 := Lib.hid (below_then B5.out B5.out.size hb6)
      have T6 := Lib.hid (T5.out.below hb6)
      have C6 := Lib.hid hC6
      clear hb6 B5 T5 hr6 hC6
      go_wp2_with fail
      refine (same_any w6 A6 A c6 n l C6.out (Kd.C_below HC.out B6.out)).mono ?_
      rintro e w7 ⟨rfl, hb7⟩
      have B7 := Lib.hid (below_then B6.out B6.out.size hb7)
      have T7 := Lib.hid (T6.out.below hb7)
      clear hb7 B6 T6
      go_wp2_with fail
      refine (len_any T7.out).mono ?_
      rintro e w8 ⟨rfl, rfl⟩
      have B8 := Lib.hid (below_alloc B7.out (.cells #[.string ⟨#[97]⟩, .string ⟨#[]⟩, .int .i64 1, .string ⟨#[98]⟩, .string ⟨#[]⟩, .int .i64 1] tRow))
      have C8 := Lib.hid ((Kd.R_reads' (R_of_own (l := [ra, rb]) (World.ownsRow_lit (base := w.heap.size) (e := tRow) (size := 3) w7 #[.string ⟨#[97]⟩, .string ⟨#[]⟩, .int .i64 1, .string ⟨#[98]⟩, .string ⟨#[]⟩, .int .i64 1] 2 B7.out.size (by decide) rfl))).2.2)
      clear B7
      go_wp2_with fail
      refine (from_any (l := [ra, rb]) (c := 2) (Nat.le_refl _) C8.out (by decide)).mono ?_
      rintro e w9 ⟨hcase9, hb9⟩
      obtain ⟨g9, rfl, hT9⟩ : ∃ g, e = Ending.returned (.tuple #[.pointer (some ⟨g, 0, none⟩), .int .i64 0]) ∧ TabR w9 g [ra, rb] := by
        rcases hcase9 with ⟨_, g, h1, _, h2⟩ | ⟨h, _⟩
        · exact ⟨g, h1, h2⟩
        · exact absurd list_ab h
      have T9 := Lib.hid hT9
      have B9 := Lib.hid (below_then B8.out B8.out.size hb9)
      clear hcase9 hT9 hb9 B8 C8
      go_wp2_with fail
      refine (len_any T9.out).mono ?_
      rintro e w10 ⟨rfl, rfl⟩
      go_wp2
      go_ret
      exact ⟨rfl, B9.out⟩
    | succ k1 =>
      have hk : k < l.length + 2 := by have := HK.out; omega
      have hkc : k < cap := by have := HCP.out; omega
      have hcs := HCS.out
      have c2 : ((k : Int) < (l.length : Int) + 2) = True := eq_true (by omega)
      have c3 : decide ((k : Int) < (l.length : Int) + 2) = true := by simp; omega
      have p1 := eq_true (show 0 ≤ (k : Int) by omega)
      have p2 := eq_true (show k < l.length + 2 by omega)
      obtain ⟨x0, hx0⟩ := some_at (show k * 3 < cs.size by omega)
      obtain ⟨x1, hx1⟩ := some_at (cs := cs.setIfInBounds (k * 3) (.string ⟨#[122]⟩)) (show k * 3 + 1 < _ by simp; omega)
      obtain ⟨x2, hx2⟩ := some_at (cs := (cs.setIfInBounds (k * 3) (.string ⟨#[122]⟩)).setIfInBounds (k * 3 + 1) (.string ⟨#[]⟩)) (show k * 3 + 2 < _ by simp; omega)
      have V2 := Lib.hid (blk_set V.out (k * 3) (.string ⟨#[122]⟩))
      have V3 := Lib.hid (blk_set V2.out (k * 3 + 1) (.string ⟨#[]⟩))
      have V4 := Lib.hid (blk_set V3.out (k * 3 + 2) (.int .i64 99))
      have d0 := (blkc V.out (k * 3)).trans hx0
      have z0 := blkz V.out (k * 3)
      have d1 := (blkc V2.out (k * 3 + 1)).trans hx1
      have z1 := blkz V2.out (k * 3 + 1)
      have d2 := (blkc V3.out (k * 3 + 2)).trans hx2
      have z2 := blkz V3.out (k * 3 + 2)
      have B4 := Lib.hid (below_set3 B.out hbv (k * 3) (.string ⟨#[122]⟩) (.string ⟨#[]⟩) (.int .i64 99))
      have T4 := Lib.hid (T.out.set3 V.out (k * 3) (.string ⟨#[122]⟩) (.string ⟨#[]⟩) (.int .i64 99))
      have HF1 := Lib.hid (show wrap64 ((k : Int) + 1) = ((k + 1 : Nat) : Int) from by rw [← i64_w, IntWalk.i64_in _ (by have := HBIG.out; omega)]; omega)
      clear hx0 hx1 hx2 hcs hk hkc
      go_wp2_with fail
      go_roundg k1
      case measure => exact Nat.lt_succ_self _
      case rel => exact ⟨k + 1, _, by rw [HF1.out], Lib.hid (by have := HK.out; omega), V4, Lib.hid (by simp; exact HCS.out), B4, T4⟩
set_option maxHeartbeats 6400000 in
set_option maxRecDepth 100000 in
theorem froms_no {l : List Row} {A : Option Addr} {n : Nat} (w : World) (hcap : l.length ≤ n) (hbig : l.length ≤ 3518437208780) (hC : kR.C w A l.length l) (hz : listErr l ≠ 0) :
    Calls Try.prog 5 #[.slice A l.length n] w fun e w' => e = .returned (.bool true) ∧ Below w.heap.size w w' := by
  have HC := Lib.hid hC
  have HCAP := Lib.hid hcap
  have HBIG := Lib.hid hbig
  have HZ := Lib.hid hz
  clear hC hcap hz
  go_enter Try.func5, Try.ntmps5
  go_wp2_with fail
  refine (lend_any HC.out hbig).mono ?_
  rintro e w1 ⟨v, cap, hR, rfl, hcap, hb1⟩
  obtain ⟨cs1, hv1, hcs1, _, hbv⟩ := own_blk hR (by omega)
  have hvr := Kd.R_reads' hR
  have B1 := Lib.hid hb1
  have V1 := Lib.hid hv1
  have HCS1 := Lib.hid hcs1
  have HCP := Lib.hid hcap
  have D1 : Hid (kR.C w1 (some ⟨v, 0, none⟩) (l.length + 2) (l ++ [sp7, sp8])) := Lib.hid (by have h := hvr.2.2; rw [← hvr.1] at h; exact h)
  have C1 := Lib.hid (C_lent hR)
  clear hR hb1 hv1 hcs1 hcap hvr
  go_wp2_with fail
  refine (from_any (by have := HCP.out; omega) C1.out (by omega)).mono ?_
  rintro e w2 ⟨hcase, hb2⟩
  have B2 := Lib.hid (below_then B1.out B1.out.size hb2)
  have V2 := Lib.hid (blk_below V1.out hb2)
  have D2 := Lib.hid (Kd.C_below D1.out hb2)
  clear hb2 B1 V1 D1 C1 hbig
  obtain rfl : e = Ending.returned (.tuple #[.pointer none, .int .i64 (listErr l)]) := by
    rcases hcase with ⟨h, _⟩ | ⟨_, h⟩
    · exact absurd h HZ.out
    · exact h
  clear hcase
  go_wp2_with fail
  refine (refList_any HCAP.out (Kd.C_below HC.out B2.out) (by have := HBIG.out; omega)).mono ?_
  rintro e w3 ⟨rfl, hb3⟩
  have B3 := Lib.hid (below_then B2.out B2.out.size hb3)
  have V3 := Lib.hid (blk_below V2.out hb3)
  have D3 := Lib.hid (Kd.C_below D2.out hb3)
  have hz0 : (listErr l == 0) = false := by simpa using HZ.out
  have hz1 : (listErr l != listErr l) = false := by simp
  clear hb3 B2 V2 D2
  generalize listErr l = E at *
  go_wp2_with fail
  refine (kept_any (Kd.C_below HC.out B3.out) D3.out HBIG.out).mono ?_
  rintro e w4 ⟨rfl, hb4⟩
  have B4 := Lib.hid (below_then B3.out B3.out.size hb4)
  have V4 := Lib.hid (blk_below V3.out hb4)
  clear hb4 B3 V3 D3
  go_wp2_with fail
  go_loopg [39] (l.length + 2) (fun kq v39 w' => ∃ (k : Nat) (cs : Array Value), v39 = .int .i64 (k : Int) ∧ Hid (k + kq = l.length + 2) ∧ Hid (w'.heap[v]? = some (.cells cs tRow (0, 0))) ∧ Hid (cs.size = cap * 3) ∧ Hid (Below w.heap.size w w'))
  case atStart => exact ⟨0, cs1, rfl, (show _ + _ = _ by omega), V4, HCS1, B4⟩
  case round =>
    clear V4 B4 HCS1
    obtain ⟨k, cs, rfl, HK, V, HCS, B⟩ := hrel
    cases gk with
    | zero =>
      have hk : k = l.length + 2 := HK.out
      have c2 : ((k : Int) < (l.length : Int) + 2) = False := _root_.eq_false (by omega)
      have c3 : decide ((k : Int) < (l.length : Int) + 2) = false := by simp; omega
      clear hk
      have B7 := B
      clear B V
      have B8 := Lib.hid (below_alloc B7.out (.cells #[.string ⟨#[97]⟩, .string ⟨#[]⟩, .int .i64 1, .string ⟨#[98]⟩, .string ⟨#[]⟩, .int .i64 1] tRow))
      have C8 := Lib.hid ((Kd.R_reads' (R_of_own (l := [ra, rb]) (World.ownsRow_lit (base := w.heap.size) (e := tRow) (size := 3) wr #[.string ⟨#[97]⟩, .string ⟨#[]⟩, .int .i64 1, .string ⟨#[98]⟩, .string ⟨#[]⟩, .int .i64 1] 2 B7.out.size (by decide) rfl))).2.2)
      clear B7
      go_wp2_with fail
      refine (from_any (l := [ra, rb]) (c := 2) (Nat.le_refl _) C8.out (by decide)).mono ?_
      rintro e w9 ⟨hcase9, hb9⟩
      obtain ⟨g9, rfl, hT9⟩ : ∃ g, e = Ending.returned (.tuple #[.pointer (some ⟨g, 0, none⟩), .int .i64 0]) ∧ TabR w9 g [ra, rb] := by
        rcases hcase9 with ⟨_, g, h1, _, h2⟩ | ⟨h, _⟩
        · exact ⟨g, h1, h2⟩
        · exact absurd list_ab h
      have T9 := Lib.hid hT9
      have B9 := Lib.hid (below_then B8.out B8.out.size hb9)
      clear hcase9 hT9 hb9 B8 C8
      go_wp2_with fail
      refine (len_any T9.out).mono ?_
      rintro e w10 ⟨rfl, rfl⟩
      go_wp2
      go_ret
      exact ⟨rfl, B9.out⟩
    | succ k1 =>
      have hk : k < l.length + 2 := by have := HK.out; omega
      have hkc : k < cap := by have := HCP.out; omega
      have hcs := HCS.out
      have c2 : ((k : Int) < (l.length : Int) + 2) = True := eq_true (by omega)
      have c3 : decide ((k : Int) < (l.length : Int) + 2) = true := by simp; omega
      have p1 := eq_true (show 0 ≤ (k : Int) by omega)
      have p2 := eq_true (show k < l.length + 2 by omega)
      obtain ⟨x0, hx0⟩ := some_at (show k * 3 < cs.size by omega)
      obtain ⟨x1, hx1⟩ := some_at (cs := cs.setIfInBounds (k * 3) (.string ⟨#[122]⟩)) (show k * 3 + 1 < _ by simp; omega)
      obtain ⟨x2, hx2⟩ := some_at (cs := (cs.setIfInBounds (k * 3) (.string ⟨#[122]⟩)).setIfInBounds (k * 3 + 1) (.string ⟨#[]⟩)) (show k * 3 + 2 < _ by simp; omega)
      have V2 := Lib.hid (blk_set V.out (k * 3) (.string ⟨#[122]⟩))
      have V3 := Lib.hid (blk_set V2.out (k * 3 + 1) (.string ⟨#[]⟩))
      have V4 := Lib.hid (blk_set V3.out (k * 3 + 2) (.int .i64 99))
      have d0 := (blkc V.out (k * 3)).trans hx0
      have z0 := blkz V.out (k * 3)
      have d1 := (blkc V2.out (k * 3 + 1)).trans hx1
      have z1 := blkz V2.out (k * 3 + 1)
      have d2 := (blkc V3.out (k * 3 + 2)).trans hx2
      have z2 := blkz V3.out (k * 3 + 2)
      have B4 := Lib.hid (below_set3 B.out hbv (k * 3) (.string ⟨#[122]⟩) (.string ⟨#[]⟩) (.int .i64 99))
      have HF1 := Lib.hid (show wrap64 ((k : Int) + 1) = ((k + 1 : Nat) : Int) from by rw [← i64_w, IntWalk.i64_in _ (by have := HBIG.out; omega)]; omega)
      clear hx0 hx1 hx2 hcs hk hkc
      go_wp2_with fail
      go_roundg k1
      case measure => exact Nat.lt_succ_self _
      case rel => exact ⟨k + 1, _, by rw [HF1.out], Lib.hid (by have := HK.out; omega), V4, Lib.hid (by simp; exact HCS.out), B4⟩
end Go.Proofs.Ytjpalkggmefpfaa.Tab
namespace Go.Proofs.Ytjpalkggmefpfaa.Walk
open Go.RowKit Go.Proofs.Ytjpalkggmefpfaa.Opn Go.Proofs.Ytjpalkggmefpfaa.Tab Go.Proofs.YtjpalkggmefpfaaW.PrintWords
theorem bytesRow : Try.prog.bytesOf 25 = 40 := by kernel_rfl
theorem TableFroms (l : List Row) (A : Option Addr) (n : Nat) (W : World) (hl : l.length ≤ n) (hC : kR.C W A l.length l) (hm : l.length ≤ 9223372036854775807) (hq : ∀ a ∈ l, pR a) (hr : l.length * Try.prog.bytesOf 25 ≤ 140737488351232) :
    Calls Try.prog 5 #[.slice A l.length n] W fun e W' => e = .returned (.bool true) ∧ Below W.heap.size W W' := by
  rw [bytesRow] at hr
  by_cases hz : listErr l = 0
  · exact Tab.froms_ok W hl (by omega) hC hz
  · exact Tab.froms_no W hl (by omega) hC hz
end Go.Proofs.Ytjpalkggmefpfaa.Walk
