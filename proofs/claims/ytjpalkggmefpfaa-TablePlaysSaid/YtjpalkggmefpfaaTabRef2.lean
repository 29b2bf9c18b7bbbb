/- The document's Rows, Replace, walked. -/
import Derived.Test.YtjpalkggmefpfaaTabApp
set_option linter.unusedVariables false
set_option linter.unusedSimpArgs false
namespace Go.Proofs.Ytjpalkggmefpfaa.Tab
open Go.RowKit Go.Proofs.Ytjpalkggmefpfaa.Mem Go.Proofs.YtjpalkggmefpfaaW.PrintWords Go.Proofs.YtjpalkggmefpfaaW.PrintLast Go.Deep Go.Proofs.Ytjpalkggmefpfaa.Opn
attribute [local go_sem ↓] execOp_call_tmp
attribute [local go_sem] callVal_func
theorem rowsIn_step {l : List Row} {f u : ByteArray} {k : Nat} {r : Row} (h : l[k]? = some r) : rowsIn (l.drop k) f u = (if lies f u r.key = true then [r] else []) ++ rowsIn (l.drop (k + 1)) f u := by
  have hl := (List.getElem?_eq_some_iff.1 h).1
  rw [List.drop_eq_getElem_cons hl, (List.getElem?_eq_some_iff.1 h).2]
  unfold rowsIn
  rw [List.filter_cons]
  split <;> rfl
theorem XR.mono {n0 n1 : Nat} {w : World} {A : Option Addr} {c : Nat} {l : List Row} (h : XR n0 w A c l) (hn : n0 ≤ n1) : XR n1 w A c l := ⟨h.1, h.2.1, fun ad ha hp => (h.2.2 ad ha hp).imp (fun h2 => Nat.lt_of_lt_of_le h2 hn) id⟩
theorem rowsIn_le (l : List Row) (f u : ByteArray) : (rowsIn l f u).length ≤ l.length := List.length_filter_le ..
set_option maxHeartbeats 6400000 in
set_option maxRecDepth 100000 in
theorem rrows_any {w : World} {A : Option Addr} {c : Nat} {l : List Row} (hC : kR.C w A l.length l) (hlen : l.length ≤ 1048576) (f u : ByteArray) :
    Calls Try.prog 27 #[.slice A l.length c, .agg #[.string f, .string u]] w fun e w' => ∃ A' c', e = .returned (.slice A' (rowsIn l f u).length c') ∧ XR 0 w' A' c' (rowsIn l f u) ∧ Below w.heap.size w w' := by
  have HC := Lib.hid (Kd.C_below hC (below_alloc (Below.refl w.heap.size w) (.cells #[.string f, .string u] 39)))
  have P0 := Lib.hid (blk_new w (.cells #[.string f, .string u] 39))
  have B0 := Lib.hid (below_alloc (Below.refl w.heap.size w) (.cells #[.string f, .string u] 39))
  have hm := hC.2.1
  have hs0 : (w.alloc (.cells #[.string f, .string u] 39)).heap.size = w.heap.size + 1 := by simp
  clear hC
  go_enter Try.func27, Try.ntmps27
  go_wp2_with fail
  generalize (World.alloc w _) = W0 at *
  clear hs0
  go_loopg [5, 10] l.length (fun kq v5 v10 w' => ∃ (k : Nat) (xs : List Row), v10 = .int .i64 (k : Int) ∧ Hid (k + kq = l.length) ∧ Hid (xs ++ rowsIn (l.drop k) f u = rowsIn l f u) ∧ Hid (kR.R tRow w' W0.heap.size (fun _ => True) v5 xs) ∧ Hid (Below W0.heap.size W0 w'))
  case atStart => exact ⟨0, [], rfl, (show _ + _ = _ by omega), Lib.hid rfl, Lib.hid (Kd.R_nil _ _ _ _ _), Lib.hid (Below.refl _ _)⟩
  case round =>
    obtain ⟨k, xs, rfl, HK, HX, HR, HB⟩ := hrel
    obtain ⟨A5, c5, rfl⟩ := Kd.R_slice HR.out
    cases gk with
    | zero =>
      have hk : k = l.length := HK.out
      have c2 : decide (k < l.length) = false := by simp; omega
      have HXX := Lib.hid (show xs = rowsIn l f u by rw [← HX.out, hk, List.drop_length]; simp [rowsIn])
      clear hk
      go_wp2
      go_ret
      refine ⟨A5, c5, by rw [← HXX.out]; rfl, by rw [← HXX.out]; exact XR.of_own HR.out, below_then B0.out B0.out.size HB.out⟩
    | succ k1 =>
      have hk : k < l.length := by have := HK.out; omega
      have hu := List.getElem?_eq_getElem hk
      have HLX := Lib.hid (show xs.length ≤ 1048576 by have h1 := congrArg List.length HX.out; have h2 := rowsIn_le l f u; rw [List.length_append] at h1; omega)
      generalize l[k] = r at *
      obtain ⟨ad, hA, x0, x1, x2⟩ := at_R (Kd.C_below HC.out HB.out) hu
      cases hA
      have HST := Lib.hid (rowsIn_step (f := f) (u := u) hu)
      have c2 : decide (k < l.length) = true := by simpa using hk
      have p1 := eq_true (show 0 ≤ (k : Int) by omega)
      have p2 := eq_true (show k < l.length by omega)
      have Q4 := Lib.hid (blk_new wr (.cells #[.string r.key, .string r.value, .int .i64 r.version] tRow))
      have HR4 := Lib.hid (Kd.R_alloc HR.out (.cells #[.string r.key, .string r.value, .int .i64 r.version] tRow))
      have HB4 := Lib.hid (below_alloc HB.out (.cells #[.string r.key, .string r.value, .int .i64 r.version] tRow))
      clear hu HR HB
      go_upto_region 5 with (fail)
      generalize wr.heap.size = q at *
      generalize (World.alloc wr _) = W4 at *
      clear x0 x1 x2
      have cp := blkc Q4.out
      have cy := blkc (blk_below P0.out HB4.out)
      go_wp2_with fail
      clear cp cy
      refine (in_any f u r.key W4).mono ?_
      rintro e w5 ⟨rfl, hb5⟩
      have Q5 := Lib.hid (blk_below Q4.out hb5)
      have HR5 := Lib.hid (Kd.R_below HR4.out hb5)
      have HB5 := Lib.hid (below_then HB4.out HB4.out.size hb5)
      clear hb5 Q4 HR4 HB4
      have cp := blkc Q5.out
      cases ho : lies f u r.key with
      | true =>
        have HXN := Lib.hid (show (xs ++ [r]) ++ rowsIn (l.drop (k + 1)) f u = rowsIn l f u by rw [← HX.out, HST.out, if_pos ho]; simp)
        have R6 := Lib.hid (Kd.R_alloc HR5.out (.cells #[.string r.key, .string r.value, .int .i64 r.version] tRow))
        have B6 := Lib.hid (below_alloc HB5.out (.cells #[.string r.key, .string r.value, .int .i64 r.version] tRow))
        have C6 := Lib.hid ((Kd.R_reads' (R_of_own (l := [r]) (World.ownsRow_lit (base := W0.heap.size) (e := tRow) (size := 3) w5 #[.string r.key, .string r.value, .int .i64 r.version] 1 HB5.out.size (by decide) rfl))).2.2)
        clear ho HR5 HB5 Q5
        go_wp2_with (at_builtin; refine Kd.R_append_rows kR (Rr := kR.K (w5.alloc (.cells #[.string r.key, .string r.value, .int .i64 r.version] tRow))) (w0 := W0) W0.heap.size rfl (.tmp 18) (.tmp 20) 29 tRow (.agg #[.string ⟨#[]⟩, .string ⟨#[]⟩, .int .i64 0]) 40 rfl Try.underlying29 info_R rfl (by decide) (by decide) (.slice A5 xs.length c5) (xs) ([r]) (some ⟨w5.heap.size, 0, none⟩) 1 1 (fun _ => True) (fun _ => False) rfl rfl R6.out C6.out (fun _ _ h => h) (fun _ h => h.elim) (fun _ _ => trivial) B6.out B6.out.size (by have := HLX.out; omega) ?_; intro v7 w7 hr7 hb7 hg7 hat7; obtain ⟨A7, c7, rfl⟩ := Kd.R_slice hr7; rw [show (xs ++ [r]).length = xs.length + 1 by simp] at hr7 ⊢; (have R7 := Lib.hid hr7); (have B7 := Lib.hid hb7); clear hr7 hb7 hg7 hat7)
        go_roundg k1
        case measure => exact Nat.lt_succ_self _
        case rel => exact ⟨k + 1, xs ++ [r], by go_num, Lib.hid (by have := HK.out; omega), HXN, R7, B7⟩
      | false =>
        have HXN := Lib.hid (show xs ++ rowsIn (l.drop (k + 1)) f u = rowsIn l f u by rw [← HX.out, HST.out, if_neg (by rw [ho]; decide)]; simp)
        clear ho
        go_wp2_with fail
        go_roundg k1
        case measure => exact Nat.lt_succ_self _
        case rel => exact ⟨k + 1, xs, by go_num, Lib.hid (by have := HK.out; omega), HXN, HR5, HB5⟩

theorem outR_in {f u : ByteArray} {rows l : List Row} {r : Row} {d : Bool} (h : lies f u r.key = true) : outR f u rows d (r :: l) = outR f u rows d l := by rw [outR, if_pos h]
theorem outR_done {f u : ByteArray} {rows l : List Row} {r : Row} (h : lies f u r.key = false) : outR f u rows true (r :: l) = r :: outR f u rows true l := by rw [outR, if_neg (by rw [h]; decide), if_neg (by simp)]
theorem outR_low {f u : ByteArray} {rows l : List Row} {r : Row} (h : lies f u r.key = false) (h2 : lt r.key f = true) : outR f u rows false (r :: l) = r :: outR f u rows false l := by rw [outR, if_neg (by rw [h]; decide), if_neg (by rw [h2]; decide)]
theorem outR_high {f u : ByteArray} {rows l : List Row} {r : Row} (h : lies f u r.key = false) (h2 : lt r.key f = false) : outR f u rows false (r :: l) = rows ++ r :: outR f u rows true l := by rw [outR, if_neg (by rw [h]; decide), if_pos (by rw [h2]; decide)]
theorem outR_len (f u : ByteArray) (rows : List Row) : ∀ (d : Bool) (l : List Row), (outR f u rows d l).length ≤ l.length + rows.length
  | d, [] => by unfold outR; cases d <;> simp
  | d, x :: l => by
    unfold outR
    split
    · have := outR_len f u rows d l; simp; omega
    · split
      · rw [List.length_append, List.length_cons, outR_true]
        have : (rowsOut l f u).length ≤ l.length := List.length_filter_le ..
        simp; omega
      · have := outR_len f u rows d l; simp; omega
set_option maxHeartbeats 12800000 in
set_option maxRecDepth 100000 in
theorem rrep_any {n0 : Nat} {w : World} {A : Option Addr} {c : Nat} {l : List Row} (hX : XR n0 w A c l) (hl : LOk l) (f u : ByteArray) {rows : List Row} {A2 : Option Addr} {cr : Nat} (hC2 : kR.C w A2 rows.length rows) (hbig : rows.length ≤ 3518437208782) :
    Calls Try.prog 54 #[.slice A l.length c, .agg #[.string f, .string u], .slice A2 rows.length cr] w fun e w' => ∃ A' c', e = .returned (.tuple #[.slice A' (replL l f u rows).2.length c', .int .i64 (replL l f u rows).1]) ∧ XR n0 w' A' c' (replL l f u rows).2 ∧ Below w.heap.size w w' ∧ (A' = A ∧ (replL l f u rows).2 = l ∨ ∀ ad, A' = some ad → 0 < (replL l f u rows).2.length → w.heap.size ≤ ad.block) := by
  have HDOC := Lib.hid (replL_doc hl f u rows)
  have HX := Lib.hid (hX.below (below_alloc (Below.refl w.heap.size w) (.cells #[.string f, .string u] 39)))
  have HC := Lib.hid (Kd.C_below hC2 (below_alloc (Below.refl w.heap.size w) (.cells #[.string f, .string u] 39)))
  have P0 := Lib.hid (blk_new w (.cells #[.string f, .string u] 39))
  have B0 := Lib.hid (below_alloc (Below.refl w.heap.size w) (.cells #[.string f, .string u] 39))
  have hln := hl.len
  have HBIG := Lib.hid hbig
  have hus := Try.underlying39
  clear hX hC2 hl
  go_enter Try.func54, Try.ntmps54
  go_wp2_with fail
  generalize (World.alloc w _) = W0 at *
  generalize hE : repScan f u none rows = E at *
  have HE := Lib.hid (show repAt f u rows 0 = E from hE)
  clear hE
  have FE : Hid (∀ (x : Int) (W : World), E = x → x ≠ 0 → Below W0.heap.size W0 W → ∃ A' c', Ending.returned (.tuple #[.slice A l.length c, .int .i64 x]) = .returned (.tuple #[.slice A' (replL l f u rows).2.length c', .int .i64 (replL l f u rows).1]) ∧ XR n0 W A' c' (replL l f u rows).2 ∧ Below w.heap.size w W ∧ (A' = A ∧ (replL l f u rows).2 = l ∨ ∀ ad, A' = some ad → 0 < (replL l f u rows).2.length → w.heap.size ≤ ad.block)) := Lib.hid (fun x W hx hn hW => by
    rw [HDOC.out, hx, if_pos hn]
    exact ⟨A, c, rfl, HX.out.below hW, below_then B0.out B0.out.size hW, .inl ⟨rfl, rfl⟩⟩)
  go_loopg [17] rows.length (fun kq v17 w' => ∃ (k : Nat), v17 = .int .i64 (k : Int) ∧ Hid (k + kq = rows.length) ∧ Hid (repAt f u rows k = E) ∧ Hid (Below W0.heap.size W0 w'))
  case atStart => exact ⟨0, rfl, (show _ + _ = _ by omega), HE, Lib.hid (Below.refl _ _)⟩
  case round =>
    clear HE
    obtain ⟨k, rfl, HK, HE, HB⟩ := hrel
    cases gk with
    | zero =>
      have hk : k = rows.length := HK.out
      have c2 : decide (k < rows.length) = false := by simp; omega
      have HZ := Lib.hid (show E = 0 by rw [← HE.out, rep_end (by omega)])
      obtain ⟨O, hO⟩ : ∃ O, outR f u rows false l = O := ⟨_, rfl⟩
      have HDOC2 := Lib.hid (show replL l f u rows = if ((O.length : Int) > 1048576) then (3, l) else (0, O) by rw [HDOC.out, HZ.out, if_neg (by decide), hO])
      have HOL := Lib.hid (show O.length ≤ l.length + rows.length by rw [← hO]; exact outR_len f u rows false l)
      have HO := Lib.hid hO
      clear hk hO FE HE HK HDOC
      go_wp2_with fail
      clear c2
      go_loopg [11, 12, 51] l.length (fun kq v11 v12 v51 w' => ∃ (k : Nat) (xs : List Row) (d : Bool), v12 = .bool d ∧ v51 = .int .i64 (k : Int) ∧ Hid (k + kq = l.length) ∧ Hid (xs ++ outR f u rows d (l.drop k) = O) ∧ Hid (xs.length ≤ k + (if d then rows.length else 0)) ∧ Hid (kR.R tRow w' W0.heap.size (fun _ => True) v11 xs) ∧ Hid (Below W0.heap.size W0 w'))
      case atStart => exact ⟨0, [], false, rfl, rfl, (show _ + _ = _ by omega), HO, Lib.hid (Nat.zero_le _), Lib.hid (Kd.R_nil _ _ _ _ _), HB⟩
      case round =>
        clear HO HB
        obtain ⟨k, xs, d, rfl, rfl, HK, HXS, HXL, HR, HB⟩ := hrel
        obtain ⟨A5, c5, rfl⟩ := Kd.R_slice HR.out
        cases gk with
        | zero =>
          have hk : k = l.length := HK.out
          have c2 : decide (k < l.length) = false := by simp; omega
          have FIN : Hid (∀ (A8 : Option Addr) (c8 : Nat) (W8 : World), kR.R tRow W8 W0.heap.size (fun _ => True) (.slice A8 O.length c8) O → Below W0.heap.size W0 W8 → ((O.length : Int) > 1048576 → ∃ A' c', Ending.returned (.tuple #[.slice A l.length c, .int .i64 3]) = .returned (.tuple #[.slice A' (replL l f u rows).2.length c', .int .i64 (replL l f u rows).1]) ∧ XR n0 W8 A' c' (replL l f u rows).2 ∧ Below w.heap.size w W8 ∧ (A' = A ∧ (replL l f u rows).2 = l ∨ ∀ ad, A' = some ad → 0 < (replL l f u rows).2.length → w.heap.size ≤ ad.block)) ∧ (¬ (O.length : Int) > 1048576 → ∃ A' c', Ending.returned (.tuple #[.slice A8 O.length c8, .int .i64 0]) = .returned (.tuple #[.slice A' (replL l f u rows).2.length c', .int .i64 (replL l f u rows).1]) ∧ XR n0 W8 A' c' (replL l f u rows).2 ∧ Below w.heap.size w W8 ∧ (A' = A ∧ (replL l f u rows).2 = l ∨ ∀ ad, A' = some ad → 0 < (replL l f u rows).2.length → w.heap.size ≤ ad.block))) := Lib.hid (fun A8 c8 W8 h1 h2 => ⟨fun hb => by rw [HDOC2.out, if_pos hb]; exact ⟨A, c, rfl, HX.out.below h2, below_then B0.out B0.out.size h2, .inl ⟨rfl, rfl⟩⟩, fun hb => by rw [HDOC2.out, if_neg hb]; exact ⟨A8, c8, rfl, XR.of_own h1, below_then B0.out B0.out.size h2, .inr (fun ad ha hn => by obtain ⟨g, cap, e, hb, _⟩ := Kd.R_form h1 hn; cases e; cases ha; exact Nat.le_trans B0.out.size hb)⟩⟩)
          cases d with
          | true =>
            obtain rfl : xs = O := by have h := HXS.out; rw [hk, List.drop_length] at h; unfold outR at h; simpa using h
            clear hk
            by_cases hbig2 : (xs.length : Int) > 1048576
            · have q1 := eq_true (show (1048576 : Int) < xs.length by omega)
              have q2 : decide (1048576 < xs.length) = true := by simp; omega
              have HB2 := Lib.hid hbig2
              clear hbig2
              go_wp2_with fail
              exact bodyPost_ret (v := .tuple #[.slice A l.length c, .int .i64 3]) (by simp [results, Try.results54, go_sem]) rfl ((FIN.out _ _ _ HR.out HB.out).1 HB2.out)
            · have q1 : ((1048576 : Int) < xs.length) = False := _root_.eq_false (by omega)
              have q2 : decide (1048576 < xs.length) = false := by simp; omega
              have HB2 := Lib.hid hbig2
              clear hbig2
              go_wp2_with fail
              exact bodyPost_ret (v := .tuple #[.slice A5 xs.length c5, .int .i64 0]) (by simp [results, Try.results54, go_sem]) rfl ((FIN.out _ _ _ HR.out HB.out).2 HB2.out)
          | false =>
            have HXX := Lib.hid (show xs ++ rows = O by have h := HXS.out; rw [hk, List.drop_length] at h; unfold outR at h; simpa using h)
            have HXB := Lib.hid (show xs.length ≤ 1048576 by have h := HXL.out; simp at h; omega)
            clear hk
            have CR := Lib.hid (Kd.C_below HC.out HB.out)
            by_cases hbig2 : (O.length : Int) > 1048576
            · have q1 := eq_true (show (1048576 : Int) < O.length by omega)
              have q2 : decide (1048576 < O.length) = true := by simp; omega
              have HB2 := Lib.hid hbig2
              clear hbig2
              go_wp2_with (at_builtin; refine R_append_wide (w0 := W0) W0.heap.size rfl (.tmp 79) (.tmp 80) rfl (.slice A5 xs.length c5) (xs) (rows) A2 rows.length cr rfl rfl HR.out CR.out HB.out HB.out.size (by have := HXB.out; have := HBIG.out; omega) (.inl HXB.out) ?_; intro v7 w7 hr7 hb7 hg7; rw [HXX.out] at hr7; obtain ⟨A7, c7, rfl⟩ := Kd.R_slice hr7; (have R7 := Lib.hid hr7); (have B7 := Lib.hid hb7); clear hr7 hb7 hg7)
              exact bodyPost_ret (v := .tuple #[.slice A l.length c, .int .i64 3]) (by simp [results, Try.results54, go_sem]) rfl ((FIN.out _ _ _ R7.out B7.out).1 HB2.out)
            · have q1 : ((1048576 : Int) < O.length) = False := _root_.eq_false (by omega)
              have q2 : decide (1048576 < O.length) = false := by simp; omega
              have HB2 := Lib.hid hbig2
              clear hbig2
              go_wp2_with (at_builtin; refine R_append_wide (w0 := W0) W0.heap.size rfl (.tmp 79) (.tmp 80) rfl (.slice A5 xs.length c5) (xs) (rows) A2 rows.length cr rfl rfl HR.out CR.out HB.out HB.out.size (by have := HXB.out; have := HBIG.out; omega) (.inl HXB.out) ?_; intro v7 w7 hr7 hb7 hg7; rw [HXX.out] at hr7; obtain ⟨A7, c7, rfl⟩ := Kd.R_slice hr7; (have R7 := Lib.hid hr7); (have B7 := Lib.hid hb7); clear hr7 hb7 hg7)
              exact bodyPost_ret (v := .tuple #[.slice A7 O.length c7, .int .i64 0]) (by simp [results, Try.results54, go_sem]) rfl ((FIN.out _ _ _ R7.out B7.out).2 HB2.out)
        | succ k1 =>
          have hk : k < l.length := by have := HK.out; omega
          have hu := List.getElem?_eq_getElem hk
          have HKL := Lib.hid (show k ≤ 1048576 by omega)
          have hdk : l.drop k = l[k] :: l.drop (k + 1) := List.drop_eq_getElem_cons hk
          generalize l[k] = r at *
          have HDK := Lib.hid hdk
          obtain ⟨ad, hA, x0, x1, x2⟩ := at_R (Kd.C_below HX.out.1 HB.out) hu
          cases hA
          have c2 : decide (k < l.length) = true := by simpa using hk
          have p1 := eq_true (show 0 ≤ (k : Int) by omega)
          have p2 := eq_true (show k < l.length by omega)
          have Q4 := Lib.hid (blk_new wr (.cells #[.string r.key, .string r.value, .int .i64 r.version] tRow))
          have HR4 := Lib.hid (Kd.R_alloc HR.out (.cells #[.string r.key, .string r.value, .int .i64 r.version] tRow))
          have HB4 := Lib.hid (below_alloc HB.out (.cells #[.string r.key, .string r.value, .int .i64 r.version] tRow))
          have HNQ := Lib.hid (fun e : some wr.heap.size = (Value.slice A5 xs.length c5).ownBlock => Nat.lt_irrefl _ ((Kd.R_bound HR.out).1 _ e.symm).2.2.1)
          clear hu HR HB hdk
          go_upto_region 17 with (fail)
          generalize wr.heap.size = q at *
          generalize (World.alloc wr _) = W4 at *
          clear x0 x1 x2
          have cp := blkc Q4.out
          have cy := blkc (blk_below P0.out HB4.out)
          go_wp2_with fail
          clear cp cy
          refine (in_any f u r.key W4).mono ?_
          rintro e w5 ⟨rfl, hb5⟩
          have Q5 := Lib.hid (blk_below Q4.out hb5)
          have HR5 := Lib.hid (Kd.R_below HR4.out hb5)
          have HB5 := Lib.hid (below_then HB4.out HB4.out.size hb5)
          clear hb5 Q4 HR4 HB4
          have HXS2 := Lib.hid (show xs ++ outR f u rows d (r :: l.drop (k + 1)) = O by rw [← HDK.out]; exact HXS.out)
          clear HXS
          have cp := blkc Q5.out
          have cy := blkc (blk_below P0.out HB5.out)
          cases ho : lies f u r.key with
          | true =>
            have HXN := Lib.hid (show xs ++ outR f u rows d (l.drop (k + 1)) = O by rw [← HXS2.out, outR_in ho])
            clear ho
            go_wp2_with fail
            go_roundg k1
            case measure => exact Nat.lt_succ_self _
            case rel => exact ⟨k + 1, xs, d, rfl, by go_num, Lib.hid (by have := HK.out; omega), HXN, Lib.hid (by have := HXL.out; omega), HR5, HB5⟩
          | false =>
            have hno : ¬ lies f u r.key = true := by rw [ho]; decide
            have hbo : ∀ (b : Bool), xs.length ≤ k + (if b = true then rows.length else 0) → xs.length ≤ 1048576 + rows.length := fun b h => by have := HKL.out; split at h <;> omega
            have HXB := Lib.hid (hbo d HXL.out)
            clear hbo
            cases d with
            | true =>
              have HXN := Lib.hid (show (xs ++ [r]) ++ outR f u rows true (l.drop (k + 1)) = O by rw [← HXS2.out, outR_done ho]; simp)
              have R8 := Lib.hid (Kd.R_alloc HR5.out (.cells #[.string r.key, .string r.value, .int .i64 r.version] tRow))
              have B8 := Lib.hid (below_alloc HB5.out (.cells #[.string r.key, .string r.value, .int .i64 r.version] tRow))
              have C8 := Lib.hid ((Kd.R_reads' (R_of_own (l := [r]) (World.ownsRow_lit (base := W0.heap.size) (e := tRow) (size := 3) w5 #[.string r.key, .string r.value, .int .i64 r.version] 1 HB5.out.size (by decide) rfl))).2.2)
              clear hno ho HR5 HB5
              go_wp2_with (at_builtin; refine R_append_wide (w0 := W0) W0.heap.size rfl (.tmp 72) (.tmp 74) rfl (.slice A5 xs.length c5) (xs) ([r]) (some ⟨w5.heap.size, 0, none⟩) 1 1 rfl rfl R8.out C8.out B8.out B8.out.size (by have := HXB.out; have := HBIG.out; omega) (.inr (by decide)) ?_; intro v9 w9 hr9 hb9 hg9; obtain ⟨A9, c9, rfl⟩ := Kd.R_slice hr9; rw [show (xs ++ [r]).length = xs.length + 1 by simp] at hr9 ⊢; (have R9 := Lib.hid hr9); (have B9 := Lib.hid hb9); clear hr9 hb9 hg9)
              go_roundg k1
              case measure => exact Nat.lt_succ_self _
              case rel => exact ⟨k + 1, xs ++ [r], true, rfl, by go_num, Lib.hid (by have := HK.out; omega), HXN, Lib.hid (by have := HXL.out; simp only [if_true, List.length_append, List.length_singleton] at this ⊢; omega), R9, B9⟩
            | false =>
              cases hlt : lt r.key f with
              | true =>
                have d1 : Op.bytesLess r.key.toList f.toList = true := hlt
                have HXN := Lib.hid (show (xs ++ [r]) ++ outR f u rows false (l.drop (k + 1)) = O by rw [← HXS2.out, outR_low ho hlt]; simp)
                have R8 := Lib.hid (Kd.R_alloc HR5.out (.cells #[.string r.key, .string r.value, .int .i64 r.version] tRow))
                have B8 := Lib.hid (below_alloc HB5.out (.cells #[.string r.key, .string r.value, .int .i64 r.version] tRow))
                have C8 := Lib.hid ((Kd.R_reads' (R_of_own (l := [r]) (World.ownsRow_lit (base := W0.heap.size) (e := tRow) (size := 3) w5 #[.string r.key, .string r.value, .int .i64 r.version] 1 HB5.out.size (by decide) rfl))).2.2)
                clear hno ho HR5 HB5 hlt
                go_wp2_with (at_builtin; refine R_append_wide (w0 := W0) W0.heap.size rfl (.tmp 72) (.tmp 74) rfl (.slice A5 xs.length c5) (xs) ([r]) (some ⟨w5.heap.size, 0, none⟩) 1 1 rfl rfl R8.out C8.out B8.out B8.out.size (by have := HXB.out; have := HBIG.out; omega) (.inr (by decide)) ?_; intro v9 w9 hr9 hb9 hg9; obtain ⟨A9, c9, rfl⟩ := Kd.R_slice hr9; rw [show (xs ++ [r]).length = xs.length + 1 by simp] at hr9 ⊢; (have R9 := Lib.hid hr9); (have B9 := Lib.hid hb9); clear hr9 hb9 hg9)
                go_roundg k1
                case measure => exact Nat.lt_succ_self _
                case rel => exact ⟨k + 1, xs ++ [r], false, rfl, by go_num, Lib.hid (by have := HK.out; omega), HXN, Lib.hid (by have := HXL.out; simp only [Bool.false_eq_true, if_false, List.length_append, List.length_singleton] at this ⊢; omega), R9, B9⟩
              | false =>
                have d1 : Op.bytesLess r.key.toList f.toList = false := hlt
                have HXN := Lib.hid (show ((xs ++ rows) ++ [r]) ++ outR f u rows true (l.drop (k + 1)) = O by rw [← HXS2.out, outR_high ho hlt]; simp)
                have HXB2 := Lib.hid (show xs.length ≤ 1048576 by have h := HXL.out; have := HKL.out; simp only [Bool.false_eq_true, if_false] at h; omega)
                have CR := Lib.hid (Kd.C_below HC.out HB5.out)
                clear hno ho hlt
                go_wp2_with (first
                  | (at_builtin; refine R_append_wide (w0 := W0) W0.heap.size rfl (.tmp 69) (.tmp 70) rfl (.slice A5 xs.length c5) (xs) (rows) A2 rows.length cr rfl rfl HR5.out CR.out HB5.out HB5.out.size (by have := HXB2.out; have := HBIG.out; omega) (.inl HXB2.out) ?_; intro v7 w7 hr7 hb7 hg7; (have cp := blkc (blk_grown Q5.out hg7 HNQ.out)); obtain ⟨Y, hY⟩ : ∃ Y, xs ++ rows = Y := ⟨_, rfl⟩; rw [hY] at hr7 HXN; (have HYL := Lib.hid (show Y.length = xs.length + rows.length by rw [← hY, List.length_append])); clear hY; obtain ⟨A7, c7, rfl⟩ := Kd.R_slice hr7; (have R8 := Lib.hid (Kd.R_alloc hr7 (.cells #[.string r.key, .string r.value, .int .i64 r.version] tRow))); (have B8 := Lib.hid (below_alloc hb7 (.cells #[.string r.key, .string r.value, .int .i64 r.version] tRow))); (have C8 := Lib.hid ((Kd.R_reads' (R_of_own (l := [r]) (World.ownsRow_lit (base := W0.heap.size) (e := tRow) (size := 3) w7 #[.string r.key, .string r.value, .int .i64 r.version] 1 hb7.size (by decide) rfl))).2.2)); clear hr7 hb7 hg7 HR5 HB5 Q5)
                  | (at_builtin; refine R_append_wide (w0 := W0) W0.heap.size rfl (.tmp 72) (.tmp 74) rfl (.slice A7 Y.length c7) (Y) ([r]) (some ⟨w7.heap.size, 0, none⟩) 1 1 rfl rfl R8.out C8.out B8.out B8.out.size (by have := HXB2.out; have := HYL.out; have := HBIG.out; omega) (.inr (by decide)) ?_; intro v9 w9 hr9 hb9 hg9; obtain ⟨A9, c9, rfl⟩ := Kd.R_slice hr9; rw [show (Y ++ [r]).length = Y.length + 1 by simp] at hr9 ⊢; (have R9 := Lib.hid hr9); (have B9 := Lib.hid hb9); clear hr9 hb9 hg9)
                  | fail)
                go_roundg k1
                case measure => exact Nat.lt_succ_self _
                case rel => exact ⟨k + 1, Y ++ [r], true, rfl, by go_num, Lib.hid (by have := HK.out; omega), HXN, Lib.hid (by have h1 := HXL.out; have h2 := HYL.out; simp only [Bool.false_eq_true, if_false] at h1; simp only [if_true, List.length_append, List.length_singleton]; omega), R9, B9⟩
    | succ k1 =>
      have hk : k < rows.length := by have := HK.out; omega
      have hu := List.getElem?_eq_getElem hk
      generalize rows[k] = r at *
      obtain ⟨ad, hA, x0, x1, x2⟩ := at_R (Kd.C_below HC.out HB.out) hu
      have HU := Lib.hid hu
      cases hA
      have c2 : decide (k < rows.length) = true := by simpa using hk
      have p1 := eq_true (show 0 ≤ (k : Int) by omega)
      have p2 := eq_true (show k < rows.length by omega)
      have Q4 := Lib.hid (blk_new wr (.cells #[.string r.key, .string r.value, .int .i64 r.version] tRow))
      have HB4 := Lib.hid (below_alloc HB.out (.cells #[.string r.key, .string r.value, .int .i64 r.version] tRow))
      clear hu HB
      go_upto_region 4 with (fail)
      generalize wr.heap.size = q at *
      generalize (World.alloc wr _) = W4 at *
      clear x0 x1 x2
      have cp := blkc Q4.out
      go_wp2_with fail
      clear cp
      refine (rCheck_any r.key r.value r.version W4).mono ?_
      rintro e w5 ⟨rfl, hb5⟩
      have Q5 := Lib.hid (blk_below Q4.out hb5)
      have HB5 := Lib.hid (below_then HB4.out HB4.out.size hb5)
      clear hb5 Q4 HB4
      cases hc : (checkRow (r.key, r.value, r.version) != 0) with
      | true =>
        have HZ := Lib.hid (show E = checkRow (r.key, r.value, r.version) by rw [← HE.out, rep_bad HU.out (by simpa [Row.check] using hc)]; rfl)
        have HNE := Lib.hid (show checkRow (r.key, r.value, r.version) ≠ 0 by simpa using hc)
        go_wp2
        exact bodyPost_ret (v := .tuple #[.slice A l.length c, .int .i64 (checkRow (r.key, r.value, r.version))]) (by simp [results, Try.results54, go_sem]) rfl (FE.out _ _ HZ.out HNE.out HB5.out)
      | false =>
        have hc0 : r.check = 0 := by simpa [Row.check] using hc
        have HC0 := Lib.hid hc0
        clear hc0
        have cp := blkc Q5.out
        have cy := blkc (blk_below P0.out HB5.out)
        go_wp2_with fail
        clear cp cy
        refine (in_any f u r.key w5).mono ?_
        rintro e w6 ⟨rfl, hb6⟩
        have Q6 := Lib.hid (blk_below Q5.out hb6)
        have HB6 := Lib.hid (below_then HB5.out HB5.out.size hb6)
        clear hb6 Q5 HB5
        cases ho : lies f u r.key with
        | false =>
          have HZ := Lib.hid (show E = 75 by rw [← HE.out, rep_out HU.out HC0.out ho])
          go_wp2
          exact bodyPost_ret (v := .tuple #[.slice A l.length c, .int .i64 75]) (by simp [results, Try.results54, go_sem]) rfl (FE.out _ _ HZ.out (by decide) HB6.out)
        | true =>
          have HO := Lib.hid ho
          clear ho
          have QD := Lib.hid (blk_drew Q6.out)
          have BD := Lib.hid HB6.out.drew
          clear Q6 HB6
          cases k with
          | zero =>
            have HN := Lib.hid (show repAt f u rows (0 + 1) = E by rw [← HE.out, rep_first HU.out HC0.out HO.out])
            go_wp2_with fail
            clear c2 p1 p2
            refine start_ (n := 13) (S := fun w' => (∀ o, w'.cell? ⟨q, o, none⟩ = #[Value.string r.key, .string r.value, .int .i64 r.version][o]?)) (ds := []) #[false, false, false, false, false, false, false, false, false, false, false, false, false] (by kernel_rfl) rfl rfl ((blkc QD.out)) (fun hHeld => ?_)
            refine pure_ (i := 0) (N := some 34) (v := ?_) (a' := ?_) #[true, false, false, false, false, false, false, false, false, false, false, false, false] rfl rfl (by kernel_rfl) (fun _ _ _ h => h) (Or.inl ⟨by rfl, ?_⟩) ?_ ?_
            rotate_left
            · intro w'
              go_simp
              with_reducible rfl
            rotate_left
            · simp only [Act.put, List.setIfInBounds_toArray, List.set_cons_zero, List.set_cons_succ, i64_w, i32_w]
              rfl
            refine pure_ (i := 1) (N := some 35) (v := ?_) (a' := ?_) #[true, true, false, false, false, false, false, false, false, false, false, false, false] rfl rfl (by kernel_rfl) (fun _ _ _ h => h) (Or.inl ⟨by rfl, ?_⟩) ?_ ?_
            rotate_left
            · intro w'
              go_simp
              with_reducible rfl
            rotate_left
            · simp only [Act.put, List.setIfInBounds_toArray, List.set_cons_zero, List.set_cons_succ, i64_w, i32_w]
              rfl
            refine pure_ (i := 2) (N := some 36) (v := ?_) (a' := ?_) #[true, true, true, false, false, false, false, false, false, false, false, false, false] rfl rfl (by kernel_rfl) (fun _ _ _ h => h) (Or.inl ⟨by rfl, ?_⟩) ?_ ?_
            rotate_left
            · intro w'
              go_simp
              with_reducible rfl
            rotate_left
            · simp only [Act.put, List.setIfInBounds_toArray, List.set_cons_zero, List.set_cons_succ, i64_w, i32_w]
              rfl
            refine pure_ (i := 3) (N := some 37) (v := undef) (a' := ?_) #[true, true, true, true, false, false, false, false, false, false, false, false, false] rfl rfl (by kernel_rfl) (fun _ _ _ h => h) (Or.inr ⟨by rfl, rfl⟩) ?_ ?_
            rotate_left
            · simp only [Act.put, List.setIfInBounds_toArray, List.set_cons_zero, List.set_cons_succ, i64_w, i32_w]
              rfl
            refine pure_ (i := 4) (N := some 38) (v := undef) (a' := ?_) #[true, true, true, true, true, false, false, false, false, false, false, false, false] rfl rfl (by kernel_rfl) (fun _ _ _ h => h) (Or.inr ⟨by rfl, rfl⟩) ?_ ?_
            rotate_left
            · simp only [Act.put, List.setIfInBounds_toArray, List.set_cons_zero, List.set_cons_succ, i64_w, i32_w]
              rfl
            refine pure_ (i := 5) (N := some 39) (v := undef) (a' := ?_) #[true, true, true, true, true, true, false, false, false, false, false, false, false] rfl rfl (by kernel_rfl) (fun _ _ _ h => h) (Or.inr ⟨by rfl, rfl⟩) ?_ ?_
            rotate_left
            · simp only [Act.put, List.setIfInBounds_toArray, List.set_cons_zero, List.set_cons_succ, i64_w, i32_w]
              rfl
            refine pure_ (i := 6) (N := some 40) (v := undef) (a' := ?_) #[true, true, true, true, true, true, true, false, false, false, false, false, false] rfl rfl (by kernel_rfl) (fun _ _ _ h => h) (Or.inr ⟨by rfl, rfl⟩) ?_ ?_
            rotate_left
            · simp only [Act.put, List.setIfInBounds_toArray, List.set_cons_zero, List.set_cons_succ, i64_w, i32_w]
              rfl
            refine pure_ (i := 7) (N := some 41) (v := undef) (a' := ?_) #[true, true, true, true, true, true, true, true, false, false, false, false, false] rfl rfl (by kernel_rfl) (fun _ _ _ h => h) (Or.inr ⟨by rfl, rfl⟩) ?_ ?_
            rotate_left
            · simp only [Act.put, List.setIfInBounds_toArray, List.set_cons_zero, List.set_cons_succ, i64_w, i32_w]
              rfl
            refine pure_ (i := 8) (N := some 42) (v := undef) (a' := ?_) #[true, true, true, true, true, true, true, true, true, false, false, false, false] rfl rfl (by kernel_rfl) (fun _ _ _ h => h) (Or.inr ⟨by rfl, rfl⟩) ?_ ?_
            rotate_left
            · simp only [Act.put, List.setIfInBounds_toArray, List.set_cons_zero, List.set_cons_succ, i64_w, i32_w]
              rfl
            refine pure_ (i := 9) (N := some 43) (v := undef) (a' := ?_) #[true, true, true, true, true, true, true, true, true, true, false, false, false] rfl rfl (by kernel_rfl) (fun _ _ _ h => h) (Or.inr ⟨by rfl, rfl⟩) ?_ ?_
            rotate_left
            · simp only [Act.put, List.setIfInBounds_toArray, List.set_cons_zero, List.set_cons_succ, i64_w, i32_w]
              rfl
            refine pure_ (i := 10) (N := some 44) (v := undef) (a' := ?_) #[true, true, true, true, true, true, true, true, true, true, true, false, false] rfl rfl (by kernel_rfl) (fun _ _ _ h => h) (Or.inr ⟨by rfl, rfl⟩) ?_ ?_
            rotate_left
            · simp only [Act.put, List.setIfInBounds_toArray, List.set_cons_zero, List.set_cons_succ, i64_w, i32_w]
              rfl
            refine pure_ (i := 11) (N := some 45) (v := undef) (a' := ?_) #[true, true, true, true, true, true, true, true, true, true, true, true, false] rfl rfl (by kernel_rfl) (fun _ _ _ h => h) (Or.inr ⟨by rfl, rfl⟩) ?_ ?_
            rotate_left
            · simp only [Act.put, List.setIfInBounds_toArray, List.set_cons_zero, List.set_cons_succ, i64_w, i32_w]
              rfl
            refine pure_ (i := 12) (N := some 46) (v := ?_) (a' := ?_) #[true, true, true, true, true, true, true, true, true, true, true, true, true] rfl rfl (by kernel_rfl) (fun _ _ _ h => h) (Or.inl ⟨by rfl, ?_⟩) ?_ ?_
            rotate_left
            · intro w'
              go_simp
              with_reducible rfl
            rotate_left
            · simp only [Act.put, List.setIfInBounds_toArray, List.set_cons_zero, List.set_cons_succ, i64_w, i32_w]
              rfl
            refine done_ (by kernel_rfl) ?_
            go_wp2_with fail
            go_roundg k1
            case measure => exact Nat.lt_succ_self _
            case rel => exact ⟨0 + 1, rfl, Lib.hid (by have := HK.out; omega), HN, BD⟩
          | succ k =>
            have hk0 : k < rows.length := by omega
            have hu0 := List.getElem?_eq_getElem hk0
            generalize rows[k] = r0 at *
            obtain ⟨ad0, hA0, y0, _, _⟩ := at_R (Kd.C_below HC.out BD.out) hu0
            cases hA0
            have HU0 := Lib.hid hu0
            have hi1 : ((k + 1 : Nat) : Int) - 1 = (k : Int) := by omega
            have p5 := eq_true (show ((k + 1 : Nat) : Int) > 0 by omega)
            have p3 := eq_true (show 0 ≤ (k : Int) by omega)
            have p4 := eq_true (show k < rows.length by omega)
            have p6 : wrap64 (k : Int) = (k : Int) := by rw [← i64_w]; exact IntWalk.i64_in _ (by have := HBIG.out; omega)
            clear hu0 hk0
            go_wp2_with fail
            refine start_ (n := 13) (S := fun w' => (∀ o, w'.cell? ⟨q, o, none⟩ = #[Value.string r.key, .string r.value, .int .i64 r.version][o]?) ∧ w'.cell? (ad.add (k * 3)) = some (.string r0.key)) (ds := []) #[false, false, false, false, false, false, false, false, false, false, false, false, false] (by kernel_rfl) rfl rfl ⟨(blkc QD.out), y0⟩ (fun hHeld => ?_)
            refine pure_ (i := 0) (N := some 34) (v := ?_) (a' := ?_) #[true, false, false, false, false, false, false, false, false, false, false, false, false] rfl rfl (by kernel_rfl) (fun _ _ _ h => h) (Or.inl ⟨by rfl, ?_⟩) ?_ ?_
            rotate_left
            · intro w'
              go_simp
              with_reducible rfl
            rotate_left
            · simp only [Act.put, List.setIfInBounds_toArray, List.set_cons_zero, List.set_cons_succ, i64_w, i32_w]
              rfl
            refine pure_ (i := 1) (N := some 35) (v := ?_) (a' := ?_) #[true, true, false, false, false, false, false, false, false, false, false, false, false] rfl rfl (by kernel_rfl) (fun _ _ _ h => h) (Or.inl ⟨by rfl, ?_⟩) ?_ ?_
            rotate_left
            · intro w'
              go_simp
              with_reducible rfl
            rotate_left
            · simp only [Act.put, List.setIfInBounds_toArray, List.set_cons_zero, List.set_cons_succ, i64_w, i32_w]
              rfl
            refine pure_ (i := 2) (N := some 36) (v := ?_) (a' := ?_) #[true, true, true, false, false, false, false, false, false, false, false, false, false] rfl rfl (by kernel_rfl) (fun _ _ _ h => h) (Or.inl ⟨by rfl, ?_⟩) ?_ ?_
            rotate_left
            · intro w'
              go_simp
              with_reducible rfl
            rotate_left
            · simp only [Act.put, List.setIfInBounds_toArray, List.set_cons_zero, List.set_cons_succ, i64_w, i32_w]
              rfl
            refine pure_ (i := 3) (N := some 37) (v := ?_) (a' := ?_) #[true, true, true, true, false, false, false, false, false, false, false, false, false] rfl rfl (by kernel_rfl) (fun _ _ _ h => h) (Or.inl ⟨by rfl, ?_⟩) ?_ ?_
            rotate_left
            · intro w'
              go_simp
              with_reducible rfl
            rotate_left
            · simp only [Act.put, List.setIfInBounds_toArray, List.set_cons_zero, List.set_cons_succ, i64_w, i32_w]
              rfl
            refine pure_ (i := 5) (N := some 39) (v := ?_) (a' := ?_) #[true, true, true, true, false, true, false, false, false, false, false, false, false] rfl rfl (by kernel_rfl) (fun _ _ _ h => h) (Or.inl ⟨by rfl, ?_⟩) ?_ ?_
            rotate_left
            · intro w'
              go_simp
              with_reducible rfl
            rotate_left
            · simp only [Act.put, List.setIfInBounds_toArray, List.set_cons_zero, List.set_cons_succ, i64_w, i32_w]
              rfl
            refine pure_ (i := 6) (N := some 40) (v := ?_) (a' := ?_) #[true, true, true, true, false, true, true, false, false, false, false, false, false] rfl rfl (by kernel_rfl) (fun _ _ _ h => h) (Or.inl ⟨by rfl, ?_⟩) ?_ ?_
            rotate_left
            · intro w'
              go_simp
              with_reducible rfl
            rotate_left
            · simp only [Act.put, List.setIfInBounds_toArray, List.set_cons_zero, List.set_cons_succ, i64_w, i32_w]
              rfl
            refine pure_ (i := 7) (N := some 41) (v := ?_) (a' := ?_) #[true, true, true, true, false, true, true, true, false, false, false, false, false] rfl rfl (by kernel_rfl) (fun _ _ _ h => h) (Or.inl ⟨by rfl, ?_⟩) ?_ ?_
            rotate_left
            · intro w'
              go_simp
              with_reducible rfl
            rotate_left
            · simp only [Act.put, List.setIfInBounds_toArray, List.set_cons_zero, List.set_cons_succ, i64_w, i32_w]
              rfl
            refine pure_ (i := 8) (N := some 42) (v := ?_) (a' := ?_) #[true, true, true, true, false, true, true, true, true, false, false, false, false] rfl rfl (by kernel_rfl) (fun _ _ _ h => h) (Or.inl ⟨by rfl, ?_⟩) ?_ ?_
            rotate_left
            · intro w'
              go_simp
              with_reducible rfl
            rotate_left
            · simp only [Act.put, List.setIfInBounds_toArray, List.set_cons_zero, List.set_cons_succ, i64_w, i32_w]
              rfl
            refine pure_ (i := 9) (N := some 43) (v := ?_) (a' := ?_) #[true, true, true, true, false, true, true, true, true, true, false, false, false] rfl rfl (by kernel_rfl) (fun _ _ _ h => h) (Or.inl ⟨by rfl, ?_⟩) ?_ ?_
            rotate_left
            · intro w'
              go_simp
              with_reducible rfl
            rotate_left
            · simp only [Act.put, List.setIfInBounds_toArray, List.set_cons_zero, List.set_cons_succ, i64_w, i32_w]
              rfl
            refine take_ (i := 4) (N := some 38) (v := ?_) (a' := ?_) #[true, true, true, true, true, true, true, true, true, true, false, false, false] rfl rfl (by kernel_rfl) (fun _ _ _ h => h) (Or.inl ⟨by rfl, ?_⟩) hHeld ?_ ?_
            rotate_left
            · rintro w' ⟨s0, s1⟩
              go_simp
              with_reducible rfl
            rotate_left
            · simp only [Act.put, List.setIfInBounds_toArray, List.set_cons_zero, List.set_cons_succ, i64_w, i32_w]
              rfl
            refine take_ (i := 10) (N := some 44) (v := ?_) (a' := ?_) #[true, true, true, true, true, true, true, true, true, true, true, false, false] rfl rfl (by kernel_rfl) (fun _ _ _ h => h) (Or.inl ⟨by rfl, ?_⟩) hHeld ?_ ?_
            rotate_left
            · rintro w' ⟨s0, s1⟩
              go_simp
              with_reducible rfl
            rotate_left
            · simp only [Act.put, List.setIfInBounds_toArray, List.set_cons_zero, List.set_cons_succ, i64_w, i32_w]
              rfl
            refine pure_ (i := 11) (N := some 45) (v := ?_) (a' := ?_) #[true, true, true, true, true, true, true, true, true, true, true, true, false] rfl rfl (by kernel_rfl) (fun _ _ _ h => h) (Or.inl ⟨by rfl, ?_⟩) ?_ ?_
            rotate_left
            · intro w'
              go_simp
              with_reducible rfl
            rotate_left
            · simp only [Act.put, List.setIfInBounds_toArray, List.set_cons_zero, List.set_cons_succ, i64_w, i32_w]
              rfl
            refine pure_ (i := 12) (N := some 46) (v := ?_) (a' := ?_) #[true, true, true, true, true, true, true, true, true, true, true, true, true] rfl rfl (by kernel_rfl) (fun _ _ _ h => h) (Or.inl ⟨by rfl, ?_⟩) ?_ ?_
            rotate_left
            · intro w'
              go_simp
              with_reducible rfl
            rotate_left
            · simp only [Act.put, List.setIfInBounds_toArray, List.set_cons_zero, List.set_cons_succ, i64_w, i32_w]
              rfl
            refine done_ (by kernel_rfl) ?_
            have HUP := Lib.hid (show rows[k + 1]? = some r from HU.out)
            clear p3 p4 p5 y0
            cases hlt : (Op.bytesLess r.key.toList r0.key.toList || r.key.toList == r0.key.toList) with
            | true =>
              have HZ := Lib.hid (show E = 73 by rw [← HE.out, rep_down HU0.out HUP.out HC0.out HO.out (ge_nlt hlt)])
              go_wp2
              exact bodyPost_ret (v := .tuple #[.slice A l.length c, .int .i64 73]) (by simp [results, Try.results54, go_sem]) rfl (FE.out _ _ HZ.out (by decide) BD.out)
            | false =>
              have HN := Lib.hid (show repAt f u rows (k + 1 + 1) = E by rw [← HE.out]; exact (rep_up HU0.out HUP.out HC0.out HO.out (ngt_lt hlt)).symm)
              go_wp2_with fail
              go_roundg k1
              case measure => exact Nat.lt_succ_self _
              case rel => exact ⟨k + 1 + 1, by simp; done, Lib.hid (by have := HK.out; omega), HN, BD⟩

end Go.Proofs.Ytjpalkggmefpfaa.Tab
