/- A table's place, size; a list turned; one call that changes a table. -/
import Derived.Test.YtjpalkggmefpfaaTabRep
import Derived.Test.YtjpalkggmefpfaaTabKinds
import Derived.Test.YtjpalkggmefpfaaTableMap
set_option linter.unusedVariables false
set_option linter.unusedSimpArgs false
namespace Go.Proofs.Ytjpalkggmefpfaa.Tab
open Go.RowKit Go.Proofs.Ytjpalkggmefpfaa.Mem Go.Proofs.YtjpalkggmefpfaaW.PrintWords Go.Proofs.YtjpalkggmefpfaaW.PrintLast Go.Deep Go.Proofs.Ytjpalkggmefpfaa.Opn
attribute [local go_sem ↓] execOp_call_tmp
attribute [local go_sem] callVal_func
def actL (l : List Row) (s : TStep) : List Row := if s.call = 0 then (putL l s.row).2 else if s.call = 1 then without s.key l else if s.call = 2 then (replL l s.from_ s.upto s.rows).2 else l
theorem LOk.actL {l : List Row} (h : LOk l) (s : TStep) : LOk (Tab.actL l s) := by
  unfold Tab.actL
  split
  · exact h.putL s.row
  · split
    · exact h.without s.key
    · split
      · exact LOk.replL h _ _ _
      · exact h
theorem list_left {L R : List Row} {v r : Row} {j : Nat} (h : (L ++ v :: R)[j]? = some r) (hj : j < L.length) : L[j]? = some r := by
  rwa [List.getElem?_append_left hj] at h
theorem list_here {L R : List Row} {v r : Row} {j : Nat} (h : (L ++ v :: R)[j]? = some r) (hj : j = L.length) : v = r := by
  subst hj
  rw [List.getElem?_append_right (Nat.le_refl _), Nat.sub_self] at h
  exact Option.some.inj h
theorem list_right {L R : List Row} {v r : Row} {j : Nat} (h : (L ++ v :: R)[j]? = some r) (hj : L.length < j) : R[j - (L.length + 1)]? = some r := by
  rw [List.getElem?_append_right (by omega), show j - L.length = (j - (L.length + 1)) + 1 by omega] at h
  exact h
set_option maxHeartbeats 1600000 in
theorem at_any {w : World} {t : T} {p : Option Addr} (h : TR w t p) (wf : t.WF) (hlen : t.list.length ≤ 1099511627776) {i : Nat} {r : Row} (hi : t.list[i]? = some r) : Calls Try.prog 55 #[.pointer p, .int .i64 i] w fun e w' => ∃ (t' : T) (q : Option Addr), e = .returned (.pointer q) ∧ TR w t' q ∧ t' ≠ .nil ∧ t'.row = r ∧ w = w' := by
  have H := Lib.hid h
  have HW := Lib.hid wf
  have HI := Lib.hid hi
  have HLN := Lib.hid hlen
  clear h wf hi hlen
  go_enter Try.func55, Try.ntmps55
  go_wp2_with fail
  go_loopg [0, 1] t.size (fun kq v0 v1 w' => ∃ (t' : T) (q : Option Addr) (j : Nat), v0 = .pointer q ∧ v1 = .int .i64 (j : Int) ∧ Hid (TR w t' q) ∧ Hid t'.WF ∧ Hid (t'.list[j]? = some r) ∧ Hid (t'.list.length ≤ 1099511627776) ∧ Hid (t'.size ≤ kq) ∧ w = w')
  case atStart => exact ⟨t, p, i, rfl, rfl, H, HW, HI, HLN, Lib.hid (Nat.le_refl _), rfl⟩
  case round =>
    clear H HW HI HLN
    obtain ⟨t', q, j, rfl, rfl, H, HW, HI, HLN, HS, rfl⟩ := hrel
    have hn : t' ≠ .nil := fun e => by have := HI.out; rw [e] at this; simp [T.list] at this
    obtain ⟨g, pl, pr, rfl, hg, hl, hr⟩ := H.out.node hn
    obtain ⟨k1, rfl⟩ : ∃ k1, gk = k1 + 1 := ⟨gk - 1, by have := size_node hn; have := HS.out; omega⟩
    have cg := blkc hg
    have HN := Lib.hid hn
    have HLf := Lib.hid hl
    have HR := Lib.hid hr
    have HL := Lib.hid (list_node hn)
    have HC := Lib.hid (WF.count (WF.left HW.out))
    have hjl : j < t'.list.length := (List.getElem?_eq_some_iff.1 HI.out).1
    have hll : t'.left.list.length < t'.list.length := by have := congrArg List.length HL.out; simp at this; omega
    have hlr : t'.right.list.length < t'.list.length := by have := congrArg List.length HL.out; simp at this; omega
    have hlm := HLN.out
    have HI2 := Lib.hid (show (t'.left.list ++ t'.row :: t'.right.list)[j]? = some r from HL.out ▸ HI.out)
    clear hg hl hr hn
    go_wp2_with fail
    refine (count_any HLf.out).mono ?_
    rintro e w1 ⟨rfl, rfl⟩
    rw [HC.out]
    by_cases h1 : j = t'.left.list.length
    · have d1 : ((j : Int) != (t'.left.list.length : Int)) = false := by simp; omega
      have HE := Lib.hid (list_here HI2.out h1)
      clear h1
      go_wp2
      go_ret
      exact ⟨t', _, rfl, H.out, HN.out, HE.out, rfl⟩
    · have d1 : ((j : Int) != (t'.left.list.length : Int)) = true := by simp; omega
      go_wp2_with fail
      refine (count_any HLf.out).mono ?_
      rintro e w1 ⟨rfl, rfl⟩
      rw [HC.out]
      by_cases h2 : j < t'.left.list.length
      · have d2 : decide (j < t'.left.list.length) = true := by simpa using h2
        have d3 : ((j : Int) < (t'.left.list.length : Int)) = True := eq_true (by omega)
        have HE := Lib.hid (list_left HI2.out h2)
        go_wp2
        go_roundg k1
        case measure => exact Nat.lt_succ_self _
        case rel => exact ⟨t'.left, _, j, rfl, rfl, HLf, Lib.hid (WF.left HW.out), HE, Lib.hid (by omega), Lib.hid (by have := size_node HN.out; have := HS.out; omega), rfl⟩
      · have d2 : decide (j < t'.left.list.length) = false := by simpa using h2
        have d3 : ((j : Int) < (t'.left.list.length : Int)) = False := _root_.eq_false (by omega)
        have HE := Lib.hid (list_right HI2.out (by omega))
        have f1 : wrap64 ((t'.left.list.length : Int) + 1) = (t'.left.list.length : Int) + 1 := by rw [← i64_w]; exact IntWalk.i64_in _ (by omega)
        have f2 : wrap64 ((j : Int) - ((t'.left.list.length : Int) + 1)) = (j : Int) - ((t'.left.list.length : Int) + 1) := by rw [← i64_w]; exact IntWalk.i64_in _ (by omega)
        have HJ := Lib.hid (show (j : Int) - ((t'.left.list.length : Int) + 1) = ((j - (t'.left.list.length + 1) : Nat) : Int) by omega)
        go_wp2_with fail
        refine (count_any HLf.out).mono ?_
        rintro e w1 ⟨rfl, rfl⟩
        rw [HC.out]
        go_wp2
        go_roundg k1
        case measure => exact Nat.lt_succ_self _
        case rel => exact ⟨t'.right, _, j - (t'.left.list.length + 1), rfl, by rw [HJ.out], HR, Lib.hid (WF.right HW.out), HE, Lib.hid (by omega), Lib.hid (by have := size_node HN.out; have := HS.out; omega), rfl⟩
theorem tsize_any {w : World} {g : Nat} {l : List Row} (h : TabR w g l) : Calls Try.prog 29 #[.pointer (some ⟨g, 0, none⟩)] w fun e w' => e = .returned (.int .i64 (size l)) ∧ w = w' := by
  obtain ⟨t, root, h1, h2, h3⟩ := h
  have cg := blkc h1
  go_enter Try.func29, Try.ntmps29
  go_wp2_with fail
  refine (is_any h1).mono ?_
  rintro e w1 ⟨rfl, rfl⟩
  go_wp2
  go_ret
  exact ⟨rfl, rfl⟩
theorem tat_any {w : World} {g : Nat} {l : List Row} (h : TabR w g l) (hl : LOk l) {i : Nat} {r : Row} (hi : l[i]? = some r) : Calls Try.prog 31 #[.pointer (some ⟨g, 0, none⟩), .int .i64 i] w fun e w' => e = .returned (.tuple #[r.val, .int .i64 0]) ∧ Below w.heap.size w w' := by
  obtain ⟨t, root, h1, h2, h3, h4⟩ := h
  have B0 := Lib.hid (below_alloc (Below.refl w.heap.size w) (.cells #[.string ⟨#[]⟩, .string ⟨#[]⟩, .int .i64 0] tRow))
  have P0 := Lib.hid (blk_new w (.cells #[.string ⟨#[]⟩, .string ⟨#[]⟩, .int .i64 0] tRow))
  have H := Lib.hid (blk_below h1 B0.out)
  have HT := Lib.hid (h2.below B0.out)
  have HW := Lib.hid h3
  have HL := Lib.hid h4
  have HI := Lib.hid hi
  have HLN := Lib.hid hl.len
  have hil : i < l.length := (List.getElem?_eq_some_iff.1 hi).1
  have hus := Try.underlying25
  have TT : Hid (TabR (w.alloc (.cells #[.string ⟨#[]⟩, .string ⟨#[]⟩, .int .i64 0] tRow)) g l) := Lib.hid ⟨t, root, H.out, HT.out, h3, h4⟩
  clear h1 h2 h3 h4 hi hl
  have d1 : ((i : Int) < 0) = False := _root_.eq_false (by omega)
  have d2 : ((l.length : Int) ≤ (i : Int)) = False := _root_.eq_false (by omega)
  have d3 : decide (l.length ≤ i) = false := by simp; omega
  have d4 : (l.length ≤ i) = False := _root_.eq_false (by omega)
  have cg := blkc H.out
  have cp := blkc P0.out
  go_enter Try.func31, Try.ntmps31
  go_wp2_with fail
  generalize (World.alloc w _) = W0 at *
  refine (is_any H.out).mono ?_
  rintro e w1 ⟨rfl, rfl⟩
  go_wp2_with fail
  refine (len_any TT.out).mono ?_
  rintro e w1 ⟨rfl, rfl⟩
  go_wp2_with fail
  refine (at_any HT.out HW.out (by rw [HL.out]; have := HLN.out; omega) (by rw [HL.out]; exact HI.out)).mono ?_
  rintro e w1 ⟨t', q, rfl, hq, hn, hrow, rfl⟩
  obtain ⟨gn, pl, pr, rfl, hgn, _, _⟩ := hq.node hn
  obtain rfl := hrow
  have cn := blkc hgn
  have zp := blkz P0.out
  clear hq hn hgn cg
  go_wp2_with fail
  have P1 := Lib.hid (set_row3 P0.out rfl (.string t'.row.key) (.string t'.row.value) (.int .i64 t'.row.version))
  have B1 := Lib.hid (below_row3 (b := w.heap.size) B0.out (Nat.le_refl _) (.string t'.row.key) (.string t'.row.value) (.int .i64 t'.row.version))
  have c1 := blkc P1.out
  exact bodyPost_ret (v := .tuple #[t'.row.val, .int .i64 0]) (by simp [results, Try.results31, go_sem, hus, c1]) rfl ⟨rfl, B1.out⟩
set_option maxHeartbeats 1600000 in
theorem turned_any {w : World} {A : Option Addr} {c : Nat} {l : List Row} (hC : kR.C w A l.length l) (hbig : l.length ≤ 3518437208780) : Calls Try.prog 33 #[.slice A l.length c] w fun e w' => ∃ A' c', e = .returned (.slice A' l.length c') ∧ kR.C w' A' l.length l.reverse ∧ l.length ≤ c' ∧ Below w.heap.size w w' := by
  have HC := Lib.hid hC
  have HBIG := Lib.hid hbig
  clear hC
  have f0 : wrap64 ((l.length : Int) - 1) = (l.length : Int) - 1 := by rw [← i64_w]; exact IntWalk.i64_in _ (by omega)
  go_enter Try.func33, Try.ntmps33
  go_wp2_with fail
  go_loopg [3, 4] l.length (fun kq v3 v4 w' => ∃ (xs : List Row), v4 = .int .i64 ((kq : Int) - 1) ∧ Hid (kq ≤ l.length) ∧ Hid (xs = (l.drop kq).reverse) ∧ Hid (kR.R tRow w' w.heap.size (fun _ => True) v3 xs) ∧ Hid (Below w.heap.size w w'))
  case atStart => exact ⟨[], rfl, Lib.hid (Nat.le_refl _), Lib.hid (by simp), Lib.hid (Kd.R_nil _ _ _ _ _), Lib.hid (Below.refl _ _)⟩
  case round =>
    obtain ⟨xs, rfl, HK, HX, R, B⟩ := hrel
    obtain ⟨A3, c3, rfl⟩ := Kd.R_slice R.out
    cases gk with
    | zero =>
      have c2 : ((0 : Int) ≤ (0 : Nat) - 1) = False := _root_.eq_false (by omega)
      have HXX := Lib.hid (show xs = l.reverse by rw [HX.out]; rfl)
      have hxl : xs.length = l.length := by rw [HXX.out, List.length_reverse]
      go_wp2
      go_ret
      have h := Kd.R_reads' R.out
      rw [HXX.out, List.length_reverse] at h
      rw [hxl]
      exact ⟨A3, c3, rfl, h.2.2, by have := h.2.1; omega, B.out⟩
    | succ k =>
      have hk : k < l.length := by have := HK.out; omega
      have hu := List.getElem?_eq_getElem hk
      have HX2 := Lib.hid (show xs ++ [l[k]] = (l.drop k).reverse by rw [HX.out, List.drop_eq_getElem_cons hk, List.reverse_cons])
      generalize l[k] = r at *
      obtain ⟨ad, hA, x0, x1, x2⟩ := at_R (Kd.C_below HC.out B.out) hu
      cases hA
      have hxl : xs.length = l.length - (k + 1) := by rw [HX.out, List.length_reverse, List.length_drop]
      have hkk : ((k + 1 : Nat) : Int) - 1 = (k : Int) := by omega
      have p1 := eq_true (show 0 ≤ (k : Int) by omega)
      have p2 := eq_true (show k < l.length by omega)
      have HF := Lib.hid (show wrap64 ((k : Int) - 1) = (k : Int) - 1 by rw [← i64_w]; exact IntWalk.i64_in _ (by omega))
      have f2 := HF.out
      have R2 := Lib.hid (Kd.R_alloc R.out (.cells #[.string r.key, .string r.value, .int .i64 r.version] tRow))
      have B2 := Lib.hid (below_alloc B.out (.cells #[.string r.key, .string r.value, .int .i64 r.version] tRow))
      have C2 := Lib.hid ((Kd.R_reads' (R_of_own (l := [r]) (World.ownsRow_lit (base := w.heap.size) (e := tRow) (size := 3) wr #[.string r.key, .string r.value, .int .i64 r.version] 1 B.out.size (by decide) rfl))).2.2)
      clear hu
      rw [hkk]
      go_wp2_with (at_builtin; refine Kd.R_append_rows kR (Rr := kR.K (wr.alloc (.cells #[.string r.key, .string r.value, .int .i64 r.version] tRow))) (w0 := w) w.heap.size rfl (.tmp 12) (.tmp 17) 29 tRow (.agg #[.string ⟨#[]⟩, .string ⟨#[]⟩, .int .i64 0]) 40 rfl Try.underlying29 info_R rfl (by decide) (by decide) (.slice A3 xs.length c3) xs [r] (some ⟨wr.heap.size, 0, none⟩) 1 1 (fun _ => True) (fun _ => False) rfl rfl R2.out C2.out (fun _ _ h => h) (fun _ h => h.elim) (fun _ _ => trivial) B2.out B2.out.size (by omega) ?_; intro v5 w5 hr5 hb5 hg5 hat5; (have R5 := Lib.hid hr5); (have B5 := Lib.hid hb5); clear hr5 hb5 hg5 hat5)
      go_roundg k
      case measure => exact Nat.lt_succ_self _
      case rel => exact ⟨xs ++ [r], rfl, Lib.hid (by omega), HX2, R5, B5⟩
end Go.Proofs.Ytjpalkggmefpfaa.Tab
