/- Snapshot; a table's rows in a list of their own. -/
import Derived.Test.YtjpalkggmefpfaaTabEq
import Derived.Test.YtjpalkggmefpfaaTableFroms
import Derived.Test.YtjpalkggmefpfaaTabRep
set_option linter.unusedVariables false
set_option linter.unusedSimpArgs false
namespace Go.Proofs.Ytjpalkggmefpfaa.Tab
open Go.RowKit Go.Proofs.Ytjpalkggmefpfaa.Mem Go.Proofs.YtjpalkggmefpfaaW.PrintWords Go.Proofs.YtjpalkggmefpfaaW.PrintLast Go.Deep Go.Proofs.Ytjpalkggmefpfaa.Opn
section
attribute [local go_sem ↓] execOp_call_tmp
attribute [local go_sem] callVal_func
theorem snap_any {w : World} {g : Nat} {l : List Row} (h : TabR w g l) : Calls Try.prog 34 #[.pointer (some ⟨g, 0, none⟩)] w fun e w' => ∃ q, e = .returned (.pointer (some ⟨q, 0, none⟩)) ∧ w.heap.size ≤ q ∧ TabR w' q l ∧ Below w.heap.size w w' := by
  obtain ⟨t, root, h1, h2, h3, h4⟩ := h
  have H := Lib.hid h1
  have HT := Lib.hid h2
  have B0 := Lib.hid (below_alloc (Below.refl w.heap.size w) (.cells #[Value.pointer root, .int .i64 (size l), .bool true] tTab))
  have Q0 := Lib.hid (blk_new w (.cells #[Value.pointer root, .int .i64 (size l), .bool true] tTab))
  clear h1 h2
  have cg := blkc H.out
  go_enter Try.func34, Try.ntmps34
  go_wp2_with fail
  refine (is_any H.out).mono ?_
  rintro e w1 ⟨rfl, rfl⟩
  go_wp2
  go_ret
  exact ⟨w.heap.size, rfl, Nat.le_refl _, ⟨t, root, Q0.out, HT.out.below B0.out, h3, h4⟩, B0.out⟩
end
attribute [local go_sem] Oper.semAt_some
theorem told_rows (l : List Row) : segD false l (below ⟨#[]⟩ l).length (upTo l ⟨#[]⟩) = l := by
  have h1 : below ⟨#[]⟩ l = [] := below_none (fun x _ => lt_none _)
  rw [h1, show upTo l ⟨#[]⟩ = l.length from rfl]
  exact seg_all l
/-- What lies in the list that is made. -/
def AllI (n0 bl : Nat) (w : World) (pre : List Row) (W : World) : Prop :=
  (∃ v, Boxed W bl tRows v ∧ W.ownsRow n0 tRow 3 v pre.length (rowsC pre) ∧ True) ∧ Below n0 w W
theorem allI_own (n0 bl : Nat) (w : World) (B : Nat) (h1 : n0 ≤ w.heap.size) (h2 : n0 ≤ B) : OwnFrom B (AllI n0 bl w) :=
  OwnFrom.and (Own.from (holdsRow_own n0 bl tRows tRow 3 (fun pre : List Row => pre.length) rowsC (fun _ _ => True)) _) (ownFrom_below h1 h2)
theorem AllI.below {n0 bl : Nat} {w : World} {pre : List Row} {A B : World} (h : AllI n0 bl w pre A) (hb : Below A.heap.size A B) (hn : n0 ≤ A.heap.size) : AllI n0 bl w pre B := by
  obtain ⟨⟨v, hv, hr, hm⟩, hb2⟩ := h
  exact ⟨⟨v, blk_below hv hb, pw_own_below hr hb, hm⟩, hb2.trans (hb.mono hn)⟩
set_option maxRecDepth 100000 in
set_option maxHeartbeats 4000000 in
theorem all_any {w : World} {g : Nat} {l : List Row} (h : TabR w g l) (hl : LOk l) :
    Calls Try.prog 57 #[.pointer (some ⟨g, 0, none⟩)] w fun e w' => ∃ v, e = .returned v ∧ w'.ownsRow w.heap.size tRow 3 v l.length (rowsC l) ∧ Below w.heap.size w w' := by
  obtain ⟨i0, hi, hz0, hz1, hz2⟩ := info_parts infoRow
  have hlen := hl.len
  have HLN := Lib.hid hlen
  clear hlen
  refine (callsIn_wide (n := 5)).1 ?_
  refine callsIn_of_wp_marks Try.func57 rfl trivial ?_ rfl
  simp only [Try.ntmps57, List.size_toArray, List.length_cons, List.length_nil, Nat.reduceAdd, Nat.reduceSub, Array.replicate_succ, Array.replicate_zero, List.push_toArray, List.append_toArray, List.nil_append, List.cons_append]
  gi_wp2_with fail
  refine ⟨trivial, callsIn_wide.2 ?_⟩
  refine (len_any h).mono ?_
  rintro e w1 ⟨rfl, rfl⟩
  gi_wp2_with (gi_at_make; refine wpListIn_make_own _ rfl _ _ tRows rfl w.heap.size tRow i0 (.agg #[.string ⟨#[]⟩, .string ⟨#[]⟩, .int .i64 0]) 3 Try.underlying29 hi hz0 hz1 .i64 .i64 _ l.length rfl rfl rfl (by rw [hz2]; have := HLN.out; omega) (by have := HLN.out; unfold maxLen; omega) (Nat.le_refl _) ?_; intro w1 hown hgrow; (have B0 := Lib.hid ((Below.refl w.heap.size w).grown hgrow (Nat.le_refl _) (fun k e => by cases e))); (have T1 := Lib.hid (h.below B0.out)); (have HO := Lib.hid hown); clear hown hgrow h)
  gi_wp2_with fail
  have XB := Lib.hid (blk_new w1 (.cells #[.slice (some ⟨w.heap.size, 0, none⟩) 0 l.length] tRows))
  have BB := below_alloc (Below.refl w1.heap.size w1) (.cells #[.slice (some ⟨w.heap.size, 0, none⟩) 0 l.length] tRows)
  have T2 := Lib.hid (T1.out.below BB)
  have O2 := Lib.hid (HO.out.alloc (.cells #[.slice (some ⟨w.heap.size, 0, none⟩) 0 l.length] tRows))
  have B2 := Lib.hid (below_then B0.out B0.out.size BB)
  have hbl : w.heap.size ≤ w1.heap.size := B0.out.size
  clear BB T1 HO B0
  generalize w1.heap.size = bl at *
  generalize (World.alloc w1 _) = W0 at *
  refine ⟨trivial, callsIn_wide.2 ?_⟩
  refine (rows_any T2.out hl ⟨#[]⟩ ⟨#[]⟩).mono ?_
  rintro e W1 ⟨lb, rfl, hi1, hb1⟩
  have B1 := Lib.hid (below_then B2.out B2.out.size hb1)
  have HI := Lib.hid hi1
  have Y1 := Lib.hid (blk_below XB.out hb1)
  have Y2 := Lib.hid (pw_own_below O2.out hb1)
  have HSEG := Lib.hid (told_rows l)
  have hup : upTo l ⟨#[]⟩ = (l.length : Int) := rfl
  have HUP := Lib.hid hup
  have hlo : (below ⟨#[]⟩ l).length = 0 := by rw [below_none (fun x _ => lt_none _)]; rfl
  have HLO := Lib.hid hlo
  clear hi1 hb1 T2 O2 B2 XB hup hlo
  gi_wp2_with fail
  have hn0 : w.heap.size ≤ W1.heap.size := B1.out.size
  have H00 : Hid (AllI w.heap.size bl w [] W1) := Lib.hid ⟨⟨_, Y1.out, Y2.out, trivial⟩, B1.out⟩
  refine wpIn_rangeFunc_ownH rfl (by omega) (gf := 68) (lb := lb) rfl trivial (enters_of Try.func68 (by kernel_rfl) rfl)
    (walk1_stops (b0 := W1.heap.size) HI.out (by have := HLN.out; omega) (Nat.le_refl _) (by rw [HLO.out]; omega) (by rw [HLO.out]; omega) (by rw [HUP.out]; have := HLN.out; omega) (by rw [HUP.out]; have := HLN.out; omega))
    (fun h k => KeepI.trans h k) (fun W k o o' _ h hc _ => KeepI.putObj W k o o' h hc) (Below.refl _ _) (fun _ => rfl)
    (AllI w.heap.size bl w) (fun _ _ _ => False)
    (allI_own _ _ _ _ (Nat.le_refl _) hn0) (fun c => fun s X Y row hs _ _ => hs.elim) H00.out
    (fun x a' W => ∃ Bx, W.heap[Bx]? = some (.cells #[.string x.key, .string x.value, .int .i64 x.version] tRow (0, 0)) ∧ a' = { tmps := #[.pointer (some ⟨g, 0, none⟩), undef, .slice none 0 0, .pointer (some ⟨bl, 0, none⟩), .pointer (some ⟨Bx, 0, none⟩), .pointer (some ⟨g, 0, none⟩), .int .i64 l.length, .slice (some ⟨w.heap.size, 0, none⟩) 0 l.length, .pointer (some ⟨g, 0, none⟩), .agg #[.string ⟨#[]⟩, .string ⟨#[]⟩], .func (.func 68) #[] lb, x.val, undef, undef, undef, undef, undef], defers := [] })
    (fun x a' => fun s X Y row hs hg hr => by obtain ⟨Bx, h1, h2⟩ := hs; exact ⟨Bx, block_own W1.heap.size Bx (fun _ : Unit => .cells #[.string x.key, .string x.value, .int .i64 x.version] tRow (0, 0)) (fun _ => rfl) () X Y row h1 hg hr, h2⟩) ?assign ?body ?done ?stop
  case assign =>
    intro lp pre x W K hI hK
    have hw : w.heap.size ≤ W.heap.size := hI.2.size
    have HB := below_alloc (Below.refl W.heap.size W) (.cells #[.string x.key, .string x.value, .int .i64 x.version] tRow)
    have HK := Lib.hid (hK _ _ ((KeepsOthers.alloc _ _).from _) (KeepI.of_below HB) (hI.below HB hw) ⟨W.heap.size, blk_new W (.cells #[.string x.key, .string x.value, .int .i64 x.version] tRow), rfl⟩)
    clear hK hI HB
    gi_wp2
    exact HK.out
  case body =>
    rintro lp pre x a' W hlp ⟨r, hr⟩ ⟨⟨v, hv, hrow, _⟩, hbw⟩ ⟨Bx, hbx, rfl⟩ hlt
    have HBW := Lib.hid hbw
    have HROW := Lib.hid hrow
    have HV := Lib.hid hv
    obtain ⟨A, c, rfl⟩ := own_slice hrow
    have hpl : pre.length ≤ 1048576 := by have := HLN.out; rw [HSEG.out] at hlt; omega
    have cv := hv.cell
    have cx := blkc hbx
    have hsz := HBW.out.size
    clear hr hbw hbx hrow hv hlt
    have HPL := Lib.hid hpl
    clear hpl
    gi_wp2_with (gi_at_builtin; refine wpListIn_append_own _ rfl _ _ tRows rfl w.heap.size tRow i0 (.agg #[.string ⟨#[]⟩, .string ⟨#[]⟩, .int .i64 0]) 3 40 Try.underlying29 hi hz0 hz1 hz2 rfl (by decide) _ _ _ rfl (HROW.out.alloc _) ⟨W.heap.size, 0, none⟩ 1 1 x.cells rfl rfl (news3 W x) (by simp [Row.cells, Value.oneCell']) (by have := HPL.out; unfold maxLen; omega) (by have := HPL.out; omega) (by simp; omega) ?_; intro v' w1 hown' hgrow _; obtain ⟨g', cap', rfl⟩ := ownsRow_succ hown'; obtain ⟨hv1, hv2, hr2, hk2, hb2⟩ := HV.out.appended (show tRows ≠ tRow by decide) HROW.out hsz hbl hown' hgrow; have hc1 := hv1.cell; have hf1 := hv1.frozen)
    exact ⟨hk2.from _, keepI_appended HV.out HROW.out hgrow, ⟨_, hv2, by rw [rowsC_snoc, List.length_append]; exact hr2, trivial⟩, HBW.out.trans hb2⟩
  case done =>
    rintro D ys W hD rfl ⟨⟨v, hv, hrow, _⟩, hbw⟩ hK
    have hc := hv.cell
    rw [HSEG.out] at hrow
    gi_wp2
    refine ⟨by simp, .inl ⟨_, _, rfl, run_takeDeferred hK, ?_⟩⟩
    exact ⟨_, results_tmp rfl _ _ _, v, rfl, ownsRow_putObj hrow _ hK rfl, hbw.trans (belowK_b (w := w) (Nat.le_refl _) W D _ _ (by omega) hK rfl rfl)⟩
  case stop =>
    rintro D c pre W hD hp hf hK
    exact hf.elim

end Go.Proofs.Ytjpalkggmefpfaa.Tab
