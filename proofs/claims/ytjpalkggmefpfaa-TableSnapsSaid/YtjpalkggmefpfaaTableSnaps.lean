/- TableSnaps, walked. -/
import Derived.Test.YtjpalkggmefpfaaTabChg
set_option linter.unusedVariables false
set_option linter.unusedSimpArgs false
namespace Go.Proofs.Ytjpalkggmefpfaa.Tab
open Go.RowKit Go.Proofs.Ytjpalkggmefpfaa.Mem Go.Proofs.YtjpalkggmefpfaaW.PrintWords Go.Proofs.YtjpalkggmefpfaaW.PrintLast Go.Deep Go.Proofs.Ytjpalkggmefpfaa.Opn
attribute [local go_sem ↓] execOp_call_tmp
attribute [local go_sem] callVal_func
abbrev rV : Row := ⟨⟨#[109]⟩, ⟨#[118]⟩, 3⟩
theorem putL_v : putL [] rV = (0, [rV]) := by
  unfold putL
  rw [if_pos (by decide), if_pos (.inr (by simp))]
  rfl
theorem tab_far {w : World} {base : Nat} {v : Value} {l l' : List Row} {g : Nat} (h : kR.R tRow w base (fun _ => True) v l) (hT : TabR w g l') : kR.R tRow w base (fun k => True ∧ k ≠ g) v l := by
  obtain ⟨t, root, h1, _⟩ := hT
  exact Kd.R_types h h1 (fun q hq => by
    have e : q = tRow := by simpa [kR, Kd.iso, kRow, Kd.pair, Kd.string, Kd.scalar, Kd.int] using hq
    rw [e]
    decide)
set_option maxHeartbeats 12800000 in
set_option maxRecDepth 100000 in
theorem snaps_any (script : List TStep) (Ag : Option Addr) (cg : Nat) (script2 : List TStep) (Ag2 : Option Addr) (cg2 : Nat) (key : ByteArray) (w : World) (hcg : script.length ≤ cg) (hlen : script.length ≤ 1649267441664) (hG : kTOp.C w Ag script.length script) (hrows : ∀ s, s ∈ script → s.rows.length ≤ 3518437208780) (hcg2 : script2.length ≤ cg2) (hlen2 : script2.length ≤ 1649267441664) (hG2 : kTOp.C w Ag2 script2.length script2) (hrows2 : ∀ s, s ∈ script2 → s.rows.length ≤ 3518437208780) :
    Calls Try.prog 9 #[.slice Ag script.length cg, .slice Ag2 script2.length cg2, .string key] w fun e w' => e = .returned (.bool true) ∧ Below w.heap.size w w' := by
  have HG := Lib.hid hG
  have HR := Lib.hid hrows
  have HG2 := Lib.hid hG2
  have HR2 := Lib.hid hrows2
  clear hG hrows hG2 hrows2
  go_enter Try.func9, Try.ntmps9
  go_wp2_with fail
  refine (new_some w).mono ?_
  rintro e w1 ⟨g, rfl, hg, hT1, hb1⟩
  have T1 := Lib.hid hT1
  have B1 := Lib.hid hb1
  clear hT1 hb1
  go_wp2_with fail
  refine (tput_any (w0 := w) rV T1.out LOk.nil hg B1.out).mono ?_
  rintro e w2 ⟨rfl, hT2, hk2, hb2⟩
  rw [putL_v] at hT2 ⊢
  have T2 := Lib.hid hT2
  have B2 := Lib.hid hb2
  have O2 : Hid (LOk [rV]) := Lib.hid (by have := LOk.nil.putL rV; rw [putL_v] at this; exact this)
  clear hT2 hk2 hb2 T1 B1
  go_wp2_with fail
  go_loopg [32] script.length (fun kq v32 w' => ∃ (k : Nat) (l : List Row), v32 = .int .i64 (k : Int) ∧ Hid (k + kq = script.length) ∧ Hid (TabR w' g l) ∧ Hid (LOk l) ∧ Hid (Below w.heap.size w w'))
  case atStart => exact ⟨0, [rV], rfl, (show _ + _ = _ by omega), T2, O2, B2⟩
  case round =>
    clear T2 O2 B2
    obtain ⟨k, l, rfl, HK, T, OK, B⟩ := hrel
    cases gk with
    | zero =>
      have hk : k = script.length := HK.out
      have c2 : decide (k < script.length) = false := by simp; omega
      clear hk HK
      go_wp2_with fail
      clear c2
      refine (snap_any T.out).mono ?_
      rintro e w3 ⟨q, rfl, hq, hTq, hb3⟩
      have hqg : q ≠ g := by have := T.out.lt; omega
      have hwq : w.heap.size ≤ q := Nat.le_trans B.out.size hq
      have B3 := Lib.hid (below_then B.out B.out.size hb3)
      have T3 := Lib.hid (T.out.below hb3)
      have S3 := Lib.hid hTq
      have LO := Lib.hid OK.out
      clear hq hTq hb3 T B
      go_wp2_with fail
      refine (whole_any w3).mono ?_
      rintro e w5 ⟨rfl, hb5⟩
      have B5 := Lib.hid (below_then B3.out B3.out.size hb5)
      have T5 := Lib.hid (T3.out.below hb5)
      have S5 := Lib.hid (S3.out.below hb5)
      clear hb5 B3 T3 S3
      go_wp2_with fail
      refine (told_up T5.out OK.out ⟨#[]⟩ ⟨#[]⟩ (-1)).mono ?_
      rintro e w6 ⟨v6, rfl, hr6, hb6⟩
      rw [told_all] at hr6
      have hR6 := R_of_own hr6
      obtain ⟨A6, c6, rfl⟩ := Kd.R_slice hR6
      have B6 := Lib.hid (below_then B5.out B5.out.size hb6)
      have T6 := Lib.hid (T5.out.below hb6)
      have S6 := Lib.hid (S5.out.below hb6)
      have R6 := Lib.hid (tab_far hR6 T6.out)
      clear hb6 B5 T5 S5 hr6 hR6
      go_wp2_with fail
      refine (len_any T6.out).mono ?_
      rintro e w7 ⟨rfl, rfl⟩
      go_wp2_with fail
      refine (tsize_any T6.out).mono ?_
      rintro e w7 ⟨rfl, rfl⟩
      go_wp2_with fail
      refine (trank_any T6.out OK.out key).mono ?_
      rintro e w7 ⟨rfl, rfl⟩
      go_wp2_with fail
      refine (tget_any T6.out OK.out.up key).mono ?_
      rintro e w7 ⟨rfl, hb7⟩
      obtain ⟨r0, hr0⟩ : ∃ r, (find l key).getD Row.zero = r := ⟨_, rfl⟩
      obtain ⟨ok0, hok0⟩ : ∃ b, (find l key).isSome = b := ⟨_, rfl⟩
      have HR0 := Lib.hid (And.intro hr0 hok0)
      rw [hr0, hok0]
      clear hr0 hok0
      have bb := below_then hb7 hb7.size (below_alloc (Below.refl w7.heap.size w7) (.cells #[.string r0.key, .string r0.value, .int .i64 r0.version] tRow))
      have Q7 := Lib.hid (blk_new w7 (.cells #[.string r0.key, .string r0.value, .int .i64 r0.version] tRow))
      have B7 := Lib.hid (below_then B6.out B6.out.size bb)
      have T7 := Lib.hid (T6.out.below bb)
      have S7 := Lib.hid (S6.out.below bb)
      have R7 := Lib.hid (Kd.R_below R6.out bb)
      have hb15g : w7.heap.size ≠ g := by have := T6.out.lt; have := hb7.size; omega
      clear hb7 bb B6 T6 S6 R6
      go_upto_region 13 with (fail)
      generalize w7.heap.size = b15 at *
      generalize (World.alloc w7 _) = W7 at *
      go_wp2_with fail
      go_loopg [60] script2.length (fun kq v60 w' => ∃ (k : Nat) (l2 : List Row), v60 = .int .i64 (k : Int) ∧ Hid (k + kq = script2.length) ∧ Hid (TabR w' g l2) ∧ Hid (LOk l2) ∧ Hid (Below w.heap.size w w') ∧ Hid (TabR w' q l) ∧ Hid (kR.R tRow w' w5.heap.size (fun k => True ∧ k ≠ g) (.slice A6 l.length c6) l) ∧ Hid (w'.heap[b15]? = some (.cells #[.string r0.key, .string r0.value, .int .i64 r0.version] tRow (0, 0))))
      case atStart => exact ⟨0, l, rfl, (show _ + _ = _ by omega), T7, OK, B7, S7, R7, Q7⟩
      case round =>
        clear T7 OK B7 S7 R7 Q7
        obtain ⟨k, l2, rfl, HK, T, OK, B, S, R, Q⟩ := hrel
        cases gk with
        | zero =>
          have hk : k = script2.length := HK.out
          have c2 : decide (k < script2.length) = false := by simp; omega
          clear hk HK
          go_wp2_with fail
          clear c2
          refine (len_any S.out).mono ?_
          rintro e w7 ⟨rfl, rfl⟩
          go_wp2_with fail
          refine (tsize_any S.out).mono ?_
          rintro e w7 ⟨rfl, rfl⟩
          go_wp2_with fail
          refine (trank_any S.out LO.out key).mono ?_
          rintro e w7 ⟨rfl, rfl⟩
          go_wp2_with fail
          refine (whole_any _).mono ?_
          rintro e w8 ⟨rfl, hb8⟩
          have B8 := Lib.hid (below_then B.out B.out.size hb8)
          have T8 := Lib.hid (T.out.below hb8)
          have S8 := Lib.hid (S.out.below hb8)
          have R8 := Lib.hid (Kd.R_below R.out hb8)
          have Q8 := Lib.hid (blk_below Q.out hb8)
          clear hb8 B T S R Q
          go_wp2_with fail
          refine (told_up S8.out LO.out ⟨#[]⟩ ⟨#[]⟩ (-1)).mono ?_
          rintro e w9 ⟨v9, rfl, hr9, hb9⟩
          rw [told_all] at hr9
          obtain ⟨A9, c9, rfl, _, hC9⟩ := C_of_own hr9
          have B9 := Lib.hid (below_then B8.out B8.out.size hb9)
          have T9 := Lib.hid (T8.out.below hb9)
          have S9 := Lib.hid (S8.out.below hb9)
          have R9 := Lib.hid (Kd.R_below R8.out hb9)
          have Q9 := Lib.hid (blk_below Q8.out hb9)
          have C9 := Lib.hid hC9
          clear hb9 B8 T8 S8 R8 Q8 hr9 hC9
          go_wp2_with fail
          refine (same_any w9 A9 A6 c9 c6 l C9.out (Kd.R_reads' R9.out).2.2).mono ?_
          rintro e w10 ⟨rfl, hb10⟩
          have B10 := Lib.hid (below_then B9.out B9.out.size hb10)
          have T10 := Lib.hid (T9.out.below hb10)
          have S10 := Lib.hid (S9.out.below hb10)
          have Q10 := Lib.hid (blk_below Q9.out hb10)
          clear hb10 B9 T9 S9 R9 Q9 C9
          go_wp2_with fail
          refine (tget_any S10.out LO.out.up key).mono ?_
          rintro e w11 ⟨rfl, hb11⟩
          rw [HR0.out.1, HR0.out.2]
          have bb := below_then hb11 hb11.size (below_alloc (Below.refl w11.heap.size w11) (.cells #[.string r0.key, .string r0.value, .int .i64 r0.version] tRow))
          have P11 := Lib.hid (blk_new w11 (.cells #[.string r0.key, .string r0.value, .int .i64 r0.version] tRow))
          have Q11 := Lib.hid (blk_below Q10.out bb)
          have B11 := Lib.hid (below_then B10.out B10.out.size bb)
          have T11 := Lib.hid (T10.out.below bb)
          have S11 := Lib.hid (S10.out.below bb)
          clear hb11 bb B10 T10 S10 Q10
          go_upto_region 20 with (fail)
          generalize w11.heap.size = b20 at *
          generalize (World.alloc w11 _) = W11 at *
          have hne := fun W => run_neR r0 r0 W
          rw [(Row.eqb_iff r0 r0).2 rfl] at hne
          simp only [Bool.not_true] at hne
          have cq := blkc Q11.out
          have cp := blkc P11.out
          go_wp2_with fail
          clear cq cp hne
          refine (changes_any S11.out LO.out T11.out OK.out).mono ?_
          rintro e w12 ⟨v12, rfl, hR12, hb12⟩
          obtain ⟨A12, c12, rfl⟩ := Kd.R_slice hR12
          obtain ⟨bz, hz0, hz1⟩ : ∃ b, (((diffs l l2).length : Int) == 0) = b ∧ ((diffs l l2).length == 0) = b := ⟨_, rfl, by rw [Bool.eq_iff_iff, beq_iff_eq, beq_iff_eq]; omega⟩
          have B12 := Lib.hid (below_then B11.out B11.out.size hb12)
          have T12 := Lib.hid (T11.out.below hb12)
          have S12 := Lib.hid (S11.out.below hb12)
          clear hb12 hR12 B11 T11 S11 P11 Q11
          go_wp2_with fail
          refine (equal_any S12.out LO.out T12.out OK.out).mono ?_
          rintro e w13 ⟨rfl, hb13⟩
          rw [hz1]
          have B13 := Lib.hid (below_then B12.out B12.out.size hb13)
          have T13 := Lib.hid (T12.out.below hb13)
          have S13 := Lib.hid (S12.out.below hb13)
          clear hb13 B12 T12 S12
          go_wp2_with fail
          clear hz0 hz1
          refine (whole_any _).mono ?_
          rintro e w14 ⟨rfl, hb14⟩
          have B14 := Lib.hid (below_then B13.out B13.out.size hb14)
          have T14 := Lib.hid (T13.out.below hb14)
          have S14 := Lib.hid (S13.out.below hb14)
          clear hb14 B13 T13 S13
          go_wp2_with fail
          refine (told_up T14.out OK.out ⟨#[]⟩ ⟨#[]⟩ (-1)).mono ?_
          rintro e w15 ⟨v15, rfl, hr15, hb15⟩
          rw [told_all] at hr15
          have hR15 := R_of_own hr15
          obtain ⟨A15, c15, rfl⟩ := Kd.R_slice hR15
          have B15 := Lib.hid (below_then B14.out B14.out.size hb15)
          have T15 := Lib.hid (T14.out.below hb15)
          have S15 := Lib.hid (S14.out.below hb15)
          have R15 := Lib.hid (tab_far hR15 S15.out)
          have LO2 := Lib.hid OK.out
          have hgq : g ≠ q := fun e => hqg e.symm
          clear hb15 B14 T14 S14 hr15 hR15
          go_wp2_with fail
          go_loopg [126] script.length (fun kq v126 w' => ∃ (k : Nat) (l3 : List Row), v126 = .int .i64 (k : Int) ∧ Hid (k + kq = script.length) ∧ Hid (TabR w' q l3) ∧ Hid (LOk l3) ∧ Hid (Below w.heap.size w w') ∧ Hid (TabR w' g l2) ∧ Hid (kR.R tRow w' w14.heap.size (fun k => True ∧ k ≠ q) (.slice A15 l2.length c15) l2))
          case atStart => exact ⟨0, l, rfl, (show _ + _ = _ by omega), S15, LO, B15, T15, R15⟩
          case round =>
            clear S15 OK B15 T15 R15
            obtain ⟨k, l3, rfl, HK, T, OK, B, S, R⟩ := hrel
            cases gk with
            | zero =>
              have hk : k = script.length := HK.out
              have c2 : decide (k < script.length) = false := by simp; omega
              clear hk HK
              go_wp2_with fail
              clear c2
              refine (tdel_any key T.out OK.out hwq B.out).mono ?_
              rintro e w16 ⟨rfl, hT16, hk16, hb16⟩
              have B16 := Lib.hid hb16
              have S16 := Lib.hid (S.out.kept T.out hgq hk16)
              have R16 := Lib.hid (Kd.R_kept R.out hk16 (fun k hk => hk.2))
              clear hT16 hk16 hb16 T B S R
              go_wp2_with fail
              refine (whole_any _).mono ?_
              rintro e w17 ⟨rfl, hb17⟩
              have B17 := Lib.hid (below_then B16.out B16.out.size hb17)
              have S17 := Lib.hid (S16.out.below hb17)
              have R17 := Lib.hid (Kd.R_below R16.out hb17)
              clear hb17 B16 S16 R16
              go_wp2_with fail
              refine (told_up S17.out LO2.out ⟨#[]⟩ ⟨#[]⟩ (-1)).mono ?_
              rintro e w18 ⟨v18, rfl, hr18, hb18⟩
              rw [told_all] at hr18
              obtain ⟨A18, c18, rfl, _, hC18⟩ := C_of_own hr18
              have B18 := Lib.hid (below_then B17.out B17.out.size hb18)
              have R18 := Lib.hid (Kd.R_below R17.out hb18)
              have C18 := Lib.hid hC18
              clear hb18 B17 S17 R17 hr18 hC18
              go_wp2_with fail
              refine (same_any w18 A18 A15 c18 c15 l2 C18.out (Kd.R_reads' R18.out).2.2).mono ?_
              rintro e w19 ⟨rfl, hb19⟩
              have B19 := Lib.hid (below_then B18.out B18.out.size hb19)
              clear hb19
              go_wp2
              go_ret
              exact ⟨rfl, B19.out⟩
            | succ k1 =>
              have hk : k < script.length := by have := HK.out; omega
              have hu := List.getElem?_eq_getElem hk
              have hrs := HR.out script[k] (List.getElem_mem hk)
              generalize script[k] = s at *
              obtain ⟨ad, v, hA, hv, hx0, hx⟩ := at_TOp HG.out hu
              cases hA
              obtain ⟨Av, cv, ev, hvv⟩ := hv
              cases ev
              have HVV := Lib.hid hvv.2
              have hx0 := pw_cell_below (w1 := wr) B.out hx0
              have hx1 := pw_cell_below (w1 := wr) B.out (show w.cell? ⟨(ad.add (k * 11)).block, (ad.add (k * 11)).off + 1, none⟩ = some (.int .i64 s.table) from hx 1 (by omega) (by omega))
              have hx2 := pw_cell_below (w1 := wr) B.out (show w.cell? ⟨(ad.add (k * 11)).block, (ad.add (k * 11)).off + 2, none⟩ = some (.int .i64 s.to2) from hx 2 (by omega) (by omega))
              have hx3 := pw_cell_below (w1 := wr) B.out (show w.cell? ⟨(ad.add (k * 11)).block, (ad.add (k * 11)).off + 3, none⟩ = some (.string s.row.key) from hx 3 (by omega) (by omega))
              have hx4 := pw_cell_below (w1 := wr) B.out (show w.cell? ⟨(ad.add (k * 11)).block, (ad.add (k * 11)).off + 4, none⟩ = some (.string s.row.value) from hx 4 (by omega) (by omega))
              have hx5 := pw_cell_below (w1 := wr) B.out (show w.cell? ⟨(ad.add (k * 11)).block, (ad.add (k * 11)).off + 5, none⟩ = some (.int .i64 s.row.version) from hx 5 (by omega) (by omega))
              have hx6 := pw_cell_below (w1 := wr) B.out (show w.cell? ⟨(ad.add (k * 11)).block, (ad.add (k * 11)).off + 6, none⟩ = some (.string s.key) from hx 6 (by omega) (by omega))
              have hx7 := pw_cell_below (w1 := wr) B.out (show w.cell? ⟨(ad.add (k * 11)).block, (ad.add (k * 11)).off + 7, none⟩ = some (.string s.from_) from hx 7 (by omega) (by omega))
              have hx8 := pw_cell_below (w1 := wr) B.out (show w.cell? ⟨(ad.add (k * 11)).block, (ad.add (k * 11)).off + 8, none⟩ = some (.string s.upto) from hx 8 (by omega) (by omega))
              have hx9 := pw_cell_below (w1 := wr) B.out (show w.cell? ⟨(ad.add (k * 11)).block, (ad.add (k * 11)).off + 9, none⟩ = some (.slice Av s.rows.length cv) from hx 9 (by omega) (by omega))
              have hx10 := pw_cell_below (w1 := wr) B.out (show w.cell? ⟨(ad.add (k * 11)).block, (ad.add (k * 11)).off + 10, none⟩ = some (.int .i64 s.n) from hx 10 (by omega) (by omega))
              have c2 : decide (k < script.length) = true := by simpa using hk
              have p1 := eq_true (show 0 ≤ (k : Int) by omega)
              have p2 := eq_true (show k < script.length by omega)
              have ba := below_alloc (Below.refl wr.heap.size wr) (.cells #[Value.int .i64 s.call, .int .i64 s.table, .int .i64 s.to2, .string s.row.key, .string s.row.value, .int .i64 s.row.version, .string s.key, .string s.from_, .string s.upto, .slice Av s.rows.length cv, .int .i64 s.n] tOp)
              have P4 := Lib.hid (blk_new wr (.cells #[Value.int .i64 s.call, .int .i64 s.table, .int .i64 s.to2, .string s.row.key, .string s.row.value, .int .i64 s.row.version, .string s.key, .string s.from_, .string s.upto, .slice Av s.rows.length cv, .int .i64 s.n] tOp))
              have T4 := Lib.hid (T.out.below ba)
              have B4 := Lib.hid (below_then B.out B.out.size ba)
              have S := Lib.hid (S.out.below ba)
              have R := Lib.hid (Kd.R_below R.out ba)
              have HRS := Lib.hid hrs
              clear hu hx T B hvv hrs ba
              go_upto_region 26 with (fail)
              generalize wr.heap.size = q0 at *
              generalize (World.alloc wr _) = WA at *
              clear hx0 hx1 hx2 hx3 hx4 hx5 hx6 hx7 hx8 hx9 hx10 p1 p2
              have cp := blkc P4.out
              go_wp2_with fail
              clear cp
              refine (act_any (w0 := w) T4.out OK.out hwq B4.out s (Av := Av) (cv := cv) (Nat.le_trans HRS.out (by omega)) (fun W _ hb => Kd.C_below HVV.out hb)).mono ?_
              rintro e w5 ⟨⟨v5, rfl⟩, hT, hKp, hB⟩
              have T5 := Lib.hid hT
              have B5 := Lib.hid hB
              have O5 := Lib.hid (OK.out.actL s)
              have S := Lib.hid (S.out.kept T4.out hgq hKp)
              have R := Lib.hid (Kd.R_kept R.out hKp (fun k hk => hk.2))
              clear hT hKp hB T4 B4 P4
              go_wp2_with fail
              go_roundg k1
              case measure => exact Nat.lt_succ_self _
              case rel => exact ⟨k + 1, _, by go_num, Lib.hid (by have := HK.out; omega), T5, O5, B5, S, R⟩
        | succ k1 =>
          have hk : k < script2.length := by have := HK.out; omega
          have hu := List.getElem?_eq_getElem hk
          have hrs := HR2.out script2[k] (List.getElem_mem hk)
          generalize script2[k] = s at *
          obtain ⟨ad, v, hA, hv, hx0, hx⟩ := at_TOp HG2.out hu
          cases hA
          obtain ⟨Av, cv, ev, hvv⟩ := hv
          cases ev
          have HVV := Lib.hid hvv.2
          have hx0 := pw_cell_below (w1 := wr) B.out hx0
          have hx1 := pw_cell_below (w1 := wr) B.out (show w.cell? ⟨(ad.add (k * 11)).block, (ad.add (k * 11)).off + 1, none⟩ = some (.int .i64 s.table) from hx 1 (by omega) (by omega))
          have hx2 := pw_cell_below (w1 := wr) B.out (show w.cell? ⟨(ad.add (k * 11)).block, (ad.add (k * 11)).off + 2, none⟩ = some (.int .i64 s.to2) from hx 2 (by omega) (by omega))
          have hx3 := pw_cell_below (w1 := wr) B.out (show w.cell? ⟨(ad.add (k * 11)).block, (ad.add (k * 11)).off + 3, none⟩ = some (.string s.row.key) from hx 3 (by omega) (by omega))
          have hx4 := pw_cell_below (w1 := wr) B.out (show w.cell? ⟨(ad.add (k * 11)).block, (ad.add (k * 11)).off + 4, none⟩ = some (.string s.row.value) from hx 4 (by omega) (by omega))
          have hx5 := pw_cell_below (w1 := wr) B.out (show w.cell? ⟨(ad.add (k * 11)).block, (ad.add (k * 11)).off + 5, none⟩ = some (.int .i64 s.row.version) from hx 5 (by omega) (by omega))
          have hx6 := pw_cell_below (w1 := wr) B.out (show w.cell? ⟨(ad.add (k * 11)).block, (ad.add (k * 11)).off + 6, none⟩ = some (.string s.key) from hx 6 (by omega) (by omega))
          have hx7 := pw_cell_below (w1 := wr) B.out (show w.cell? ⟨(ad.add (k * 11)).block, (ad.add (k * 11)).off + 7, none⟩ = some (.string s.from_) from hx 7 (by omega) (by omega))
          have hx8 := pw_cell_below (w1 := wr) B.out (show w.cell? ⟨(ad.add (k * 11)).block, (ad.add (k * 11)).off + 8, none⟩ = some (.string s.upto) from hx 8 (by omega) (by omega))
          have hx9 := pw_cell_below (w1 := wr) B.out (show w.cell? ⟨(ad.add (k * 11)).block, (ad.add (k * 11)).off + 9, none⟩ = some (.slice Av s.rows.length cv) from hx 9 (by omega) (by omega))
          have hx10 := pw_cell_below (w1 := wr) B.out (show w.cell? ⟨(ad.add (k * 11)).block, (ad.add (k * 11)).off + 10, none⟩ = some (.int .i64 s.n) from hx 10 (by omega) (by omega))
          have c2 : decide (k < script2.length) = true := by simpa using hk
          have p1 := eq_true (show 0 ≤ (k : Int) by omega)
          have p2 := eq_true (show k < script2.length by omega)
          have ba := below_alloc (Below.refl wr.heap.size wr) (.cells #[Value.int .i64 s.call, .int .i64 s.table, .int .i64 s.to2, .string s.row.key, .string s.row.value, .int .i64 s.row.version, .string s.key, .string s.from_, .string s.upto, .slice Av s.rows.length cv, .int .i64 s.n] tOp)
          have P4 := Lib.hid (blk_new wr (.cells #[Value.int .i64 s.call, .int .i64 s.table, .int .i64 s.to2, .string s.row.key, .string s.row.value, .int .i64 s.row.version, .string s.key, .string s.from_, .string s.upto, .slice Av s.rows.length cv, .int .i64 s.n] tOp))
          have T4 := Lib.hid (T.out.below ba)
          have B4 := Lib.hid (below_then B.out B.out.size ba)
          have S := Lib.hid (S.out.below ba)
          have R := Lib.hid (Kd.R_below R.out ba)
          have Q := Lib.hid (blk_below Q.out ba)
          have HRS := Lib.hid hrs
          clear hu hx T B hvv hrs ba
          go_upto_region 16 with (fail)
          generalize wr.heap.size = q0 at *
          generalize (World.alloc wr _) = WA at *
          clear hx0 hx1 hx2 hx3 hx4 hx5 hx6 hx7 hx8 hx9 hx10 p1 p2
          have cp := blkc P4.out
          go_wp2_with fail
          clear cp
          refine (act_any (w0 := w) T4.out OK.out hg B4.out s (Av := Av) (cv := cv) (Nat.le_trans HRS.out (by omega)) (fun W _ hb => Kd.C_below HVV.out hb)).mono ?_
          rintro e w5 ⟨⟨v5, rfl⟩, hT, hKp, hB⟩
          have T5 := Lib.hid hT
          have B5 := Lib.hid hB
          have O5 := Lib.hid (OK.out.actL s)
          have S := Lib.hid (S.out.kept T4.out hqg hKp)
          have R := Lib.hid (Kd.R_kept R.out hKp (fun k hk => hk.2))
          have Q := Lib.hid (blk_kept Q.out hKp hb15g)
          clear hT hKp hB T4 B4 P4
          go_wp2_with fail
          go_roundg k1
          case measure => exact Nat.lt_succ_self _
          case rel => exact ⟨k + 1, _, by go_num, Lib.hid (by have := HK.out; omega), T5, O5, B5, S, R, Q⟩
    | succ k1 =>
      have hk : k < script.length := by have := HK.out; omega
      have hu := List.getElem?_eq_getElem hk
      have hrs := HR.out script[k] (List.getElem_mem hk)
      generalize script[k] = s at *
      obtain ⟨ad, v, hA, hv, hx0, hx⟩ := at_TOp HG.out hu
      cases hA
      obtain ⟨Av, cv, ev, hvv⟩ := hv
      cases ev
      have HVV := Lib.hid hvv.2
      have hx0 := pw_cell_below (w1 := wr) B.out hx0
      have hx1 := pw_cell_below (w1 := wr) B.out (show w.cell? ⟨(ad.add (k * 11)).block, (ad.add (k * 11)).off + 1, none⟩ = some (.int .i64 s.table) from hx 1 (by omega) (by omega))
      have hx2 := pw_cell_below (w1 := wr) B.out (show w.cell? ⟨(ad.add (k * 11)).block, (ad.add (k * 11)).off + 2, none⟩ = some (.int .i64 s.to2) from hx 2 (by omega) (by omega))
      have hx3 := pw_cell_below (w1 := wr) B.out (show w.cell? ⟨(ad.add (k * 11)).block, (ad.add (k * 11)).off + 3, none⟩ = some (.string s.row.key) from hx 3 (by omega) (by omega))
      have hx4 := pw_cell_below (w1 := wr) B.out (show w.cell? ⟨(ad.add (k * 11)).block, (ad.add (k * 11)).off + 4, none⟩ = some (.string s.row.value) from hx 4 (by omega) (by omega))
      have hx5 := pw_cell_below (w1 := wr) B.out (show w.cell? ⟨(ad.add (k * 11)).block, (ad.add (k * 11)).off + 5, none⟩ = some (.int .i64 s.row.version) from hx 5 (by omega) (by omega))
      have hx6 := pw_cell_below (w1 := wr) B.out (show w.cell? ⟨(ad.add (k * 11)).block, (ad.add (k * 11)).off + 6, none⟩ = some (.string s.key) from hx 6 (by omega) (by omega))
      have hx7 := pw_cell_below (w1 := wr) B.out (show w.cell? ⟨(ad.add (k * 11)).block, (ad.add (k * 11)).off + 7, none⟩ = some (.string s.from_) from hx 7 (by omega) (by omega))
      have hx8 := pw_cell_below (w1 := wr) B.out (show w.cell? ⟨(ad.add (k * 11)).block, (ad.add (k * 11)).off + 8, none⟩ = some (.string s.upto) from hx 8 (by omega) (by omega))
      have hx9 := pw_cell_below (w1 := wr) B.out (show w.cell? ⟨(ad.add (k * 11)).block, (ad.add (k * 11)).off + 9, none⟩ = some (.slice Av s.rows.length cv) from hx 9 (by omega) (by omega))
      have hx10 := pw_cell_below (w1 := wr) B.out (show w.cell? ⟨(ad.add (k * 11)).block, (ad.add (k * 11)).off + 10, none⟩ = some (.int .i64 s.n) from hx 10 (by omega) (by omega))
      have c2 : decide (k < script.length) = true := by simpa using hk
      have p1 := eq_true (show 0 ≤ (k : Int) by omega)
      have p2 := eq_true (show k < script.length by omega)
      have ba := below_alloc (Below.refl wr.heap.size wr) (.cells #[Value.int .i64 s.call, .int .i64 s.table, .int .i64 s.to2, .string s.row.key, .string s.row.value, .int .i64 s.row.version, .string s.key, .string s.from_, .string s.upto, .slice Av s.rows.length cv, .int .i64 s.n] tOp)
      have P4 := Lib.hid (blk_new wr (.cells #[Value.int .i64 s.call, .int .i64 s.table, .int .i64 s.to2, .string s.row.key, .string s.row.value, .int .i64 s.row.version, .string s.key, .string s.from_, .string s.upto, .slice Av s.rows.length cv, .int .i64 s.n] tOp))
      have T4 := Lib.hid (T.out.below ba)
      have B4 := Lib.hid (below_then B.out B.out.size ba)
      have HRS := Lib.hid hrs
      clear hu hx T B hvv hrs ba
      go_upto_region 7 with (fail)
      generalize wr.heap.size = q0 at *
      generalize (World.alloc wr _) = WA at *
      clear hx0 hx1 hx2 hx3 hx4 hx5 hx6 hx7 hx8 hx9 hx10 p1 p2
      have cp := blkc P4.out
      go_wp2_with fail
      clear cp
      refine (act_any (w0 := w) T4.out OK.out hg B4.out s (Av := Av) (cv := cv) (Nat.le_trans HRS.out (by omega)) (fun W _ hb => Kd.C_below HVV.out hb)).mono ?_
      rintro e w5 ⟨⟨v5, rfl⟩, hT, hKp, hB⟩
      have T5 := Lib.hid hT
      have B5 := Lib.hid hB
      have O5 := Lib.hid (OK.out.actL s)
      clear hT hKp hB T4 B4 P4
      go_wp2_with fail
      go_roundg k1
      case measure => exact Nat.lt_succ_self _
      case rel => exact ⟨k + 1, _, by go_num, Lib.hid (by have := HK.out; omega), T5, O5, B5⟩
end Go.Proofs.Ytjpalkggmefpfaa.Tab
namespace Go.Proofs.Ytjpalkggmefpfaa.Walk
open Go.RowKit Go.Proofs.Ytjpalkggmefpfaa.Opn Go.Proofs.Ytjpalkggmefpfaa.Tab Go.Proofs.YtjpalkggmefpfaaW.PrintWords
theorem TableSnaps (l : List TStep) (A : Option Addr) (n : Nat) (l2 : List TStep) (A2 : Option Addr) (n2 : Nat) (key : ByteArray) (W : World) (hl : l.length ≤ n) (hC : kTOp.C W A l.length l) (hm : l.length ≤ 9223372036854775807) (hq : ∀ a ∈ l, pTOp a) (hr : l.length * Try.prog.bytesOf 47 ≤ 140737488351232) (hl2 : l2.length ≤ n2) (hC2 : kTOp.C W A2 l2.length l2) (hm2 : l2.length ≤ 9223372036854775807) (hq2 : ∀ a ∈ l2, pTOp a) (hr2 : l2.length * Try.prog.bytesOf 47 ≤ 140737488351232) (hk : key.size ≤ 9223372036854775807) (hi : ∀ s, s ∈ l → s.rows.length ≤ 3518437208780) (hi2 : ∀ s, s ∈ l2 → s.rows.length ≤ 3518437208780) :
    Calls Try.prog 9 #[.slice A l.length n, .slice A2 l2.length n2, .string key] W fun e W' => e = .returned (.bool true) ∧ Below W.heap.size W W' := by
  have hb : Try.prog.bytesOf 47 = 144 := by kernel_rfl
  rw [hb] at hr hr2
  exact Tab.snaps_any l A n l2 A2 n2 key W hl (by omega) hC hi hl2 (by omega) hC2 hi2
end Go.Proofs.Ytjpalkggmefpfaa.Walk
