/- TableOrder, walked. -/
import Derived.Test.YtjpalkggmefpfaaTabAct
import Derived.Test.YtjpalkggmefpfaaTableFroms
set_option linter.unusedVariables false
set_option linter.unusedSimpArgs false
namespace Go.Proofs.Ytjpalkggmefpfaa.Tab
open Go.RowKit Go.Proofs.Ytjpalkggmefpfaa.Mem Go.Proofs.YtjpalkggmefpfaaW.PrintWords Go.Proofs.YtjpalkggmefpfaaW.PrintLast Go.Deep Go.Proofs.Ytjpalkggmefpfaa.Opn
attribute [local go_sem ↓] execOp_call_tmp
attribute [local go_sem] callVal_func
abbrev rM : Row := ⟨⟨#[109]⟩, ⟨#[118, 118]⟩, 3⟩
theorem putL_m : putL [] rM = (0, [rM]) := by
  unfold putL
  rw [if_pos (by decide), if_pos (.inr (by simp))]
  rfl
theorem size_m : size [rM] = 3 := by decide
theorem split_at {l : List Row} {i : Nat} {r : Row} (h : l[i]? = some r) : l = l.take i ++ r :: l.drop (i + 1) := by
  have hl := (List.getElem?_eq_some_iff.1 h).1
  have h2 := List.drop_eq_getElem_cons hl
  rw [(List.getElem?_eq_some_iff.1 h).2] at h2
  rw [← h2, List.take_append_drop]
theorem below_at {l : List Row} (hu : Up l) {i : Nat} {r : Row} (h : l[i]? = some r) : (below r.key l).length = i := by
  have hl := (List.getElem?_eq_some_iff.1 h).1
  have hs := split_at h
  rw [hs] at hu
  obtain ⟨_, _, h1, h2⟩ := up_node hu
  rw [hs, below_app, lt_irrefl, below_all h1, below_none (fun x hx => lt_asymm (h2 x hx))]
  simp
  omega
theorem find_at {l : List Row} (hu : Up l) {i : Nat} {r : Row} (h : l[i]? = some r) : find l r.key = some r := by
  have hs := split_at h
  rw [hs] at hu ⊢
  obtain ⟨_, _, h1, h2⟩ := up_node hu
  unfold find
  rw [List.find?_append, show List.find? (fun x => eq x.key r.key) (l.take i) = none from find_none (fun x hx => lt_ne (h1 x hx)), List.find?_cons, eq_iff.2 rfl]
  rfl
theorem up_prev {l : List Row} (hu : Up l) {i : Nat} {q r : Row} (hq : l[i]? = some q) (h : l[i + 1]? = some r) : lt q.key r.key = true := by
  obtain ⟨h1, e1⟩ := List.getElem?_eq_some_iff.1 hq
  obtain ⟨h2, e2⟩ := List.getElem?_eq_some_iff.1 h
  have := List.pairwise_iff_getElem.1 hu i (i + 1) h1 h2 (by omega)
  rwa [e1, e2] at this
theorem below_take (k : ByteArray) : ∀ {l : List Row}, Up l → below k l = l.take (below k l).length
  | [], _ => rfl
  | x :: l, h => by
    obtain ⟨h1, h2⟩ := List.pairwise_cons.1 h
    cases hx : lt x.key k with
    | true =>
      have e : below k (x :: l) = x :: below k l := by unfold below; rw [List.filter_cons, hx]; rfl
      rw [e, List.length_cons, List.take_succ_cons, ← below_take k h2]
    | false =>
      have e : below k (x :: l) = [] := below_none (fun y hy => by
        rcases List.mem_cons.1 hy with rfl | hy
        · exact hx
        · cases hyk : lt y.key k with
          | false => rfl
          | true => exact absurd (lt_trans (h1 y hy) hyk) (by rw [hx]; decide))
      rw [e]; rfl
theorem told_down_all (l : List Row) : firstN (segD true l (below ⟨#[]⟩ l).length (upTo l ⟨#[]⟩)) (-1) = l.reverse := by
  have h1 : below ⟨#[]⟩ l = [] := below_none (fun x _ => lt_none _)
  rw [h1, show upTo l ⟨#[]⟩ = l.length from rfl]
  show firstN (seg l 0 l.length).reverse (-1) = l.reverse
  rw [seg_all]
  exact firstN_all (by omega)
theorem told_low {l : List Row} (hu : Up l) {k : ByteArray} (hk : k.size ≠ 0) : firstN (segD false l (below ⟨#[]⟩ l).length (upTo l k)) (-1) = l.take (below k l).length := by
  have h1 : below ⟨#[]⟩ l = [] := below_none (fun x _ => lt_none _)
  rw [h1, show upTo l k = ((below k l).length : Int) by unfold upTo; rw [if_neg hk], firstN_all (by omega)]
  show seg l 0 _ = _
  unfold seg
  simp
theorem told_high {l : List Row} (hu : Up l) (k : ByteArray) : firstN (segD false l (below k l).length (upTo l ⟨#[]⟩)) (-1) = l.drop (below k l).length := by
  rw [show upTo l ⟨#[]⟩ = l.length from rfl, firstN_all (by omega)]
  show seg l _ _ = _
  unfold seg
  simp
theorem size_ne {k : ByteArray} (h : k.toList.isEmpty = false) : k.size ≠ 0 := fun e => by
  rw [ByteArray.toList_eq] at h
  have h2 : k.data.toList = [] := List.eq_nil_of_length_eq_zero (by simpa using e)
  rw [h2] at h
  cases h
theorem wrap_kv {l : List Row} (h : LOk l) {i : Nat} {r : Row} (hu : l[i]? = some r) : wrap64 ((r.key.size : Int) + (r.value.size : Int)) = (r.key.size : Int) + (r.value.size : Int) := by
  obtain ⟨h1, h2, h3, _⟩ := (h.rows r (List.mem_of_getElem? hu)).facts
  generalize (r.key.size : Int) = a at *
  have h4 : 0 ≤ (r.value.size : Int) := Int.natCast_nonneg _
  generalize (r.value.size : Int) = b at *
  rw [← i64_w]
  exact IntWalk.i64_in _ (by omega)
theorem wrap_sum {l : List Row} (h : LOk l) {i : Nat} {r : Row} (hu : l[i]? = some r) : wrap64 (size (l.take i) + ((r.key.size : Int) + (r.value.size : Int))) = size (l.take (i + 1)) := by
  obtain ⟨h1, h2, h3, _⟩ := (h.rows r (List.mem_of_getElem? hu)).facts
  have hz := size_bound (l := l.take i) (fun x hx => h.rows x (List.mem_of_mem_take hx))
  have hlt : ((l.take i).length : Int) ≤ 1048576 := by have := h.len; rw [List.length_take]; omega
  rw [size_take hu, show r.bytes = (r.key.size : Int) + (r.value.size : Int) from rfl]
  generalize (r.key.size : Int) = a at *
  have h4 : 0 ≤ (r.value.size : Int) := Int.natCast_nonneg _
  generalize (r.value.size : Int) = b at *
  generalize size (l.take i) = z at *
  generalize ((l.take i).length : Int) = m at *
  rw [← i64_w]
  exact IntWalk.i64_in _ (by omega)
set_option maxHeartbeats 12800000 in
set_option maxRecDepth 100000 in
theorem order_any (script : List TStep) (Ag : Option Addr) (cg : Nat) (cut : ByteArray) (w : World) (hcg : script.length ≤ cg) (hlen : script.length ≤ 1649267441664) (hG : kTOp.C w Ag script.length script) (hrows : ∀ s, s ∈ script → s.rows.length ≤ 3518437208780) :
    Calls Try.prog 8 #[.slice Ag script.length cg, .string cut] w fun e w' => e = .returned (.bool true) ∧ Below w.heap.size w w' := by
  have HG := Lib.hid hG
  have HR := Lib.hid hrows
  clear hG hrows
  go_enter Try.func8, Try.ntmps8
  go_wp2_with fail
  refine (new_some w).mono ?_
  rintro e w1 ⟨g, rfl, hg, hT1, hb1⟩
  have T1 := Lib.hid hT1
  have B1 := Lib.hid hb1
  clear hT1 hb1
  go_wp2_with fail
  refine (tput_any (w0 := w) rM T1.out LOk.nil hg B1.out).mono ?_
  rintro e w2 ⟨rfl, hT2, hk2, hb2⟩
  rw [putL_m] at hT2 ⊢
  have T2 := Lib.hid hT2
  have B2 := Lib.hid hb2
  have O2 : Hid (LOk [rM]) := Lib.hid (by have := LOk.nil.putL rM; rw [putL_m] at this; exact this)
  clear hT2 hk2 hb2 T1 B1
  go_wp2_with fail
  refine (len_any T2.out).mono ?_
  rintro e w3 ⟨rfl, rfl⟩
  go_wp2_with fail
  refine (tsize_any T2.out).mono ?_
  rintro e w3 ⟨rfl, rfl⟩
  rw [size_m]
  go_wp2_with fail
  go_loopg [35] script.length (fun kq v35 w' => ∃ (k : Nat) (l : List Row), v35 = .int .i64 (k : Int) ∧ Hid (k + kq = script.length) ∧ Hid (TabR w' g l) ∧ Hid (LOk l) ∧ Hid (Below w.heap.size w w'))
  case atStart => exact ⟨0, [rM], rfl, (show _ + _ = _ by omega), T2, O2, B2⟩
  case round =>
    clear T2 O2 B2
    obtain ⟨k, l, rfl, HK, T, OK, B⟩ := hrel
    cases gk with
    | zero =>
      have hk : k = script.length := HK.out
      have c2 : decide (k < script.length) = false := by simp; omega
      clear hk HK
      go_wp2_with fail
      clear c2
      refine (whole_any wr).mono ?_
      rintro e w5 ⟨rfl, hb5⟩
      have B5 := Lib.hid (below_then B.out B.out.size hb5)
      have T5 := Lib.hid (T.out.below hb5)
      clear hb5 B T
      go_wp2_with fail
      refine (told_up T5.out OK.out ⟨#[]⟩ ⟨#[]⟩ (-1)).mono ?_
      rintro e w6 ⟨v6, rfl, hr6, hb6⟩
      rw [told_all] at hr6
      obtain ⟨A6, c6, rfl, _, hC6⟩ := C_of_own hr6
      have B6 := Lib.hid (below_then B5.out B5.out.size hb6)
      have T6 := Lib.hid (T5.out.below hb6)
      have C6 := Lib.hid hC6
      have hln := OK.out.len
      clear hb6 B5 T5 hr6 hC6
      go_wp2_with fail
      go_loopg [9, 48] l.length (fun kq v9 v48 w' => ∃ (i : Nat), v9 = .int .i64 (size (l.take i)) ∧ v48 = .int .i64 (i : Int) ∧ Hid (i + kq = l.length) ∧ Hid (Below w6.heap.size w6 w'))
      case atStart => exact ⟨0, rfl, rfl, (show _ + _ = _ by omega), Lib.hid (Below.refl _ _)⟩
      case round =>
        obtain ⟨i, rfl, rfl, HI, HB⟩ := hrel
        cases gk with
        | zero =>
          have hi : i = l.length := HI.out
          have c3 : decide (i < l.length) = false := by simp; omega
          have T7 := Lib.hid (T6.out.below HB.out)
          have B7 := Lib.hid (below_then B6.out B6.out.size HB.out)
          have C7 := Lib.hid (Kd.C_below C6.out HB.out)
          have hsz : size (l.take i) = size l := by rw [hi, List.take_length]
          rw [hsz]
          clear hi hsz HI HB
          go_wp2_with fail
          refine (len_any T7.out).mono ?_
          rintro e w8 ⟨rfl, rfl⟩
          go_wp2_with fail
          refine (tsize_any T7.out).mono ?_
          rintro e w8 ⟨rfl, rfl⟩
          go_wp2_with fail
          refine (whole_any wr).mono ?_
          rintro e w8 ⟨rfl, hb8⟩
          have B8 := Lib.hid (below_then B7.out B7.out.size hb8)
          have T8 := Lib.hid (T7.out.below hb8)
          have C8 := Lib.hid (Kd.C_below C7.out hb8)
          clear hb8 B7 T7 C7 c3
          go_wp2_with fail
          refine (told_down T8.out OK.out ⟨#[]⟩ ⟨#[]⟩ (-1)).mono ?_
          rintro e w9 ⟨v9, rfl, hr9, hb9⟩
          rw [told_down_all] at hr9
          obtain ⟨A9, c9, rfl, _, hC9⟩ := C_of_own hr9
          have B9 := Lib.hid (below_then B8.out B8.out.size hb9)
          have T9 := Lib.hid (T8.out.below hb9)
          have C9 := Lib.hid (Kd.C_below C8.out hb9)
          have D9 := Lib.hid hC9
          clear hb9 B8 T8 C8 hr9 hC9
          go_wp2_with fail
          have ht := turned_any (w := w9) (A := A9) (c := c9) (l := l.reverse) D9.out (by rw [List.length_reverse]; omega)
          simp only [List.length_reverse, List.reverse_reverse] at ht
          try simp only [List.length_reverse]
          refine ht.mono ?_
          clear ht
          rintro e w10 ⟨A10, c10, rfl, hC10, _, hb10⟩
          have B10 := Lib.hid (below_then B9.out B9.out.size hb10)
          have T10 := Lib.hid (T9.out.below hb10)
          have C10 := Lib.hid (Kd.C_below C9.out hb10)
          have D10 := Lib.hid hC10
          clear hb10 B9 T9 C9 D9 hC10
          go_wp2_with fail
          refine (same_any w10 A10 A6 c10 c6 l D10.out C10.out).mono ?_
          rintro e w11 ⟨rfl, hb11⟩
          have B11 := Lib.hid (below_then B10.out B10.out.size hb11)
          have T11 := Lib.hid (T10.out.below hb11)
          have C11 := Lib.hid (Kd.C_below C10.out hb11)
          clear hb11 B10 T10 C10 D10
          cases hcut : cut.toList.isEmpty with
          | true =>
            go_wp2
            go_ret
            exact ⟨rfl, B11.out⟩
          | false =>
            have hcs := size_ne hcut
            have hn : (below cut l).length ≤ l.length := List.length_filter_le ..
            obtain ⟨L, hL⟩ : ∃ L, l.take (below cut l).length = L := ⟨_, rfl⟩
            obtain ⟨H, hH⟩ : ∃ H, l.drop (below cut l).length = H := ⟨_, rfl⟩
            have htl : L.length = (below cut l).length := by rw [← hL, List.length_take]; omega
            have hdl : H.length + (below cut l).length = l.length := by rw [← hH, List.length_drop]; omega
            have HTL := Lib.hid (show L ++ H = l by rw [← hL, ← hH, List.take_append_drop])
            have HHL := Lib.hid (And.intro htl hdl)
            have HLH : Hid ((L.length + H.length) * 40 ≤ 140737488355328) := Lib.hid (by omega)
            have HL := Lib.hid hL
            have HH := Lib.hid hH
            clear htl hdl hL hH hn
            go_wp2_with fail
            refine (told_up T11.out OK.out ⟨#[]⟩ cut (-1)).mono ?_
            rintro e w12 ⟨v12, rfl, hr12, hb12⟩
            rw [told_low OK.out.up hcs, HL.out] at hr12
            have hR12 := R_of_own hr12
            obtain ⟨A12, c12, rfl⟩ := Kd.R_slice hR12
            have R12 := Lib.hid hR12
            have B12 := Lib.hid hb12
            have T12 := Lib.hid (T11.out.below hb12)
            clear hb12 hr12 hR12
            go_wp2_with fail
            refine (told_up T12.out OK.out cut ⟨#[]⟩ (-1)).mono ?_
            rintro e w13 ⟨v13, rfl, hr13, hb13⟩
            rw [told_high OK.out.up, HH.out] at hr13
            obtain ⟨A13, c13, rfl, _, hC13⟩ := C_of_own hr13
            have R13 := Lib.hid (Kd.R_below R12.out hb13)
            have B13 := Lib.hid (below_then B12.out B12.out.size hb13)
            have D13 := Lib.hid hC13
            clear hb13 hr13 hC13 R12 B12 T12
            go_wp2_with (at_builtin; refine Kd.R_append_rows kR (Rr := kR.K w13) (w0 := w11) w11.heap.size rfl (.tmp 145) (.tmp 146) 29 tRow (.agg #[.string ⟨#[]⟩, .string ⟨#[]⟩, .int .i64 0]) 40 rfl Try.underlying29 info_R rfl (by decide) (by decide) (.slice A12 L.length c12) L H A13 H.length c13 (fun _ => True) (fun _ => False) rfl rfl R13.out D13.out (fun _ _ h => h) (fun _ h => h.elim) (fun _ _ => trivial) B13.out B13.out.size HLH.out ?_; intro v14 w14 hr14 hb14 hg14 hat14; rw [HTL.out] at hr14; obtain ⟨A14, c14, rfl⟩ := Kd.R_slice hr14; (have D14 := Lib.hid (Kd.R_reads' hr14).2.2); (have BB14 := Lib.hid hb14); clear hr14 hb14 hg14 hat14)
            have T14 := Lib.hid (T11.out.below BB14.out)
            have B14 := Lib.hid (below_then B11.out B11.out.size BB14.out)
            have C14 := Lib.hid (Kd.C_below C11.out BB14.out)
            clear R13 B13 D13 BB14 T11 B11 C11
            refine (same_any w14 A14 A6 c14 c6 l D14.out C14.out).mono ?_
            rintro e w15 ⟨rfl, hb15⟩
            have B15 := Lib.hid (below_then B14.out B14.out.size hb15)
            have T15 := Lib.hid (T14.out.below hb15)
            clear hb15 B14 T14 C14 D14
            go_wp2_with fail
            refine (trank_any T15.out OK.out cut).mono ?_
            rintro e w16 ⟨rfl, rfl⟩
            have f9 : wrap64 ((l.length : Int) - (H.length : Int)) = ((below cut l).length : Int) := by
              have := HHL.out
              rw [← i64_w, IntWalk.i64_in _ (by omega)]
              omega
            go_wp2
            go_ret
            exact ⟨by simp, B15.out⟩
        | succ k1 =>
          have hi : i < l.length := by have := HI.out; omega
          have hu := List.getElem?_eq_getElem hi
          generalize l[i] = r at *
          have C7 := Lib.hid (Kd.C_below C6.out HB.out)
          have T7 := Lib.hid (T6.out.below HB.out)
          obtain ⟨ad, hA, x0, x1, x2⟩ := at_R C7.out hu
          have HU := Lib.hid hu
          cases hA
          have c3 : decide (i < l.length) = true := by simpa using hi
          have p1 := eq_true (show 0 ≤ (i : Int) by omega)
          have p2 := eq_true (show i < l.length by omega)
          have HA := Lib.hid (below_alloc (Below.refl wr.heap.size wr) (.cells #[Value.string r.key, .string r.value, .int .i64 r.version] tRow))
          have Q1 := Lib.hid (blk_new wr (.cells #[Value.string r.key, .string r.value, .int .i64 r.version] tRow))
          have C8 := Lib.hid (Kd.C_below C7.out HA.out)
          have T8 := Lib.hid (T7.out.below HA.out)
          have HB8 := Lib.hid (below_alloc HB.out (.cells #[Value.string r.key, .string r.value, .int .i64 r.version] tRow))
          clear hu HB C7 T7 HA
          go_upto_region 14 with (fail)
          generalize wr.heap.size = q1 at *
          generalize (World.alloc wr _) = W8 at *
          clear x0 x1 x2
          have cp := blkc Q1.out
          go_wp2_with fail
          refine (tat_any T8.out OK.out HU.out).mono ?_
          rintro e w9 ⟨rfl, hb9⟩
          have bb := below_then hb9 hb9.size (below_alloc (Below.refl w9.heap.size w9) (.cells #[Value.string r.key, .string r.value, .int .i64 r.version] tRow))
          have Q1 := Lib.hid (blk_below Q1.out bb)
          have Q2 := Lib.hid (blk_new w9 (.cells #[Value.string r.key, .string r.value, .int .i64 r.version] tRow))
          have C9 := Lib.hid (Kd.C_below C8.out bb)
          have T9 := Lib.hid (T8.out.below bb)
          have HB9 := Lib.hid (below_then HB8.out HB8.out.size bb)
          clear hb9 bb C8 T8 HB8 cp
          go_upto_region 15 with (fail)
          generalize w9.heap.size = q2 at *
          generalize (World.alloc w9 _) = W9 at *
          have cp := blkc Q1.out
          go_wp2_with fail
          refine (tget_any T9.out OK.out.up r.key).mono ?_
          rintro e w10 ⟨rfl, hb10⟩
          rw [find_at OK.out.up HU.out]
          simp only [Option.getD_some, Option.isSome_some]
          have bb := below_then hb10 hb10.size (below_alloc (Below.refl w10.heap.size w10) (.cells #[Value.string r.key, .string r.value, .int .i64 r.version] tRow))
          have Q1 := Lib.hid (blk_below Q1.out bb)
          have Q2 := Lib.hid (blk_below Q2.out bb)
          have Q3 := Lib.hid (blk_new w10 (.cells #[Value.string r.key, .string r.value, .int .i64 r.version] tRow))
          have C10 := Lib.hid (Kd.C_below C9.out bb)
          have T10 := Lib.hid (T9.out.below bb)
          have HB10 := Lib.hid (below_then HB9.out HB9.out.size bb)
          clear hb10 bb C9 T9 HB9 cp
          go_upto_region 16 with (fail)
          generalize w10.heap.size = q3 at *
          generalize (World.alloc w10 _) = W10 at *
          have Q1 := Lib.hid (blk_drew Q1.out)
          have Q2 := Lib.hid (blk_drew Q2.out)
          have Q3 := Lib.hid (blk_drew Q3.out)
          have CD := Lib.hid (Kd.C_drew C10.out)
          have TD := Lib.hid (T10.out.below (below_drew (Below.refl _ _)))
          have BD := Lib.hid HB10.out.drew
          have HRK := Lib.hid (below_at OK.out.up HU.out)
          have e1 := wrap_kv OK.out HU.out
          clear C10 T10 HB10
          cases i with
          | zero =>
            have e2 : wrap64 (size [] + ((r.key.size : Int) + (r.value.size : Int))) = size (l.take (0 + 1)) := wrap_sum OK.out HU.out
            have HE2 := Lib.hid e2
            clear e2 c3 p1 p2
            go_wp2_with fail
            refine start_ (n := 39) (S := fun w' => (∀ o, w'.cell? ⟨q1, o, none⟩ = #[Value.string r.key, .string r.value, .int .i64 r.version][o]?) ∧ (∀ o, w'.cell? ⟨q2, o, none⟩ = #[Value.string r.key, .string r.value, .int .i64 r.version][o]?) ∧ (∀ o, w'.cell? ⟨q3, o, none⟩ = #[Value.string r.key, .string r.value, .int .i64 r.version][o]?)) (ds := []) #[false, false, false, false, false, false, false, false, false, false, false, false, false, false, false, false, false, false, false, false, false, false, false, false, false, false, false, false, false, false, false, false, false, false, false, false, false, false, false] (by kernel_rfl) rfl rfl ⟨(blkc Q1.out), (blkc Q2.out), (blkc Q3.out)⟩ (fun hHeld => ?_)
            refine pure_ (i := 0) (N := some 66) (v := ?_) (a' := ?_) #[true, false, false, false, false, false, false, false, false, false, false, false, false, false, false, false, false, false, false, false, false, false, false, false, false, false, false, false, false, false, false, false, false, false, false, false, false, false, false] rfl rfl (by kernel_rfl) (fun _ _ _ h => h) (Or.inl ⟨by rfl, ?_⟩) ?_ ?_
            rotate_left
            · intro w'
              go_simp
              with_reducible rfl
            rotate_left
            · simp only [Act.put, List.setIfInBounds_toArray, List.set_cons_zero, List.set_cons_succ, i64_w, i32_w]
              rfl
            refine pure_ (i := 1) (N := some 67) (v := ?_) (a' := ?_) #[true, true, false, false, false, false, false, false, false, false, false, false, false, false, false, false, false, false, false, false, false, false, false, false, false, false, false, false, false, false, false, false, false, false, false, false, false, false, false] rfl rfl (by kernel_rfl) (fun _ _ _ h => h) (Or.inl ⟨by rfl, ?_⟩) ?_ ?_
            rotate_left
            · intro w'
              go_simp
              with_reducible rfl
            rotate_left
            · simp only [Act.put, List.setIfInBounds_toArray, List.set_cons_zero, List.set_cons_succ, i64_w, i32_w]
              rfl
            refine pure_ (i := 2) (N := some 68) (v := ?_) (a' := ?_) #[true, true, true, false, false, false, false, false, false, false, false, false, false, false, false, false, false, false, false, false, false, false, false, false, false, false, false, false, false, false, false, false, false, false, false, false, false, false, false] rfl rfl (by kernel_rfl) (fun _ _ _ h => h) (Or.inl ⟨by rfl, ?_⟩) ?_ ?_
            rotate_left
            · intro w'
              go_simp
              with_reducible rfl
            rotate_left
            · simp only [Act.put, List.setIfInBounds_toArray, List.set_cons_zero, List.set_cons_succ, i64_w, i32_w]
              rfl
            refine pure_ (i := 3) (N := some 69) (v := undef) (a' := ?_) #[true, true, true, true, false, false, false, false, false, false, false, false, false, false, false, false, false, false, false, false, false, false, false, false, false, false, false, false, false, false, false, false, false, false, false, false, false, false, false] rfl rfl (by kernel_rfl) (fun _ _ _ h => h) (Or.inr ⟨by rfl, rfl⟩) ?_ ?_
            rotate_left
            · simp only [Act.put, List.setIfInBounds_toArray, List.set_cons_zero, List.set_cons_succ, i64_w, i32_w]
              rfl
            refine pure_ (i := 4) (N := some 70) (v := undef) (a' := ?_) #[true, true, true, true, true, false, false, false, false, false, false, false, false, false, false, false, false, false, false, false, false, false, false, false, false, false, false, false, false, false, false, false, false, false, false, false, false, false, false] rfl rfl (by kernel_rfl) (fun _ _ _ h => h) (Or.inr ⟨by rfl, rfl⟩) ?_ ?_
            rotate_left
            · simp only [Act.put, List.setIfInBounds_toArray, List.set_cons_zero, List.set_cons_succ, i64_w, i32_w]
              rfl
            refine pure_ (i := 5) (N := some 71) (v := undef) (a' := ?_) #[true, true, true, true, true, true, false, false, false, false, false, false, false, false, false, false, false, false, false, false, false, false, false, false, false, false, false, false, false, false, false, false, false, false, false, false, false, false, false] rfl rfl (by kernel_rfl) (fun _ _ _ h => h) (Or.inr ⟨by rfl, rfl⟩) ?_ ?_
            rotate_left
            · simp only [Act.put, List.setIfInBounds_toArray, List.set_cons_zero, List.set_cons_succ, i64_w, i32_w]
              rfl
            refine pure_ (i := 6) (N := some 72) (v := undef) (a' := ?_) #[true, true, true, true, true, true, true, false, false, false, false, false, false, false, false, false, false, false, false, false, false, false, false, false, false, false, false, false, false, false, false, false, false, false, false, false, false, false, false] rfl rfl (by kernel_rfl) (fun _ _ _ h => h) (Or.inr ⟨by rfl, rfl⟩) ?_ ?_
            rotate_left
            · simp only [Act.put, List.setIfInBounds_toArray, List.set_cons_zero, List.set_cons_succ, i64_w, i32_w]
              rfl
            refine pure_ (i := 7) (N := some 73) (v := undef) (a' := ?_) #[true, true, true, true, true, true, true, true, false, false, false, false, false, false, false, false, false, false, false, false, false, false, false, false, false, false, false, false, false, false, false, false, false, false, false, false, false, false, false] rfl rfl (by kernel_rfl) (fun _ _ _ h => h) (Or.inr ⟨by rfl, rfl⟩) ?_ ?_
            rotate_left
            · simp only [Act.put, List.setIfInBounds_toArray, List.set_cons_zero, List.set_cons_succ, i64_w, i32_w]
              rfl
            refine pure_ (i := 8) (N := some 74) (v := undef) (a' := ?_) #[true, true, true, true, true, true, true, true, true, false, false, false, false, false, false, false, false, false, false, false, false, false, false, false, false, false, false, false, false, false, false, false, false, false, false, false, false, false, false] rfl rfl (by kernel_rfl) (fun _ _ _ h => h) (Or.inr ⟨by rfl, rfl⟩) ?_ ?_
            rotate_left
            · simp only [Act.put, List.setIfInBounds_toArray, List.set_cons_zero, List.set_cons_succ, i64_w, i32_w]
              rfl
            refine pure_ (i := 9) (N := some 75) (v := undef) (a' := ?_) #[true, true, true, true, true, true, true, true, true, true, false, false, false, false, false, false, false, false, false, false, false, false, false, false, false, false, false, false, false, false, false, false, false, false, false, false, false, false, false] rfl rfl (by kernel_rfl) (fun _ _ _ h => h) (Or.inr ⟨by rfl, rfl⟩) ?_ ?_
            rotate_left
            · simp only [Act.put, List.setIfInBounds_toArray, List.set_cons_zero, List.set_cons_succ, i64_w, i32_w]
              rfl
            refine pure_ (i := 10) (N := some 76) (v := undef) (a' := ?_) #[true, true, true, true, true, true, true, true, true, true, true, false, false, false, false, false, false, false, false, false, false, false, false, false, false, false, false, false, false, false, false, false, false, false, false, false, false, false, false] rfl rfl (by kernel_rfl) (fun _ _ _ h => h) (Or.inr ⟨by rfl, rfl⟩) ?_ ?_
            rotate_left
            · simp only [Act.put, List.setIfInBounds_toArray, List.set_cons_zero, List.set_cons_succ, i64_w, i32_w]
              rfl
            refine pure_ (i := 11) (N := some 77) (v := undef) (a' := ?_) #[true, true, true, true, true, true, true, true, true, true, true, true, false, false, false, false, false, false, false, false, false, false, false, false, false, false, false, false, false, false, false, false, false, false, false, false, false, false, false] rfl rfl (by kernel_rfl) (fun _ _ _ h => h) (Or.inr ⟨by rfl, rfl⟩) ?_ ?_
            rotate_left
            · simp only [Act.put, List.setIfInBounds_toArray, List.set_cons_zero, List.set_cons_succ, i64_w, i32_w]
              rfl
            refine pure_ (i := 12) (N := some 78) (v := ?_) (a' := ?_) #[true, true, true, true, true, true, true, true, true, true, true, true, true, false, false, false, false, false, false, false, false, false, false, false, false, false, false, false, false, false, false, false, false, false, false, false, false, false, false] rfl rfl (by kernel_rfl) (fun _ _ _ h => h) (Or.inl ⟨by rfl, ?_⟩) ?_ ?_
            rotate_left
            · intro w'
              go_simp
              with_reducible rfl
            rotate_left
            · simp only [Act.put, List.setIfInBounds_toArray, List.set_cons_zero, List.set_cons_succ, i64_w, i32_w]
              rfl
            refine pure_ (i := 13) (N := some 79) (v := ?_) (a' := ?_) #[true, true, true, true, true, true, true, true, true, true, true, true, true, true, false, false, false, false, false, false, false, false, false, false, false, false, false, false, false, false, false, false, false, false, false, false, false, false, false] rfl rfl (by kernel_rfl) (fun _ _ _ h => h) (Or.inl ⟨by rfl, ?_⟩) ?_ ?_
            rotate_left
            · intro w'
              go_simp
              with_reducible rfl
            rotate_left
            · simp only [Act.put, List.setIfInBounds_toArray, List.set_cons_zero, List.set_cons_succ, i64_w, i32_w]
              rfl
            refine pure_ (i := 14) (N := some 80) (v := ?_) (a' := ?_) #[true, true, true, true, true, true, true, true, true, true, true, true, true, true, true, false, false, false, false, false, false, false, false, false, false, false, false, false, false, false, false, false, false, false, false, false, false, false, false] rfl rfl (by kernel_rfl) (fun _ _ _ h => h) (Or.inl ⟨by rfl, ?_⟩) ?_ ?_
            rotate_left
            · intro w'
              go_simp
              with_reducible rfl
            rotate_left
            · simp only [Act.put, List.setIfInBounds_toArray, List.set_cons_zero, List.set_cons_succ, i64_w, i32_w]
              rfl
            refine pure_ (i := 15) (N := some 81) (v := ?_) (a' := ?_) #[true, true, true, true, true, true, true, true, true, true, true, true, true, true, true, true, false, false, false, false, false, false, false, false, false, false, false, false, false, false, false, false, false, false, false, false, false, false, false] rfl rfl (by kernel_rfl) (fun _ _ _ h => h) (Or.inl ⟨by rfl, ?_⟩) ?_ ?_
            rotate_left
            · intro w'
              go_simp
              with_reducible rfl
            rotate_left
            · simp only [Act.put, List.setIfInBounds_toArray, List.set_cons_zero, List.set_cons_succ, i64_w, i32_w]
              rfl
            refine pure_ (i := 16) (N := some 82) (v := ?_) (a' := ?_) #[true, true, true, true, true, true, true, true, true, true, true, true, true, true, true, true, true, false, false, false, false, false, false, false, false, false, false, false, false, false, false, false, false, false, false, false, false, false, false] rfl rfl (by kernel_rfl) (fun _ _ _ h => h) (Or.inl ⟨by rfl, ?_⟩) ?_ ?_
            rotate_left
            · intro w'
              go_simp
              with_reducible rfl
            rotate_left
            · simp only [Act.put, List.setIfInBounds_toArray, List.set_cons_zero, List.set_cons_succ, i64_w, i32_w]
              rfl
            refine pure_ (i := 17) (N := some 83) (v := ?_) (a' := ?_) #[true, true, true, true, true, true, true, true, true, true, true, true, true, true, true, true, true, true, false, false, false, false, false, false, false, false, false, false, false, false, false, false, false, false, false, false, false, false, false] rfl rfl (by kernel_rfl) (fun _ _ _ h => h) (Or.inl ⟨by rfl, ?_⟩) ?_ ?_
            rotate_left
            · intro w'
              go_simp
              with_reducible rfl
            rotate_left
            · simp only [Act.put, List.setIfInBounds_toArray, List.set_cons_zero, List.set_cons_succ, i64_w, i32_w]
              rfl
            refine pure_ (i := 18) (N := some 84) (v := ?_) (a' := ?_) #[true, true, true, true, true, true, true, true, true, true, true, true, true, true, true, true, true, true, true, false, false, false, false, false, false, false, false, false, false, false, false, false, false, false, false, false, false, false, false] rfl rfl (by kernel_rfl) (fun _ _ _ h => h) (Or.inl ⟨by rfl, ?_⟩) ?_ ?_
            rotate_left
            · intro w'
              go_simp
              with_reducible rfl
            rotate_left
            · simp only [Act.put, List.setIfInBounds_toArray, List.set_cons_zero, List.set_cons_succ, i64_w, i32_w]
              rfl
            refine pure_ (i := 19) (N := some 85) (v := ?_) (a' := ?_) #[true, true, true, true, true, true, true, true, true, true, true, true, true, true, true, true, true, true, true, true, false, false, false, false, false, false, false, false, false, false, false, false, false, false, false, false, false, false, false] rfl rfl (by kernel_rfl) (fun _ _ _ h => h) (Or.inl ⟨by rfl, ?_⟩) ?_ ?_
            rotate_left
            · intro w'
              go_simp
              with_reducible rfl
            rotate_left
            · simp only [Act.put, List.setIfInBounds_toArray, List.set_cons_zero, List.set_cons_succ, i64_w, i32_w]
              rfl
            refine pure_ (i := 20) (N := some 86) (v := ?_) (a' := ?_) #[true, true, true, true, true, true, true, true, true, true, true, true, true, true, true, true, true, true, true, true, true, false, false, false, false, false, false, false, false, false, false, false, false, false, false, false, false, false, false] rfl rfl (by kernel_rfl) (fun _ _ _ h => h) (Or.inl ⟨by rfl, ?_⟩) ?_ ?_
            rotate_left
            · intro w'
              go_simp
              with_reducible rfl
            rotate_left
            · simp only [Act.put, List.setIfInBounds_toArray, List.set_cons_zero, List.set_cons_succ, i64_w, i32_w]
              rfl
            refine pure_ (i := 21) (N := some 87) (v := ?_) (a' := ?_) #[true, true, true, true, true, true, true, true, true, true, true, true, true, true, true, true, true, true, true, true, true, true, false, false, false, false, false, false, false, false, false, false, false, false, false, false, false, false, false] rfl rfl (by kernel_rfl) (fun _ _ _ h => h) (Or.inl ⟨by rfl, ?_⟩) ?_ ?_
            rotate_left
            · intro w'
              go_simp
              with_reducible rfl
            rotate_left
            · simp only [Act.put, List.setIfInBounds_toArray, List.set_cons_zero, List.set_cons_succ, i64_w, i32_w]
              rfl
            refine take_ (i := 22) (N := some 88) (v := ?_) (a' := ?_) #[true, true, true, true, true, true, true, true, true, true, true, true, true, true, true, true, true, true, true, true, true, true, true, false, false, false, false, false, false, false, false, false, false, false, false, false, false, false, false] rfl rfl (by kernel_rfl) (fun _ _ _ h => h) (Or.inl ⟨by rfl, ?_⟩) hHeld ?_ ?_
            rotate_left
            · rintro w' ⟨s0, s1, s2⟩
              go_simp
              with_reducible rfl
            rotate_left
            · simp only [Act.put, List.setIfInBounds_toArray, List.set_cons_zero, List.set_cons_succ, i64_w, i32_w]
              rfl
            refine take_ (i := 23) (N := some 89) (v := ?_) (a' := ?_) #[true, true, true, true, true, true, true, true, true, true, true, true, true, true, true, true, true, true, true, true, true, true, true, true, false, false, false, false, false, false, false, false, false, false, false, false, false, false, false] rfl rfl (by kernel_rfl) (fun _ _ _ h => h) (Or.inl ⟨by rfl, ?_⟩) hHeld ?_ ?_
            rotate_left
            · rintro w' ⟨s0, s1, s2⟩
              go_simp
              with_reducible rfl
            rotate_left
            · simp only [Act.put, List.setIfInBounds_toArray, List.set_cons_zero, List.set_cons_succ, i64_w, i32_w]
              rfl
            refine pure_ (i := 24) (N := some 90) (v := ?_) (a' := ?_) #[true, true, true, true, true, true, true, true, true, true, true, true, true, true, true, true, true, true, true, true, true, true, true, true, true, false, false, false, false, false, false, false, false, false, false, false, false, false, false] rfl rfl (by kernel_rfl) (fun _ _ _ h => h) (Or.inl ⟨by rfl, ?_⟩) ?_ ?_
            rotate_left
            · intro w'
              go_simp
              with_reducible rfl
            rotate_left
            · simp only [Act.put, List.setIfInBounds_toArray, List.set_cons_zero, List.set_cons_succ, i64_w, i32_w]
              rfl
            refine pure_ (i := 25) (N := some 91) (v := ?_) (a' := ?_) #[true, true, true, true, true, true, true, true, true, true, true, true, true, true, true, true, true, true, true, true, true, true, true, true, true, true, false, false, false, false, false, false, false, false, false, false, false, false, false] rfl rfl (by kernel_rfl) (fun _ _ _ h => h) (Or.inl ⟨by rfl, ?_⟩) ?_ ?_
            rotate_left
            · intro w'
              go_simp
              with_reducible rfl
            rotate_left
            · simp only [Act.put, List.setIfInBounds_toArray, List.set_cons_zero, List.set_cons_succ, i64_w, i32_w]
              rfl
            refine pure_ (i := 26) (N := some 92) (v := ?_) (a' := ?_) #[true, true, true, true, true, true, true, true, true, true, true, true, true, true, true, true, true, true, true, true, true, true, true, true, true, true, true, false, false, false, false, false, false, false, false, false, false, false, false] rfl rfl (by kernel_rfl) (fun _ _ _ h => h) (Or.inl ⟨by rfl, ?_⟩) ?_ ?_
            rotate_left
            · intro w'
              go_simp
              with_reducible rfl
            rotate_left
            · simp only [Act.put, List.setIfInBounds_toArray, List.set_cons_zero, List.set_cons_succ, i64_w, i32_w]
              rfl
            refine take_ (i := 27) (N := some 93) (v := ?_) (a' := ?_) #[true, true, true, true, true, true, true, true, true, true, true, true, true, true, true, true, true, true, true, true, true, true, true, true, true, true, true, true, false, false, false, false, false, false, false, false, false, false, false] rfl rfl (by kernel_rfl) (fun _ _ _ h => h) (Or.inl ⟨by rfl, ?_⟩) hHeld ?_ ?_
            rotate_left
            · rintro w' ⟨s0, s1, s2⟩
              go_simp
              with_reducible rfl
            rotate_left
            · simp only [Act.put, List.setIfInBounds_toArray, List.set_cons_zero, List.set_cons_succ, i64_w, i32_w]
              rfl
            refine take_ (i := 28) (N := some 94) (v := ?_) (a' := ?_) #[true, true, true, true, true, true, true, true, true, true, true, true, true, true, true, true, true, true, true, true, true, true, true, true, true, true, true, true, true, false, false, false, false, false, false, false, false, false, false] rfl rfl (by kernel_rfl) (fun _ _ _ h => h) (Or.inl ⟨by rfl, ?_⟩) hHeld ?_ ?_
            rotate_left
            · rintro w' ⟨s0, s1, s2⟩
              go_simp
              with_reducible rfl
            rotate_left
            · simp only [Act.put, List.setIfInBounds_toArray, List.set_cons_zero, List.set_cons_succ, i64_w, i32_w]
              rfl
            refine pure_ (i := 29) (N := some 95) (v := ?_) (a' := ?_) #[true, true, true, true, true, true, true, true, true, true, true, true, true, true, true, true, true, true, true, true, true, true, true, true, true, true, true, true, true, true, false, false, false, false, false, false, false, false, false] rfl rfl (by kernel_rfl) (fun _ _ _ h => h) (Or.inl ⟨by rfl, ?_⟩) ?_ ?_
            rotate_left
            · intro w'
              go_simp
              with_reducible rfl
            rotate_left
            · simp only [Act.put, List.setIfInBounds_toArray, List.set_cons_zero, List.set_cons_succ, i64_w, i32_w]
              rfl
            refine pure_ (i := 30) (N := some 96) (v := ?_) (a' := ?_) #[true, true, true, true, true, true, true, true, true, true, true, true, true, true, true, true, true, true, true, true, true, true, true, true, true, true, true, true, true, true, true, false, false, false, false, false, false, false, false] rfl rfl (by kernel_rfl) (fun _ _ _ h => h) (Or.inl ⟨by rfl, ?_⟩) ?_ ?_
            rotate_left
            · intro w'
              go_simp
              with_reducible rfl
            rotate_left
            · simp only [Act.put, List.setIfInBounds_toArray, List.set_cons_zero, List.set_cons_succ, i64_w, i32_w]
              rfl
            refine pure_ (i := 31) (N := some 97) (v := ?_) (a' := ?_) #[true, true, true, true, true, true, true, true, true, true, true, true, true, true, true, true, true, true, true, true, true, true, true, true, true, true, true, true, true, true, true, true, false, false, false, false, false, false, false] rfl rfl (by kernel_rfl) (fun _ _ _ h => h) (Or.inl ⟨by rfl, ?_⟩) ?_ ?_
            rotate_left
            · intro w'
              go_simp
              with_reducible rfl
            rotate_left
            · simp only [Act.put, List.setIfInBounds_toArray, List.set_cons_zero, List.set_cons_succ, i64_w, i32_w]
              rfl
            refine pure_ (i := 32) (N := some 98) (v := ?_) (a' := ?_) #[true, true, true, true, true, true, true, true, true, true, true, true, true, true, true, true, true, true, true, true, true, true, true, true, true, true, true, true, true, true, true, true, true, false, false, false, false, false, false] rfl rfl (by kernel_rfl) (fun _ _ _ h => h) (Or.inl ⟨by rfl, ?_⟩) ?_ ?_
            rotate_left
            · intro w'
              go_simp
              with_reducible rfl
            rotate_left
            · simp only [Act.put, List.setIfInBounds_toArray, List.set_cons_zero, List.set_cons_succ, i64_w, i32_w]
              rfl
            refine pure_ (i := 33) (N := some 99) (v := ?_) (a' := ?_) #[true, true, true, true, true, true, true, true, true, true, true, true, true, true, true, true, true, true, true, true, true, true, true, true, true, true, true, true, true, true, true, true, true, true, false, false, false, false, false] rfl rfl (by kernel_rfl) (fun _ _ _ h => h) (Or.inl ⟨by rfl, ?_⟩) ?_ ?_
            rotate_left
            · intro w'
              go_simp
              with_reducible rfl
            rotate_left
            · simp only [Act.put, List.setIfInBounds_toArray, List.set_cons_zero, List.set_cons_succ, i64_w, i32_w]
              rfl
            refine pure_ (i := 36) (N := some 102) (v := ?_) (a' := ?_) #[true, true, true, true, true, true, true, true, true, true, true, true, true, true, true, true, true, true, true, true, true, true, true, true, true, true, true, true, true, true, true, true, true, true, false, false, true, false, false] rfl rfl (by kernel_rfl) (fun _ _ _ h => h) (Or.inl ⟨by rfl, ?_⟩) ?_ ?_
            rotate_left
            · intro w'
              go_simp
              with_reducible rfl
            rotate_left
            · simp only [Act.put, List.setIfInBounds_toArray, List.set_cons_zero, List.set_cons_succ, i64_w, i32_w]
              rfl
            refine take_ (i := 34) (N := some 100) (v := ?_) (a' := ?_) #[true, true, true, true, true, true, true, true, true, true, true, true, true, true, true, true, true, true, true, true, true, true, true, true, true, true, true, true, true, true, true, true, true, true, true, false, true, false, false] rfl rfl (by kernel_rfl) (fun _ _ _ h => h) (Or.inl ⟨by rfl, ?_⟩) hHeld ?_ ?_
            rotate_left
            · rintro w' ⟨s0, s1, s2⟩
              go_simp
              with_reducible rfl
            rotate_left
            · simp only [Act.put, List.setIfInBounds_toArray, List.set_cons_zero, List.set_cons_succ, i64_w, i32_w]
              rfl
            refine one_ (i := 35) (N := some 101) #[true, true, true, true, true, true, true, true, true, true, true, true, true, true, true, true, true, true, true, true, true, true, true, true, true, true, true, true, true, true, true, true, true, true, true, true, true, false, false] rfl rfl (by kernel_rfl) (by decide) (fun K hK => ?_)
            refine goes_ Try.func32 (by kernel_rfl) rfl #[.pointer (some ⟨g, 0, none⟩), .string r.key] (by rfl) rfl rfl (by simp only [List.map_toArray, List.map_cons, List.map_nil]; rfl) ?_
            with_reducible refine (trank_any TD.out OK.out r.key).mono ?_
            rintro e w11 ⟨rfl, rfl⟩
            refine ⟨_, rfl, ?_⟩
            rw [HRK.out]
            refine hK.out _ _ ⟨hHeld.1, hHeld.2.1, hHeld.2.2⟩ (fun hHeld => ?_)
            clear hK K
            refine norm_ (a' := ?_) ?_ ?_
            rotate_left
            · show Act.put _ (some 101) _ = _
              simp only [Act.put, List.setIfInBounds_toArray, List.set_cons_zero, List.set_cons_succ, i64_w, i32_w]
              rfl
            refine pure_ (i := 37) (N := some 103) (v := ?_) (a' := ?_) #[true, true, true, true, true, true, true, true, true, true, true, true, true, true, true, true, true, true, true, true, true, true, true, true, true, true, true, true, true, true, true, true, true, true, true, true, true, true, false] rfl rfl (by kernel_rfl) (fun _ _ _ h => h) (Or.inl ⟨by rfl, ?_⟩) ?_ ?_
            rotate_left
            · intro w'
              go_simp
              with_reducible rfl
            rotate_left
            · simp only [Act.put, List.setIfInBounds_toArray, List.set_cons_zero, List.set_cons_succ, i64_w, i32_w]
              rfl
            refine pure_ (i := 38) (N := some 104) (v := ?_) (a' := ?_) #[true, true, true, true, true, true, true, true, true, true, true, true, true, true, true, true, true, true, true, true, true, true, true, true, true, true, true, true, true, true, true, true, true, true, true, true, true, true, true] rfl rfl (by kernel_rfl) (fun _ _ _ h => h) (Or.inl ⟨by rfl, ?_⟩) ?_ ?_
            rotate_left
            · intro w'
              go_simp
              with_reducible rfl
            rotate_left
            · simp only [Act.put, List.setIfInBounds_toArray, List.set_cons_zero, List.set_cons_succ, i64_w, i32_w]
              rfl
            refine done_ (by kernel_rfl) ?_
            have c1 := blkc Q1.out
            go_wp2_with fail
            go_roundg k1
            case measure => exact Nat.lt_succ_self _
            case rel => exact ⟨0 + 1, by rw [← HE2.out], rfl, Lib.hid (by have := HI.out; omega), BD⟩
          | succ k2 =>
            have e2 : wrap64 (size (l.take (k2 + 1)) + ((r.key.size : Int) + (r.value.size : Int))) = size (l.take (k2 + 1 + 1)) := wrap_sum OK.out HU.out
            have HE2 := Lib.hid e2
            have hk0 : k2 < l.length := by omega
            have hu0 := List.getElem?_eq_getElem hk0
            generalize l[k2] = r0 at *
            obtain ⟨ad0, hA0, y0, _, _⟩ := at_R CD.out hu0
            cases hA0
            have HU0 := Lib.hid hu0
            have HLT := Lib.hid (up_prev OK.out.up hu0 (show l[k2 + 1]? = some r from HU.out))
            have hi1 : ((k2 + 1 : Nat) : Int) - 1 = (k2 : Int) := by omega
            have p5 := eq_true (show ((k2 + 1 : Nat) : Int) > 0 by omega)
            have p3 := eq_true (show 0 ≤ (k2 : Int) by omega)
            have p4 := eq_true (show k2 < l.length by omega)
            have p6 : wrap64 (k2 : Int) = (k2 : Int) := by rw [← i64_w]; exact IntWalk.i64_in _ (by omega)
            have d7 : Op.bytesLess r0.key.toList r.key.toList = true := HLT.out
            clear e2 hu0 hk0 c3 p1 p2
            go_wp2_with fail
            refine start_ (n := 39) (S := fun w' => (∀ o, w'.cell? ⟨q1, o, none⟩ = #[Value.string r.key, .string r.value, .int .i64 r.version][o]?) ∧ (∀ o, w'.cell? ⟨q2, o, none⟩ = #[Value.string r.key, .string r.value, .int .i64 r.version][o]?) ∧ (∀ o, w'.cell? ⟨q3, o, none⟩ = #[Value.string r.key, .string r.value, .int .i64 r.version][o]?) ∧ w'.cell? (ad.add (k2 * 3)) = some (.string r0.key)) (ds := []) #[false, false, false, false, false, false, false, false, false, false, false, false, false, false, false, false, false, false, false, false, false, false, false, false, false, false, false, false, false, false, false, false, false, false, false, false, false, false, false] (by kernel_rfl) rfl rfl ⟨(blkc Q1.out), (blkc Q2.out), (blkc Q3.out), y0⟩ (fun hHeld => ?_)
            refine pure_ (i := 0) (N := some 66) (v := ?_) (a' := ?_) #[true, false, false, false, false, false, false, false, false, false, false, false, false, false, false, false, false, false, false, false, false, false, false, false, false, false, false, false, false, false, false, false, false, false, false, false, false, false, false] rfl rfl (by kernel_rfl) (fun _ _ _ h => h) (Or.inl ⟨by rfl, ?_⟩) ?_ ?_
            rotate_left
            · intro w'
              go_simp
              with_reducible rfl
            rotate_left
            · simp only [Act.put, List.setIfInBounds_toArray, List.set_cons_zero, List.set_cons_succ, i64_w, i32_w]
              rfl
            refine pure_ (i := 1) (N := some 67) (v := ?_) (a' := ?_) #[true, true, false, false, false, false, false, false, false, false, false, false, false, false, false, false, false, false, false, false, false, false, false, false, false, false, false, false, false, false, false, false, false, false, false, false, false, false, false] rfl rfl (by kernel_rfl) (fun _ _ _ h => h) (Or.inl ⟨by rfl, ?_⟩) ?_ ?_
            rotate_left
            · intro w'
              go_simp
              with_reducible rfl
            rotate_left
            · simp only [Act.put, List.setIfInBounds_toArray, List.set_cons_zero, List.set_cons_succ, i64_w, i32_w]
              rfl
            refine pure_ (i := 2) (N := some 68) (v := ?_) (a' := ?_) #[true, true, true, false, false, false, false, false, false, false, false, false, false, false, false, false, false, false, false, false, false, false, false, false, false, false, false, false, false, false, false, false, false, false, false, false, false, false, false] rfl rfl (by kernel_rfl) (fun _ _ _ h => h) (Or.inl ⟨by rfl, ?_⟩) ?_ ?_
            rotate_left
            · intro w'
              go_simp
              with_reducible rfl
            rotate_left
            · simp only [Act.put, List.setIfInBounds_toArray, List.set_cons_zero, List.set_cons_succ, i64_w, i32_w]
              rfl
            refine pure_ (i := 3) (N := some 69) (v := ?_) (a' := ?_) #[true, true, true, true, false, false, false, false, false, false, false, false, false, false, false, false, false, false, false, false, false, false, false, false, false, false, false, false, false, false, false, false, false, false, false, false, false, false, false] rfl rfl (by kernel_rfl) (fun _ _ _ h => h) (Or.inl ⟨by rfl, ?_⟩) ?_ ?_
            rotate_left
            · intro w'
              go_simp
              with_reducible rfl
            rotate_left
            · simp only [Act.put, List.setIfInBounds_toArray, List.set_cons_zero, List.set_cons_succ, i64_w, i32_w]
              rfl
            refine pure_ (i := 4) (N := some 70) (v := ?_) (a' := ?_) #[true, true, true, true, true, false, false, false, false, false, false, false, false, false, false, false, false, false, false, false, false, false, false, false, false, false, false, false, false, false, false, false, false, false, false, false, false, false, false] rfl rfl (by kernel_rfl) (fun _ _ _ h => h) (Or.inl ⟨by rfl, ?_⟩) ?_ ?_
            rotate_left
            · intro w'
              go_simp
              with_reducible rfl
            rotate_left
            · simp only [Act.put, List.setIfInBounds_toArray, List.set_cons_zero, List.set_cons_succ, i64_w, i32_w]
              rfl
            refine pure_ (i := 5) (N := some 71) (v := ?_) (a' := ?_) #[true, true, true, true, true, true, false, false, false, false, false, false, false, false, false, false, false, false, false, false, false, false, false, false, false, false, false, false, false, false, false, false, false, false, false, false, false, false, false] rfl rfl (by kernel_rfl) (fun _ _ _ h => h) (Or.inl ⟨by rfl, ?_⟩) ?_ ?_
            rotate_left
            · intro w'
              go_simp
              with_reducible rfl
            rotate_left
            · simp only [Act.put, List.setIfInBounds_toArray, List.set_cons_zero, List.set_cons_succ, i64_w, i32_w]
              rfl
            refine pure_ (i := 6) (N := some 72) (v := ?_) (a' := ?_) #[true, true, true, true, true, true, true, false, false, false, false, false, false, false, false, false, false, false, false, false, false, false, false, false, false, false, false, false, false, false, false, false, false, false, false, false, false, false, false] rfl rfl (by kernel_rfl) (fun _ _ _ h => h) (Or.inl ⟨by rfl, ?_⟩) ?_ ?_
            rotate_left
            · intro w'
              go_simp
              with_reducible rfl
            rotate_left
            · simp only [Act.put, List.setIfInBounds_toArray, List.set_cons_zero, List.set_cons_succ, i64_w, i32_w]
              rfl
            refine pure_ (i := 7) (N := some 73) (v := ?_) (a' := ?_) #[true, true, true, true, true, true, true, true, false, false, false, false, false, false, false, false, false, false, false, false, false, false, false, false, false, false, false, false, false, false, false, false, false, false, false, false, false, false, false] rfl rfl (by kernel_rfl) (fun _ _ _ h => h) (Or.inl ⟨by rfl, ?_⟩) ?_ ?_
            rotate_left
            · intro w'
              go_simp
              with_reducible rfl
            rotate_left
            · simp only [Act.put, List.setIfInBounds_toArray, List.set_cons_zero, List.set_cons_succ, i64_w, i32_w]
              rfl
            refine pure_ (i := 9) (N := some 75) (v := ?_) (a' := ?_) #[true, true, true, true, true, true, true, true, false, true, false, false, false, false, false, false, false, false, false, false, false, false, false, false, false, false, false, false, false, false, false, false, false, false, false, false, false, false, false] rfl rfl (by kernel_rfl) (fun _ _ _ h => h) (Or.inl ⟨by rfl, ?_⟩) ?_ ?_
            rotate_left
            · intro w'
              go_simp
              with_reducible rfl
            rotate_left
            · simp only [Act.put, List.setIfInBounds_toArray, List.set_cons_zero, List.set_cons_succ, i64_w, i32_w]
              rfl
            refine take_ (i := 8) (N := some 74) (v := ?_) (a' := ?_) #[true, true, true, true, true, true, true, true, true, true, false, false, false, false, false, false, false, false, false, false, false, false, false, false, false, false, false, false, false, false, false, false, false, false, false, false, false, false, false] rfl rfl (by kernel_rfl) (fun _ _ _ h => h) (Or.inl ⟨by rfl, ?_⟩) hHeld ?_ ?_
            rotate_left
            · rintro w' ⟨s0, s1, s2, s3⟩
              go_simp
              with_reducible rfl
            rotate_left
            · simp only [Act.put, List.setIfInBounds_toArray, List.set_cons_zero, List.set_cons_succ, i64_w, i32_w]
              rfl
            refine take_ (i := 10) (N := some 76) (v := ?_) (a' := ?_) #[true, true, true, true, true, true, true, true, true, true, true, false, false, false, false, false, false, false, false, false, false, false, false, false, false, false, false, false, false, false, false, false, false, false, false, false, false, false, false] rfl rfl (by kernel_rfl) (fun _ _ _ h => h) (Or.inl ⟨by rfl, ?_⟩) hHeld ?_ ?_
            rotate_left
            · rintro w' ⟨s0, s1, s2, s3⟩
              go_simp
              with_reducible rfl
            rotate_left
            · simp only [Act.put, List.setIfInBounds_toArray, List.set_cons_zero, List.set_cons_succ, i64_w, i32_w]
              rfl
            refine pure_ (i := 11) (N := some 77) (v := ?_) (a' := ?_) #[true, true, true, true, true, true, true, true, true, true, true, true, false, false, false, false, false, false, false, false, false, false, false, false, false, false, false, false, false, false, false, false, false, false, false, false, false, false, false] rfl rfl (by kernel_rfl) (fun _ _ _ h => h) (Or.inl ⟨by rfl, ?_⟩) ?_ ?_
            rotate_left
            · intro w'
              go_simp
              with_reducible rfl
            rotate_left
            · simp only [Act.put, List.setIfInBounds_toArray, List.set_cons_zero, List.set_cons_succ, i64_w, i32_w]
              rfl
            refine pure_ (i := 12) (N := some 78) (v := ?_) (a' := ?_) #[true, true, true, true, true, true, true, true, true, true, true, true, true, false, false, false, false, false, false, false, false, false, false, false, false, false, false, false, false, false, false, false, false, false, false, false, false, false, false] rfl rfl (by kernel_rfl) (fun _ _ _ h => h) (Or.inl ⟨by rfl, ?_⟩) ?_ ?_
            rotate_left
            · intro w'
              go_simp
              with_reducible rfl
            rotate_left
            · simp only [Act.put, List.setIfInBounds_toArray, List.set_cons_zero, List.set_cons_succ, i64_w, i32_w]
              rfl
            refine pure_ (i := 13) (N := some 79) (v := ?_) (a' := ?_) #[true, true, true, true, true, true, true, true, true, true, true, true, true, true, false, false, false, false, false, false, false, false, false, false, false, false, false, false, false, false, false, false, false, false, false, false, false, false, false] rfl rfl (by kernel_rfl) (fun _ _ _ h => h) (Or.inl ⟨by rfl, ?_⟩) ?_ ?_
            rotate_left
            · intro w'
              go_simp
              with_reducible rfl
            rotate_left
            · simp only [Act.put, List.setIfInBounds_toArray, List.set_cons_zero, List.set_cons_succ, i64_w, i32_w]
              rfl
            refine pure_ (i := 14) (N := some 80) (v := ?_) (a' := ?_) #[true, true, true, true, true, true, true, true, true, true, true, true, true, true, true, false, false, false, false, false, false, false, false, false, false, false, false, false, false, false, false, false, false, false, false, false, false, false, false] rfl rfl (by kernel_rfl) (fun _ _ _ h => h) (Or.inl ⟨by rfl, ?_⟩) ?_ ?_
            rotate_left
            · intro w'
              go_simp
              with_reducible rfl
            rotate_left
            · simp only [Act.put, List.setIfInBounds_toArray, List.set_cons_zero, List.set_cons_succ, i64_w, i32_w]
              rfl
            refine pure_ (i := 15) (N := some 81) (v := ?_) (a' := ?_) #[true, true, true, true, true, true, true, true, true, true, true, true, true, true, true, true, false, false, false, false, false, false, false, false, false, false, false, false, false, false, false, false, false, false, false, false, false, false, false] rfl rfl (by kernel_rfl) (fun _ _ _ h => h) (Or.inl ⟨by rfl, ?_⟩) ?_ ?_
            rotate_left
            · intro w'
              go_simp
              with_reducible rfl
            rotate_left
            · simp only [Act.put, List.setIfInBounds_toArray, List.set_cons_zero, List.set_cons_succ, i64_w, i32_w]
              rfl
            refine pure_ (i := 16) (N := some 82) (v := ?_) (a' := ?_) #[true, true, true, true, true, true, true, true, true, true, true, true, true, true, true, true, true, false, false, false, false, false, false, false, false, false, false, false, false, false, false, false, false, false, false, false, false, false, false] rfl rfl (by kernel_rfl) (fun _ _ _ h => h) (Or.inl ⟨by rfl, ?_⟩) ?_ ?_
            rotate_left
            · intro w'
              go_simp
              with_reducible rfl
            rotate_left
            · simp only [Act.put, List.setIfInBounds_toArray, List.set_cons_zero, List.set_cons_succ, i64_w, i32_w]
              rfl
            refine pure_ (i := 17) (N := some 83) (v := ?_) (a' := ?_) #[true, true, true, true, true, true, true, true, true, true, true, true, true, true, true, true, true, true, false, false, false, false, false, false, false, false, false, false, false, false, false, false, false, false, false, false, false, false, false] rfl rfl (by kernel_rfl) (fun _ _ _ h => h) (Or.inl ⟨by rfl, ?_⟩) ?_ ?_
            rotate_left
            · intro w'
              go_simp
              with_reducible rfl
            rotate_left
            · simp only [Act.put, List.setIfInBounds_toArray, List.set_cons_zero, List.set_cons_succ, i64_w, i32_w]
              rfl
            refine pure_ (i := 18) (N := some 84) (v := ?_) (a' := ?_) #[true, true, true, true, true, true, true, true, true, true, true, true, true, true, true, true, true, true, true, false, false, false, false, false, false, false, false, false, false, false, false, false, false, false, false, false, false, false, false] rfl rfl (by kernel_rfl) (fun _ _ _ h => h) (Or.inl ⟨by rfl, ?_⟩) ?_ ?_
            rotate_left
            · intro w'
              go_simp
              with_reducible rfl
            rotate_left
            · simp only [Act.put, List.setIfInBounds_toArray, List.set_cons_zero, List.set_cons_succ, i64_w, i32_w]
              rfl
            refine pure_ (i := 19) (N := some 85) (v := ?_) (a' := ?_) #[true, true, true, true, true, true, true, true, true, true, true, true, true, true, true, true, true, true, true, true, false, false, false, false, false, false, false, false, false, false, false, false, false, false, false, false, false, false, false] rfl rfl (by kernel_rfl) (fun _ _ _ h => h) (Or.inl ⟨by rfl, ?_⟩) ?_ ?_
            rotate_left
            · intro w'
              go_simp
              with_reducible rfl
            rotate_left
            · simp only [Act.put, List.setIfInBounds_toArray, List.set_cons_zero, List.set_cons_succ, i64_w, i32_w]
              rfl
            refine pure_ (i := 20) (N := some 86) (v := ?_) (a' := ?_) #[true, true, true, true, true, true, true, true, true, true, true, true, true, true, true, true, true, true, true, true, true, false, false, false, false, false, false, false, false, false, false, false, false, false, false, false, false, false, false] rfl rfl (by kernel_rfl) (fun _ _ _ h => h) (Or.inl ⟨by rfl, ?_⟩) ?_ ?_
            rotate_left
            · intro w'
              go_simp
              with_reducible rfl
            rotate_left
            · simp only [Act.put, List.setIfInBounds_toArray, List.set_cons_zero, List.set_cons_succ, i64_w, i32_w]
              rfl
            refine pure_ (i := 21) (N := some 87) (v := ?_) (a' := ?_) #[true, true, true, true, true, true, true, true, true, true, true, true, true, true, true, true, true, true, true, true, true, true, false, false, false, false, false, false, false, false, false, false, false, false, false, false, false, false, false] rfl rfl (by kernel_rfl) (fun _ _ _ h => h) (Or.inl ⟨by rfl, ?_⟩) ?_ ?_
            rotate_left
            · intro w'
              go_simp
              with_reducible rfl
            rotate_left
            · simp only [Act.put, List.setIfInBounds_toArray, List.set_cons_zero, List.set_cons_succ, i64_w, i32_w]
              rfl
            refine take_ (i := 22) (N := some 88) (v := ?_) (a' := ?_) #[true, true, true, true, true, true, true, true, true, true, true, true, true, true, true, true, true, true, true, true, true, true, true, false, false, false, false, false, false, false, false, false, false, false, false, false, false, false, false] rfl rfl (by kernel_rfl) (fun _ _ _ h => h) (Or.inl ⟨by rfl, ?_⟩) hHeld ?_ ?_
            rotate_left
            · rintro w' ⟨s0, s1, s2, s3⟩
              go_simp
              with_reducible rfl
            rotate_left
            · simp only [Act.put, List.setIfInBounds_toArray, List.set_cons_zero, List.set_cons_succ, i64_w, i32_w]
              rfl
            refine take_ (i := 23) (N := some 89) (v := ?_) (a' := ?_) #[true, true, true, true, true, true, true, true, true, true, true, true, true, true, true, true, true, true, true, true, true, true, true, true, false, false, false, false, false, false, false, false, false, false, false, false, false, false, false] rfl rfl (by kernel_rfl) (fun _ _ _ h => h) (Or.inl ⟨by rfl, ?_⟩) hHeld ?_ ?_
            rotate_left
            · rintro w' ⟨s0, s1, s2, s3⟩
              go_simp
              with_reducible rfl
            rotate_left
            · simp only [Act.put, List.setIfInBounds_toArray, List.set_cons_zero, List.set_cons_succ, i64_w, i32_w]
              rfl
            refine pure_ (i := 24) (N := some 90) (v := ?_) (a' := ?_) #[true, true, true, true, true, true, true, true, true, true, true, true, true, true, true, true, true, true, true, true, true, true, true, true, true, false, false, false, false, false, false, false, false, false, false, false, false, false, false] rfl rfl (by kernel_rfl) (fun _ _ _ h => h) (Or.inl ⟨by rfl, ?_⟩) ?_ ?_
            rotate_left
            · intro w'
              go_simp
              with_reducible rfl
            rotate_left
            · simp only [Act.put, List.setIfInBounds_toArray, List.set_cons_zero, List.set_cons_succ, i64_w, i32_w]
              rfl
            refine pure_ (i := 25) (N := some 91) (v := ?_) (a' := ?_) #[true, true, true, true, true, true, true, true, true, true, true, true, true, true, true, true, true, true, true, true, true, true, true, true, true, true, false, false, false, false, false, false, false, false, false, false, false, false, false] rfl rfl (by kernel_rfl) (fun _ _ _ h => h) (Or.inl ⟨by rfl, ?_⟩) ?_ ?_
            rotate_left
            · intro w'
              go_simp
              with_reducible rfl
            rotate_left
            · simp only [Act.put, List.setIfInBounds_toArray, List.set_cons_zero, List.set_cons_succ, i64_w, i32_w]
              rfl
            refine pure_ (i := 26) (N := some 92) (v := ?_) (a' := ?_) #[true, true, true, true, true, true, true, true, true, true, true, true, true, true, true, true, true, true, true, true, true, true, true, true, true, true, true, false, false, false, false, false, false, false, false, false, false, false, false] rfl rfl (by kernel_rfl) (fun _ _ _ h => h) (Or.inl ⟨by rfl, ?_⟩) ?_ ?_
            rotate_left
            · intro w'
              go_simp
              with_reducible rfl
            rotate_left
            · simp only [Act.put, List.setIfInBounds_toArray, List.set_cons_zero, List.set_cons_succ, i64_w, i32_w]
              rfl
            refine take_ (i := 27) (N := some 93) (v := ?_) (a' := ?_) #[true, true, true, true, true, true, true, true, true, true, true, true, true, true, true, true, true, true, true, true, true, true, true, true, true, true, true, true, false, false, false, false, false, false, false, false, false, false, false] rfl rfl (by kernel_rfl) (fun _ _ _ h => h) (Or.inl ⟨by rfl, ?_⟩) hHeld ?_ ?_
            rotate_left
            · rintro w' ⟨s0, s1, s2, s3⟩
              go_simp
              with_reducible rfl
            rotate_left
            · simp only [Act.put, List.setIfInBounds_toArray, List.set_cons_zero, List.set_cons_succ, i64_w, i32_w]
              rfl
            refine take_ (i := 28) (N := some 94) (v := ?_) (a' := ?_) #[true, true, true, true, true, true, true, true, true, true, true, true, true, true, true, true, true, true, true, true, true, true, true, true, true, true, true, true, true, false, false, false, false, false, false, false, false, false, false] rfl rfl (by kernel_rfl) (fun _ _ _ h => h) (Or.inl ⟨by rfl, ?_⟩) hHeld ?_ ?_
            rotate_left
            · rintro w' ⟨s0, s1, s2, s3⟩
              go_simp
              with_reducible rfl
            rotate_left
            · simp only [Act.put, List.setIfInBounds_toArray, List.set_cons_zero, List.set_cons_succ, i64_w, i32_w]
              rfl
            refine pure_ (i := 29) (N := some 95) (v := ?_) (a' := ?_) #[true, true, true, true, true, true, true, true, true, true, true, true, true, true, true, true, true, true, true, true, true, true, true, true, true, true, true, true, true, true, false, false, false, false, false, false, false, false, false] rfl rfl (by kernel_rfl) (fun _ _ _ h => h) (Or.inl ⟨by rfl, ?_⟩) ?_ ?_
            rotate_left
            · intro w'
              go_simp
              with_reducible rfl
            rotate_left
            · simp only [Act.put, List.setIfInBounds_toArray, List.set_cons_zero, List.set_cons_succ, i64_w, i32_w]
              rfl
            refine pure_ (i := 30) (N := some 96) (v := ?_) (a' := ?_) #[true, true, true, true, true, true, true, true, true, true, true, true, true, true, true, true, true, true, true, true, true, true, true, true, true, true, true, true, true, true, true, false, false, false, false, false, false, false, false] rfl rfl (by kernel_rfl) (fun _ _ _ h => h) (Or.inl ⟨by rfl, ?_⟩) ?_ ?_
            rotate_left
            · intro w'
              go_simp
              with_reducible rfl
            rotate_left
            · simp only [Act.put, List.setIfInBounds_toArray, List.set_cons_zero, List.set_cons_succ, i64_w, i32_w]
              rfl
            refine pure_ (i := 31) (N := some 97) (v := ?_) (a' := ?_) #[true, true, true, true, true, true, true, true, true, true, true, true, true, true, true, true, true, true, true, true, true, true, true, true, true, true, true, true, true, true, true, true, false, false, false, false, false, false, false] rfl rfl (by kernel_rfl) (fun _ _ _ h => h) (Or.inl ⟨by rfl, ?_⟩) ?_ ?_
            rotate_left
            · intro w'
              go_simp
              with_reducible rfl
            rotate_left
            · simp only [Act.put, List.setIfInBounds_toArray, List.set_cons_zero, List.set_cons_succ, i64_w, i32_w]
              rfl
            refine pure_ (i := 32) (N := some 98) (v := ?_) (a' := ?_) #[true, true, true, true, true, true, true, true, true, true, true, true, true, true, true, true, true, true, true, true, true, true, true, true, true, true, true, true, true, true, true, true, true, false, false, false, false, false, false] rfl rfl (by kernel_rfl) (fun _ _ _ h => h) (Or.inl ⟨by rfl, ?_⟩) ?_ ?_
            rotate_left
            · intro w'
              go_simp
              with_reducible rfl
            rotate_left
            · simp only [Act.put, List.setIfInBounds_toArray, List.set_cons_zero, List.set_cons_succ, i64_w, i32_w]
              rfl
            refine pure_ (i := 33) (N := some 99) (v := ?_) (a' := ?_) #[true, true, true, true, true, true, true, true, true, true, true, true, true, true, true, true, true, true, true, true, true, true, true, true, true, true, true, true, true, true, true, true, true, true, false, false, false, false, false] rfl rfl (by kernel_rfl) (fun _ _ _ h => h) (Or.inl ⟨by rfl, ?_⟩) ?_ ?_
            rotate_left
            · intro w'
              go_simp
              with_reducible rfl
            rotate_left
            · simp only [Act.put, List.setIfInBounds_toArray, List.set_cons_zero, List.set_cons_succ, i64_w, i32_w]
              rfl
            refine pure_ (i := 36) (N := some 102) (v := ?_) (a' := ?_) #[true, true, true, true, true, true, true, true, true, true, true, true, true, true, true, true, true, true, true, true, true, true, true, true, true, true, true, true, true, true, true, true, true, true, false, false, true, false, false] rfl rfl (by kernel_rfl) (fun _ _ _ h => h) (Or.inl ⟨by rfl, ?_⟩) ?_ ?_
            rotate_left
            · intro w'
              go_simp
              with_reducible rfl
            rotate_left
            · simp only [Act.put, List.setIfInBounds_toArray, List.set_cons_zero, List.set_cons_succ, i64_w, i32_w]
              rfl
            refine take_ (i := 34) (N := some 100) (v := ?_) (a' := ?_) #[true, true, true, true, true, true, true, true, true, true, true, true, true, true, true, true, true, true, true, true, true, true, true, true, true, true, true, true, true, true, true, true, true, true, true, false, true, false, false] rfl rfl (by kernel_rfl) (fun _ _ _ h => h) (Or.inl ⟨by rfl, ?_⟩) hHeld ?_ ?_
            rotate_left
            · rintro w' ⟨s0, s1, s2, s3⟩
              go_simp
              with_reducible rfl
            rotate_left
            · simp only [Act.put, List.setIfInBounds_toArray, List.set_cons_zero, List.set_cons_succ, i64_w, i32_w]
              rfl
            refine one_ (i := 35) (N := some 101) #[true, true, true, true, true, true, true, true, true, true, true, true, true, true, true, true, true, true, true, true, true, true, true, true, true, true, true, true, true, true, true, true, true, true, true, true, true, false, false] rfl rfl (by kernel_rfl) (by decide) (fun K hK => ?_)
            refine goes_ Try.func32 (by kernel_rfl) rfl #[.pointer (some ⟨g, 0, none⟩), .string r.key] (by rfl) rfl rfl (by simp only [List.map_toArray, List.map_cons, List.map_nil]; rfl) ?_
            with_reducible refine (trank_any TD.out OK.out r.key).mono ?_
            rintro e w11 ⟨rfl, rfl⟩
            refine ⟨_, rfl, ?_⟩
            rw [HRK.out]
            refine hK.out _ _ ⟨hHeld.1, hHeld.2.1, hHeld.2.2.1, hHeld.2.2.2⟩ (fun hHeld => ?_)
            clear hK K
            refine norm_ (a' := ?_) ?_ ?_
            rotate_left
            · show Act.put _ (some 101) _ = _
              simp only [Act.put, List.setIfInBounds_toArray, List.set_cons_zero, List.set_cons_succ, i64_w, i32_w]
              rfl
            refine pure_ (i := 37) (N := some 103) (v := ?_) (a' := ?_) #[true, true, true, true, true, true, true, true, true, true, true, true, true, true, true, true, true, true, true, true, true, true, true, true, true, true, true, true, true, true, true, true, true, true, true, true, true, true, false] rfl rfl (by kernel_rfl) (fun _ _ _ h => h) (Or.inl ⟨by rfl, ?_⟩) ?_ ?_
            rotate_left
            · intro w'
              go_simp
              with_reducible rfl
            rotate_left
            · simp only [Act.put, List.setIfInBounds_toArray, List.set_cons_zero, List.set_cons_succ, i64_w, i32_w]
              rfl
            refine pure_ (i := 38) (N := some 104) (v := ?_) (a' := ?_) #[true, true, true, true, true, true, true, true, true, true, true, true, true, true, true, true, true, true, true, true, true, true, true, true, true, true, true, true, true, true, true, true, true, true, true, true, true, true, true] rfl rfl (by kernel_rfl) (fun _ _ _ h => h) (Or.inl ⟨by rfl, ?_⟩) ?_ ?_
            rotate_left
            · intro w'
              go_simp
              with_reducible rfl
            rotate_left
            · simp only [Act.put, List.setIfInBounds_toArray, List.set_cons_zero, List.set_cons_succ, i64_w, i32_w]
              rfl
            refine done_ (by kernel_rfl) ?_
            clear p3 p4 p5 p6 d7 y0
            have c1 := blkc Q1.out
            go_wp2_with fail
            go_roundg k1
            case measure => exact Nat.lt_succ_self _
            case rel => exact ⟨k2 + 1 + 1, by rw [← HE2.out], by go_num, Lib.hid (by have := HI.out; omega), BD⟩
    | succ k1 =>
      have hk : k < script.length := by have := HK.out; omega
      have hu := List.getElem?_eq_getElem hk
      have hrs := HR.out script[k] (List.getElem_mem hk)
      generalize script[k] = s at *
      obtain ⟨ad, v, hA, hv, hx0, hx⟩ := at_TOp HG.out hu
      cases hA
      obtain ⟨Av, cv, ev, hvv⟩ := hv
      cases ev
      have HVV := Lib.hid hvv.2
      have hx0 := pw_cell_below (w1 := wr) B.out hx0
      have hx1 := pw_cell_below (w1 := wr) B.out (show w.cell? ⟨(ad.add (k * 11)).block, (ad.add (k * 11)).off + 1, none⟩ = some (.int .i64 s.table) from hx 1 (by omega) (by omega))
      have hx2 := pw_cell_below (w1 := wr) B.out (show w.cell? ⟨(ad.add (k * 11)).block, (ad.add (k * 11)).off + 2, none⟩ = some (.int .i64 s.to2) from hx 2 (by omega) (by omega))
      have hx3 := pw_cell_below (w1 := wr) B.out (show w.cell? ⟨(ad.add (k * 11)).block, (ad.add (k * 11)).off + 3, none⟩ = some (.string s.row.key) from hx 3 (by omega) (by omega))
      have hx4 := pw_cell_below (w1 := wr) B.out (show w.cell? ⟨(ad.add (k * 11)).block, (ad.add (k * 11)).off + 4, none⟩ = some (.string s.row.value) from hx 4 (by omega) (by omega))
      have hx5 := pw_cell_below (w1 := wr) B.out (show w.cell? ⟨(ad.add (k * 11)).block, (ad.add (k * 11)).off + 5, none⟩ = some (.int .i64 s.row.version) from hx 5 (by omega) (by omega))
      have hx6 := pw_cell_below (w1 := wr) B.out (show w.cell? ⟨(ad.add (k * 11)).block, (ad.add (k * 11)).off + 6, none⟩ = some (.string s.key) from hx 6 (by omega) (by omega))
      have hx7 := pw_cell_below (w1 := wr) B.out (show w.cell? ⟨(ad.add (k * 11)).block, (ad.add (k * 11)).off + 7, none⟩ = some (.string s.from_) from hx 7 (by omega) (by omega))
      have hx8 := pw_cell_below (w1 := wr) B.out (show w.cell? ⟨(ad.add (k * 11)).block, (ad.add (k * 11)).off + 8, none⟩ = some (.string s.upto) from hx 8 (by omega) (by omega))
      have hx9 := pw_cell_below (w1 := wr) B.out (show w.cell? ⟨(ad.add (k * 11)).block, (ad.add (k * 11)).off + 9, none⟩ = some (.slice Av s.rows.length cv) from hx 9 (by omega) (by omega))
      have hx10 := pw_cell_below (w1 := wr) B.out (show w.cell? ⟨(ad.add (k * 11)).block, (ad.add (k * 11)).off + 10, none⟩ = some (.int .i64 s.n) from hx 10 (by omega) (by omega))
      have c2 : decide (k < script.length) = true := by simpa using hk
      have p1 := eq_true (show 0 ≤ (k : Int) by omega)
      have p2 := eq_true (show k < script.length by omega)
      have P4 := Lib.hid (blk_new wr (.cells #[Value.int .i64 s.call, .int .i64 s.table, .int .i64 s.to2, .string s.row.key, .string s.row.value, .int .i64 s.row.version, .string s.key, .string s.from_, .string s.upto, .slice Av s.rows.length cv, .int .i64 s.n] tOp))
      have T4 := Lib.hid (T.out.below (below_alloc (Below.refl _ _) (.cells #[Value.int .i64 s.call, .int .i64 s.table, .int .i64 s.to2, .string s.row.key, .string s.row.value, .int .i64 s.row.version, .string s.key, .string s.from_, .string s.upto, .slice Av s.rows.length cv, .int .i64 s.n] tOp)))
      have B4 := Lib.hid (below_alloc B.out (.cells #[Value.int .i64 s.call, .int .i64 s.table, .int .i64 s.to2, .string s.row.key, .string s.row.value, .int .i64 s.row.version, .string s.key, .string s.from_, .string s.upto, .slice Av s.rows.length cv, .int .i64 s.n] tOp))
      have HRS := Lib.hid hrs
      clear hu hx T B hvv hrs
      go_upto_region 7 with (fail)
      generalize wr.heap.size = q at *
      generalize (World.alloc wr _) = WA at *
      clear hx0 hx1 hx2 hx3 hx4 hx5 hx6 hx7 hx8 hx9 hx10 p1 p2
      have cp := blkc P4.out
      go_wp2_with fail
      clear cp
      refine (act_any (w0 := w) T4.out OK.out hg B4.out s (Av := Av) (cv := cv) (Nat.le_trans HRS.out (by omega)) (fun W _ hb => Kd.C_below HVV.out hb)).mono ?_
      rintro e w5 ⟨⟨v5, rfl⟩, hT, hK, hB⟩
      have T5 := Lib.hid hT
      have B5 := Lib.hid hB
      have O5 := Lib.hid (OK.out.actL s)
      clear hT hK hB T4 B4 P4
      go_wp2_with fail
      go_roundg k1
      case measure => exact Nat.lt_succ_self _
      case rel => exact ⟨k + 1, _, by go_num, Lib.hid (by have := HK.out; omega), T5, O5, B5⟩
end Go.Proofs.Ytjpalkggmefpfaa.Tab
namespace Go.Proofs.Ytjpalkggmefpfaa.Walk
open Go.RowKit Go.Proofs.Ytjpalkggmefpfaa.Opn Go.Proofs.Ytjpalkggmefpfaa.Tab Go.Proofs.YtjpalkggmefpfaaW.PrintWords
theorem TableOrder (l : List TStep) (A : Option Addr) (n : Nat) (cut : ByteArray) (W : World) (hl : l.length ≤ n) (hC : kTOp.C W A l.length l) (hm : l.length ≤ 9223372036854775807) (hq : ∀ a ∈ l, pTOp a) (hr : l.length * Try.prog.bytesOf 47 ≤ 140737488351232) (hk : cut.size ≤ 9223372036854775807) (hi : ∀ s, s ∈ l → s.rows.length ≤ 3518437208780) :
    Calls Try.prog 8 #[.slice A l.length n, .string cut] W fun e W' => e = .returned (.bool true) ∧ Below W.heap.size W W' := by
  have hb : Try.prog.bytesOf 47 = 144 := by kernel_rfl
  rw [hb] at hr
  exact Tab.order_any l A n cut W hl (by omega) hC hi
end Go.Proofs.Ytjpalkggmefpfaa.Walk
