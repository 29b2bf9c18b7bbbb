/- delta.Stream and the document's Stream: for every list of updates the bytes and the error of plain words. -/
import Derived.Test.YtiboiociaedocaaStrSpec
set_option linter.unusedVariables false
set_option linter.unusedSimpArgs false
namespace Go.Proofs.Ytiboiociaedocaa.Str
open Go.RowKit Go.Proofs.Ytiboiociaedocaa.CutPlain Go.Proofs.Ytiboiociaedocaa.PDeltaStreams Go.Proofs.YtiboiociaedocaaW.PrintWords Go.Proofs.Ytiboiociaedocaa.Byt Go.Proofs.Ytiboiociaedocaa.Mem Go.Proofs.Ytiboiociaedocaa.Chk Go.Proofs.Ytiboiociaedocaa.Opn Go.Proofs.Ytiboiociaedocaa.Leb
theorem own_apart {w w' : World} {base e s n e' s' n' : Nat} {v v' : Value} {xs xs' : List Value} (h : w.ownsRow base e s v n xs) (h' : w'.ownsRow w.heap.size e' s' v' n' xs') : v'.ownBlock = none ∨ v'.ownBlock ≠ v.ownBlock := by
  rcases h'.2 with ⟨rfl, _⟩ | ⟨g', cap', cur', rfl, hg', _⟩
  · exact .inl rfl
  · right
    rcases h.2 with ⟨rfl, _⟩ | ⟨g, cap, cur, rfl, _, hh, _⟩
    · simp [Value.ownBlock]
    · have := blk_lt hh
      simp [Value.ownBlock]
      omega
theorem drop_map {l : List SU} {i : Nat} (h : i < l.length) : (l.drop i).map updOf = updOf l[i] :: (l.drop (i + 1)).map updOf := by
  rw [List.drop_eq_getElem_cons h, List.map_cons]
theorem encE_ok {u : UpdT} (h : checkUpd u = 0) : encE u = encU u := if_pos h
theorem encode_one (x : SU) (hk : x.f3.f1.size ≤ 9223372036854775807) (w : World) :
    Calls Try.prog 23 #[.agg #[.int .i64 x.f0, .int .i64 x.f1, .int .i64 x.f2, .int .i64 x.f3.f0, .string x.f3.f1, .string x.f3.f2, .int .i64 x.f3.f3]] w fun e w' => ∃ v, e = .returned (.tuple #[v, .int .i64 (checkUpd (updOf x))]) ∧ w'.ownsRow w.heap.size 5 1 v (encE (updOf x)).length (nums .u8 (encE (updOf x))) ∧ Below w.heap.size w w' :=
  encode_any _ _ _ _ _ _ _ hk w
theorem rEncode_one (x : RU) (hk : x.f3.f1.size ≤ 9223372036854775807) (w : World) :
    Calls Try.prog 24 #[.agg #[.int .i64 x.f0, .int .i64 x.f1, .int .i64 x.f2, .int .i64 x.f3.f0, .string x.f3.f1, .string x.f3.f2, .int .i64 x.f3.f3]] w fun e w' => ∃ v, e = .returned (.tuple #[v, .int .i64 (checkUpd (updR x))]) ∧ w'.ownsRow w.heap.size 5 1 v (encE (updR x)).length (nums .u8 (encE (updR x))) ∧ Below w.heap.size w w' :=
  rEncode_any _ _ _ _ _ _ _ hk w
set_option maxHeartbeats 1600000 in
set_option maxRecDepth 100000 in
theorem stream_any (l : List SU) (A : Option Addr) (c : Nat) (hc : l.length ≤ c) (hl : l.length ≤ 1048576) (hk : ∀ x ∈ l, x.f3.f1.size ≤ 9223372036854775807) (w : World) (h : kSU.C w A l.length l) :
    Calls Try.prog 25 #[.slice A l.length c] w fun e w' => ∃ v, e = .returned (.tuple #[v, .int .i64 (strE (l.map updOf))]) ∧ w'.ownsRow w.heap.size 5 1 v (strOut (l.map updOf)).length (nums .u8 (strOut (l.map updOf))) ∧ Below w.heap.size w w' := by
  have HR := Lib.hid h
  have HC := Lib.hid hc
  have HK := Lib.hid hk
  have hu38 := Try.underlying38
  clear h hc hk
  go_enter Try.func25, Try.ntmps25
  go_wp2
  go_loopg [4, 11] l.length (fun kq v4 v11 w' => ∃ (xs : List Int) (i : Nat), v11 = .int .i64 (i : Int) ∧ Hid (i + kq = l.length) ∧ Hid (xs.length ≤ i * 70100) ∧ Hid (w'.ownsRow w.heap.size 5 1 v4 xs.length (nums .u8 xs)) ∧ Hid (Below w.heap.size w w') ∧ Hid (StrGo xs (l.map updOf) ((l.drop i).map updOf)))
  case atStart => exact ⟨[], 0, rfl, (show _ + _ = _ by omega), Nat.zero_le _, own_nil _ _ _ _, Below.refl _ _, StrGo.start _⟩
  case round =>
    obtain ⟨xs, i, rfl, HI, HX, HO, HB, HG⟩ := hrel
    cases gk with
    | zero =>
      have hi := HI.out
      have c2 : decide (i < l.length) = false := by simp; omega
      have hf := HG.out
      rw [List.drop_eq_nil_of_le (by omega), List.map_nil] at hf
      have hf' := hf.fin
      have F := Lib.hid hf'
      clear hf hf' hi
      go_wp2
      go_ret2
      rw [F.out.1, F.out.2]
      exact ⟨_, rfl, HO.out, HB.out⟩
    | succ k1 =>
      have hi : i < l.length := by have := HI.out; omega
      have c2 : decide (i < l.length) = true := by simp; omega
      have hg := HG.out
      rw [drop_map hi] at hg
      have hx : l[i].f3.f1.size ≤ 9223372036854775807 := HK.out _ (List.getElem_mem hi)
      obtain ⟨ad229, e229, hx229_0, hx229_1, hx229_2, hx229_3, hx229_4, hx229_5, hx229_6⟩ := at_T38 HR.out (i : Int) (by omega) (by omega)
      cases e229
      simp only [Int.toNat_natCast] at hx229_0 hx229_1 hx229_2 hx229_3 hx229_4 hx229_5 hx229_6
      rw [rd_get hi] at hx229_0 hx229_1 hx229_2 hx229_3 hx229_4 hx229_5 hx229_6
      generalize l[i] = x at *
      replace hx229_0 := (HB.out.cell (World.block_lt_of_cell? w _ hx229_0)).trans hx229_0
      replace hx229_1 := (HB.out.cell (World.block_lt_of_cell? w _ hx229_1)).trans hx229_1
      replace hx229_2 := (HB.out.cell (World.block_lt_of_cell? w _ hx229_2)).trans hx229_2
      replace hx229_3 := (HB.out.cell (World.block_lt_of_cell? w _ hx229_3)).trans hx229_3
      replace hx229_4 := (HB.out.cell (World.block_lt_of_cell? w _ hx229_4)).trans hx229_4
      replace hx229_5 := (HB.out.cell (World.block_lt_of_cell? w _ hx229_5)).trans hx229_5
      replace hx229_6 := (HB.out.cell (World.block_lt_of_cell? w _ hx229_6)).trans hx229_6
      have p229 := eq_true (show 0 ≤ (i : Int) by omega)
      have q229 := eq_true (show i < l.length by omega)
      have HG' := Lib.hid hg
      clear hg HG
      go_wp2_with fail
      refine (encode_one x hx _).mono ?_
      rintro e w1 ⟨v1, rfl, ho1, hb1⟩
      have HP := Lib.hid (own_apart (own_alloc HO.out _) ho1)
      have HB1 : Hid (Below w.heap.size w w1) := below_then (below_alloc HB.out _) (below_size (below_alloc HB.out _)) hb1
      have HO1 : Hid (w1.ownsRow w.heap.size 5 1 u4 xs.length (nums .u8 xs)) := pw_own_below (own_alloc HO.out _) hb1
      by_cases hu : checkUpd (updOf x) = 0
      · rw [encE_ok hu] at ho1
        rw [hu]
        have hn := encU_len hu
        have HG1 := Lib.hid (HG'.out.step hu)
        obtain ⟨A1, c1, rfl, _⟩ := own_reads ho1
        have HE := Lib.hid ho1
        have h10 := lebL_len10 (n := (encU (updOf x)).length) (by omega)
        have hsz : lebs [(encU (updOf x)).length] = lebL (encU (updOf x)).length := by simp [lebs]
        have HS := Lib.hid hsz
        have hx0 := HX.out
        clear ho1 hb1 hu hsz HO HB HG'
        go_wp2_with fail
        refine (leb_lit [(encU (updOf x)).length] (by simp) (by simp; omega) HB1.out).mono ?_
        rintro e w2 ⟨v2, rfl, ho2, hb2, hk2⟩
        rw [HS.out] at ho2
        obtain ⟨A2, c3, rfl, hr2⟩ := own_reads ho2
        have HR2 := Lib.hid hr2
        have HB2 := Lib.hid hb2
        have HO2 := Lib.hid (pw_own_below HO1.out hk2)
        have HE2 := Lib.hid (pw_own_below HE.out hk2)
        clear ho2 hb2 hk2 hr2
        go_wp2_with (first | (((with_reducible refine gate_builtin (b := .append) (xs := #[.tmp 23, .tmp 28]) rfl ?_); at_builtin; refine print_append_row (w0 := w) w.heap.size rfl (.tmp 23) (.tmp 28) 49 5 .u8 1 rfl Try.underlying49 info_u8 (by decide) u4 xs (lebL (encU (updOf x)).length) A2 ((lebL (encU (updOf x)).length)).length c3 rfl rfl HO2.out HR2.out HB2.out HB2.out.size (by omega) ?_; intro v3 w3 ho3 hb3 hg3 hat3; have HO3 := Lib.hid ho3; have HB3 := Lib.hid hb3; (have HG3 := Lib.hid hg3); (have HA3 := Lib.hid hat3); clear ho3 hb3 hg3 hat3); (have HE3 := Lib.hid (own_other HE2.out HG3.out HP.out)); (obtain ⟨A1', c1', e1', hr3⟩ := own_reads HE3.out); (cases e1'); (have HR3 := Lib.hid hr3); clear hr3) | (((with_reducible refine gate_builtin (b := .append) (xs := #[.tmp 29, .tmp 30]) rfl ?_); at_builtin; refine print_append_row (w0 := w) w.heap.size rfl (.tmp 29) (.tmp 30) 49 5 .u8 1 rfl Try.underlying49 info_u8 (by decide) v3 (xs ++ lebL (encU (updOf x)).length) (encU (updOf x)) A1 ((encU (updOf x))).length c1 rfl rfl HO3.out HR3.out HB3.out HB3.out.size (by rw [List.length_append]; omega) ?_; intro v4 w4 ho4 hb4 hg4 hat4; have HO4 := Lib.hid ho4; have HB4 := Lib.hid hb4; (have HG4 := Lib.hid hg4); (have HA4 := Lib.hid hat4); clear ho4 hb4 hg4 hat4)))
        go_roundg k1
        case measure => exact Nat.lt_succ_self _
        case rel =>
          have hl2 : (xs ++ lebL (encU (updOf x)).length ++ encU (updOf x)).length ≤ (i + 1) * 70100 := by
            rw [List.length_append, List.length_append]; omega
          exact ⟨_, i + 1, (by simp [wrap64]), (by have h1 := HI.out; show _ + _ = _; omega), hl2, HO4.out, HB4.out, HG1.out⟩
      · obtain ⟨q, hq⟩ : ∃ q, checkUpd (updOf x) = q := ⟨_, rfl⟩
        have hf := HG'.out.bad hu
        rw [hq] at hf hu ⊢
        have F := Lib.hid hf
        have hne : (q != 0) = true := by simpa using hu
        clear ho1 hb1 hu hq hf
        go_wp2
        go_ret2
        rw [F.out.1, F.out.2]
        exact ⟨_, rfl, own_nil _ _ _ _, HB1.out⟩
theorem drop_mapR {l : List RU} {i : Nat} (h : i < l.length) : (l.drop i).map updR = updR l[i] :: (l.drop (i + 1)).map updR := by
  rw [List.drop_eq_getElem_cons h, List.map_cons]
set_option maxHeartbeats 1600000 in
set_option maxRecDepth 100000 in
theorem rStream_any (l : List RU) (A : Option Addr) (c : Nat) (hc : l.length ≤ c) (hl : l.length ≤ 1048576) (hk : ∀ x ∈ l, x.f3.f1.size ≤ 9223372036854775807) (w : World) (h : kRU.C w A l.length l) :
    Calls Try.prog 26 #[.slice A l.length c] w fun e w' => ∃ v, e = .returned (.tuple #[v, .int .i64 (strE (l.map updR))]) ∧ w'.ownsRow w.heap.size 5 1 v (strOut (l.map updR)).length (nums .u8 (strOut (l.map updR))) ∧ Below w.heap.size w w' := by
  have HR := Lib.hid h
  have HC := Lib.hid hc
  have HK := Lib.hid hk
  have hu38 := Try.underlying46
  clear h hc hk
  go_enter Try.func26, Try.ntmps26
  go_wp2
  go_loopg [4, 5] l.length (fun kq v4 v5 w' => ∃ (xs : List Int) (i : Nat), v5 = .int .i64 (i : Int) ∧ Hid (i + kq = l.length) ∧ Hid (xs.length ≤ i * 70100) ∧ Hid (w'.ownsRow w.heap.size 5 1 v4 xs.length (nums .u8 xs)) ∧ Hid (Below w.heap.size w w') ∧ Hid (StrGo xs (l.map updR) ((l.drop i).map updR)))
  case atStart => exact ⟨[], 0, rfl, (show _ + _ = _ by omega), Nat.zero_le _, own_nil _ _ _ _, Below.refl _ _, StrGo.start _⟩
  case round =>
    obtain ⟨xs, i, rfl, HI, HX, HO, HB, HG⟩ := hrel
    cases gk with
    | zero =>
      have hi := HI.out
      have c2 : decide (i < l.length) = false := by simp; omega
      have hf := HG.out
      rw [List.drop_eq_nil_of_le (by omega), List.map_nil] at hf
      have hf' := hf.fin
      have F := Lib.hid hf'
      clear hf hf' hi
      go_wp2
      go_ret2
      rw [F.out.1, F.out.2]
      exact ⟨_, rfl, HO.out, HB.out⟩
    | succ k1 =>
      have hi : i < l.length := by have := HI.out; omega
      have c2 : decide (i < l.length) = true := by simp; omega
      have hg := HG.out
      rw [drop_mapR hi] at hg
      have hx : l[i].f3.f1.size ≤ 9223372036854775807 := HK.out _ (List.getElem_mem hi)
      obtain ⟨ad229, e229, hx229_0, hx229_1, hx229_2, hx229_3, hx229_4, hx229_5, hx229_6⟩ := at_T46 HR.out (i : Int) (by omega) (by omega)
      cases e229
      simp only [Int.toNat_natCast] at hx229_0 hx229_1 hx229_2 hx229_3 hx229_4 hx229_5 hx229_6
      rw [rdR_get hi] at hx229_0 hx229_1 hx229_2 hx229_3 hx229_4 hx229_5 hx229_6
      generalize l[i] = x at *
      replace hx229_0 := (HB.out.cell (World.block_lt_of_cell? w _ hx229_0)).trans hx229_0
      replace hx229_1 := (HB.out.cell (World.block_lt_of_cell? w _ hx229_1)).trans hx229_1
      replace hx229_2 := (HB.out.cell (World.block_lt_of_cell? w _ hx229_2)).trans hx229_2
      replace hx229_3 := (HB.out.cell (World.block_lt_of_cell? w _ hx229_3)).trans hx229_3
      replace hx229_4 := (HB.out.cell (World.block_lt_of_cell? w _ hx229_4)).trans hx229_4
      replace hx229_5 := (HB.out.cell (World.block_lt_of_cell? w _ hx229_5)).trans hx229_5
      replace hx229_6 := (HB.out.cell (World.block_lt_of_cell? w _ hx229_6)).trans hx229_6
      have p229 := eq_true (show 0 ≤ (i : Int) by omega)
      have q229 := eq_true (show i < l.length by omega)
      have HG' := Lib.hid hg
      clear hg HG
      go_wp2_with fail
      refine (rEncode_one x hx _).mono ?_
      rintro e w1 ⟨v1, rfl, ho1, hb1⟩
      have HP := Lib.hid (own_apart HO.out ho1)
      have HB1 : Hid (Below w.heap.size w w1) := below_then HB.out HB.out.size hb1
      have HO1 : Hid (w1.ownsRow w.heap.size 5 1 u4 xs.length (nums .u8 xs)) := pw_own_below HO.out hb1
      by_cases hu : checkUpd (updR x) = 0
      · rw [encE_ok hu] at ho1
        rw [hu]
        have hn := encU_len hu
        have HG1 := Lib.hid (HG'.out.step hu)
        obtain ⟨A1, c1, rfl, _⟩ := own_reads ho1
        have HE := Lib.hid ho1
        have h10 := lebL_len10 (n := (encU (updR x)).length) (by omega)
        have hsz : lebs [(encU (updR x)).length] = lebL (encU (updR x)).length := by simp [lebs]
        have HS := Lib.hid hsz
        have hx0 := HX.out
        clear ho1 hb1 hu hsz HO HB HG'
        go_wp2_with fail
        refine (number_any (encU (updR x)).length (by omega) _).mono ?_
        rintro e w2 ⟨v2, rfl, ho2, hk2⟩
        have hb2 := below_then HB1.out HB1.out.size hk2
        obtain ⟨A2, c3, rfl, hr2⟩ := own_reads ho2
        have HR2 := Lib.hid hr2
        have HB2 := Lib.hid hb2
        have HO2 := Lib.hid (pw_own_below HO1.out hk2)
        have HE2 := Lib.hid (pw_own_below HE.out hk2)
        clear ho2 hb2 hk2 hr2
        go_wp2_with (first | (((with_reducible refine gate_builtin (b := .append) (xs := #[.tmp 25, .tmp 28]) rfl ?_); at_builtin; refine print_append_row (w0 := w) w.heap.size rfl (.tmp 25) (.tmp 28) 49 5 .u8 1 rfl Try.underlying49 info_u8 (by decide) u4 xs (lebL (encU (updR x)).length) A2 ((lebL (encU (updR x)).length)).length c3 rfl rfl HO2.out HR2.out HB2.out HB2.out.size (by omega) ?_; intro v3 w3 ho3 hb3 hg3 hat3; have HO3 := Lib.hid ho3; have HB3 := Lib.hid hb3; (have HG3 := Lib.hid hg3); (have HA3 := Lib.hid hat3); clear ho3 hb3 hg3 hat3); (have HE3 := Lib.hid (own_other HE2.out HG3.out HP.out)); (obtain ⟨A1', c1', e1', hr3⟩ := own_reads HE3.out); (cases e1'); (have HR3 := Lib.hid hr3); clear hr3) | (((with_reducible refine gate_builtin (b := .append) (xs := #[.tmp 30, .tmp 31]) rfl ?_); at_builtin; refine print_append_row (w0 := w) w.heap.size rfl (.tmp 30) (.tmp 31) 49 5 .u8 1 rfl Try.underlying49 info_u8 (by decide) v3 (xs ++ lebL (encU (updR x)).length) (encU (updR x)) A1 ((encU (updR x))).length c1 rfl rfl HO3.out HR3.out HB3.out HB3.out.size (by rw [List.length_append]; omega) ?_; intro v4 w4 ho4 hb4 hg4 hat4; have HO4 := Lib.hid ho4; have HB4 := Lib.hid hb4; (have HG4 := Lib.hid hg4); (have HA4 := Lib.hid hat4); clear ho4 hb4 hg4 hat4)))
        go_roundg k1
        case measure => exact Nat.lt_succ_self _
        case rel =>
          have hl2 : (xs ++ lebL (encU (updR x)).length ++ encU (updR x)).length ≤ (i + 1) * 70100 := by
            rw [List.length_append, List.length_append]; omega
          exact ⟨_, i + 1, (by simp [wrap64]), (by have h1 := HI.out; show _ + _ = _; omega), hl2, HO4.out, HB4.out, HG1.out⟩
      · obtain ⟨q, hq⟩ : ∃ q, checkUpd (updR x) = q := ⟨_, rfl⟩
        have hf := HG'.out.bad hu
        rw [hq] at hf hu ⊢
        have F := Lib.hid hf
        have hne : (q != 0) = true := by simpa using hu
        clear ho1 hb1 hu hq hf
        go_wp2
        go_ret2
        rw [F.out.1, F.out.2]
        exact ⟨_, rfl, own_nil _ _ _ _, HB1.out⟩
end Go.Proofs.Ytiboiociaedocaa.Str
