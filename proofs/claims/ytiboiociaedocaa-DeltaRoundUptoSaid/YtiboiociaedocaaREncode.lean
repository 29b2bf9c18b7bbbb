/- The document's Encode, by plain words. -/
import Derived.Test.YtiboiociaedocaaEncode
set_option linter.unusedVariables false
set_option linter.unusedSimpArgs false
namespace Go.Proofs.Ytiboiociaedocaa.Leb
open Go.RowKit Go.Proofs.Ytiboiociaedocaa.CutLeb Go.Proofs.YtiboiociaedocaaW.PrintWords Go.Proofs.Ytiboiociaedocaa.Byt Go.Proofs.Ytiboiociaedocaa.Mem Go.Proofs.Ytiboiociaedocaa.Chk Go.Proofs.Ytiboiociaedocaa.Opn
theorem number_any (n : Nat) (h : n < 9223372036854775808) (w : World) : Calls Try.prog 44 #[.int .i64 (n : Int)] w fun e w' => ∃ v, e = .returned v ∧ w'.ownsRow w.heap.size 5 1 v (lebL n).length (nums .u8 (lebL n)) ∧ Below w.heap.size w w' :=
  (hawserref08_number.calls 9 n (lebL n) w (number_eq n h)).mono fun e w' ⟨v, he, hr, hb⟩ => ⟨v, he, owns_of_R hr, hb⟩
theorem rtext_any (s : ByteArray) (h : s.size < 140737488355318) (w : World) : Calls Try.prog 45 #[.string s] w fun e w' => ∃ v, e = .returned v ∧ w'.ownsRow w.heap.size 5 1 v (strB s).length (nums .u8 (strB s)) ∧ Below w.heap.size w w' :=
  (hawserref08_text.calls 9 s (strB s) w (text_eq s h)).mono fun e w' ⟨v, he, hr, hb⟩ => ⟨v, he, owns_of_R hr, hb⟩
theorem rCheckUpd_yes {sq cl nu kd ver : Int} {key val : ByteArray} (hk : key.size ≤ 9223372036854775807) (h : checkUpd (sq, cl, nu, kd, key, val, ver) = 0) (w : World) :
    Calls Try.prog 21 #[.agg #[.int .i64 sq, .int .i64 cl, .int .i64 nu, .int .i64 kd, .string key, .string val, .int .i64 ver]] w fun e w' => e = .returned (.int .i64 0) ∧ Below w.heap.size w w' := by
  have := rCheckUpd_any sq cl nu kd ver key val hk w
  rwa [h] at this
set_option maxHeartbeats 800000 in
set_option maxRecDepth 100000 in
theorem rEncode_no (sq cl nu kd ver : Int) (key val : ByteArray) (hk : key.size ≤ 9223372036854775807) (w : World) (h : checkUpd (sq, cl, nu, kd, key, val, ver) ≠ 0) :
    Calls Try.prog 24 #[.agg #[.int .i64 sq, .int .i64 cl, .int .i64 nu, .int .i64 kd, .string key, .string val, .int .i64 ver]] w fun e w' => e = .returned (.tuple #[.slice none 0 0, .int .i64 (checkUpd (sq, cl, nu, kd, key, val, ver))]) ∧ Below w.heap.size w w' := by
  obtain ⟨c, hc⟩ : ∃ c, checkUpd (sq, cl, nu, kd, key, val, ver) = c := ⟨_, rfl⟩
  rw [hc] at h ⊢
  have HC := Lib.hid hc
  have hne : (c != 0) = true := by simpa using h
  clear hc h
  go_enter Try.func24, Try.ntmps24
  go_wp2_with fail
  refine (rCheckUpd_any _ _ _ _ _ _ _ hk _).mono ?_
  rintro e w1 ⟨rfl, hb1⟩
  rw [HC.out]
  go_wp2
  go_ret2
  exact ⟨rfl, below_then (below_alloc (Below.refl _ _) _) (below_size (below_alloc (Below.refl _ _) _)) hb1⟩
set_option maxHeartbeats 1600000 in
set_option maxRecDepth 100000 in
theorem rEncode_put (sq cl nu : Nat) (key val : ByteArray) (w : World) (h : checkUpd (sq, cl, nu, 1, key, val, 0) = 0) :
    Calls Try.prog 24 #[.agg #[.int .i64 sq, .int .i64 cl, .int .i64 nu, .int .i64 1, .string key, .string val, .int .i64 0]] w fun e w' => ∃ v, e = .returned (.tuple #[v, .int .i64 0]) ∧ w'.ownsRow w.heap.size 5 1 v ([] ++ lebL sq ++ lebL cl ++ lebL nu ++ lebL 1 ++ strB key ++ strB val).length (nums .u8 ([] ++ lebL sq ++ lebL cl ++ lebL nu ++ lebL 1 ++ strB key ++ strB val)) ∧ Below w.heap.size w w' := by
  obtain ⟨b1, b2, b3, b4, b5, b6, _, _, b9, b10, b12, b13, _⟩ := checkUpd_bounds h
  have b11 := isUser_bounds b9
  simp only at b1 b2 b3 b4 b5 b6 b10 b11
  clear b12 b13
  have HC := Lib.hid h
  clear h b9
  go_enter Try.func24, Try.ntmps24
  go_wp2_with fail
  refine (rCheckUpd_yes (by omega) HC.out _).mono ?_
  rintro e w1 ⟨rfl, hb1⟩
  have HB := Lib.hid (below_then (below_alloc (Below.refl w.heap.size w) (.cells #[.int .i64 sq, .int .i64 cl, .int .i64 nu, .int .i64 1, .string key, .string val, .int .i64 0] 46)) (below_size (below_alloc (Below.refl _ _) _)) hb1)
  have B := Lib.hid (blk_below (blk_new w (.cells #[.int .i64 sq, .int .i64 cl, .int .i64 nu, .int .i64 1, .string key, .string val, .int .i64 0] 46)) hb1)
  have c1 := blkc B.out
  clear hb1
  have HO := Lib.hid (own_nil w1 w.heap.size 5 1)
  go_wp2_with fail
  refine (number_any sq (by omega) _).mono ?_
  have l2 := lebL_len10 (n := sq) (by omega)
  rintro e x2 ⟨y2, rfl, hy2, hk2⟩
  obtain ⟨A2, q2, rfl, hr2⟩ := own_reads hy2
  have HR := Lib.hid hr2
  have HO := Lib.hid (pw_own_below HO.out hk2)
  have B := Lib.hid (blk_below B.out hk2)
  have HB := Lib.hid (below_then HB.out HB.out.size hk2)
  clear hy2 hr2 hk2 c1
  have c1 := blkc B.out
  go_wp2_with (((with_reducible refine gate_builtin (b := .append) (xs := #[.tmp 11, .tmp 14]) rfl ?_); at_builtin; refine print_append_row (w0 := w) w.heap.size rfl (.tmp 11) (.tmp 14) 49 5 .u8 1 rfl Try.underlying49 info_u8 (by decide) (.slice none 0 0) ([]) (lebL sq) A2 (lebL sq).length q2 rfl rfl HO.out HR.out HB.out HB.out.size (by simp only [List.length_append, List.length_nil]; omega) ?_; intro v2 z2 ho hb hg hat; have B := Lib.hid (blk_grown B.out hg (own_ne HO.out B.out (by decide))); have HO := Lib.hid ho; have HB := Lib.hid hb; clear ho hb hg hat c1; have c1 := blkc B.out; clear HR))
  go_wp2_with fail
  refine (number_any cl (by omega) _).mono ?_
  have l3 := lebL_len10 (n := cl) (by omega)
  rintro e x3 ⟨y3, rfl, hy3, hk3⟩
  obtain ⟨A3, q3, rfl, hr3⟩ := own_reads hy3
  have HR := Lib.hid hr3
  have HO := Lib.hid (pw_own_below HO.out hk3)
  have B := Lib.hid (blk_below B.out hk3)
  have HB := Lib.hid (below_then HB.out HB.out.size hk3)
  clear hy3 hr3 hk3 c1
  have c1 := blkc B.out
  go_wp2_with (((with_reducible refine gate_builtin (b := .append) (xs := #[.tmp 16, .tmp 19]) rfl ?_); at_builtin; refine print_append_row (w0 := w) w.heap.size rfl (.tmp 16) (.tmp 19) 49 5 .u8 1 rfl Try.underlying49 info_u8 (by decide) v2 ([] ++ lebL sq) (lebL cl) A3 (lebL cl).length q3 rfl rfl HO.out HR.out HB.out HB.out.size (by simp only [List.length_append, List.length_nil]; omega) ?_; intro v3 z3 ho hb hg hat; have B := Lib.hid (blk_grown B.out hg (own_ne HO.out B.out (by decide))); have HO := Lib.hid ho; have HB := Lib.hid hb; clear ho hb hg hat c1; have c1 := blkc B.out; clear HR))
  go_wp2_with fail
  refine (number_any nu (by omega) _).mono ?_
  have l4 := lebL_len10 (n := nu) (by omega)
  rintro e x4 ⟨y4, rfl, hy4, hk4⟩
  obtain ⟨A4, q4, rfl, hr4⟩ := own_reads hy4
  have HR := Lib.hid hr4
  have HO := Lib.hid (pw_own_below HO.out hk4)
  have B := Lib.hid (blk_below B.out hk4)
  have HB := Lib.hid (below_then HB.out HB.out.size hk4)
  clear hy4 hr4 hk4 c1
  have c1 := blkc B.out
  go_wp2_with (((with_reducible refine gate_builtin (b := .append) (xs := #[.tmp 21, .tmp 24]) rfl ?_); at_builtin; refine print_append_row (w0 := w) w.heap.size rfl (.tmp 21) (.tmp 24) 49 5 .u8 1 rfl Try.underlying49 info_u8 (by decide) v3 ([] ++ lebL sq ++ lebL cl) (lebL nu) A4 (lebL nu).length q4 rfl rfl HO.out HR.out HB.out HB.out.size (by simp only [List.length_append, List.length_nil]; omega) ?_; intro v4 z4 ho hb hg hat; have B := Lib.hid (blk_grown B.out hg (own_ne HO.out B.out (by decide))); have HO := Lib.hid ho; have HB := Lib.hid hb; clear ho hb hg hat c1; have c1 := blkc B.out; clear HR))
  go_wp2_with fail
  refine (number_any 1 (by omega) _).mono ?_
  have l5 := lebL_len10 (n := 1) (by omega)
  rintro e x5 ⟨y5, rfl, hy5, hk5⟩
  obtain ⟨A5, q5, rfl, hr5⟩ := own_reads hy5
  have HR := Lib.hid hr5
  have HO := Lib.hid (pw_own_below HO.out hk5)
  have B := Lib.hid (blk_below B.out hk5)
  have HB := Lib.hid (below_then HB.out HB.out.size hk5)
  clear hy5 hr5 hk5 c1
  have c1 := blkc B.out
  go_wp2_with (((with_reducible refine gate_builtin (b := .append) (xs := #[.tmp 26, .tmp 30]) rfl ?_); at_builtin; refine print_append_row (w0 := w) w.heap.size rfl (.tmp 26) (.tmp 30) 49 5 .u8 1 rfl Try.underlying49 info_u8 (by decide) v4 ([] ++ lebL sq ++ lebL cl ++ lebL nu) (lebL 1) A5 (lebL 1).length q5 rfl rfl HO.out HR.out HB.out HB.out.size (by simp only [List.length_append, List.length_nil]; omega) ?_; intro v5 z5 ho hb hg hat; have B := Lib.hid (blk_grown B.out hg (own_ne HO.out B.out (by decide))); have HO := Lib.hid ho; have HB := Lib.hid hb; clear ho hb hg hat c1; have c1 := blkc B.out; clear HR))
  go_wp2_with fail
  refine (rtext_any key (by omega) _).mono ?_
  have l6 := strB_len key (by omega)
  rintro e x6 ⟨y6, rfl, hy6, hk6⟩
  obtain ⟨A6, q6, rfl, hr6⟩ := own_reads hy6
  have HR := Lib.hid hr6
  have HO := Lib.hid (pw_own_below HO.out hk6)
  have B := Lib.hid (blk_below B.out hk6)
  have HB := Lib.hid (below_then HB.out HB.out.size hk6)
  clear hy6 hr6 hk6 c1
  have c1 := blkc B.out
  go_wp2_with (((with_reducible refine gate_builtin (b := .append) (xs := #[.tmp 32, .tmp 36]) rfl ?_); at_builtin; refine print_append_row (w0 := w) w.heap.size rfl (.tmp 32) (.tmp 36) 49 5 .u8 1 rfl Try.underlying49 info_u8 (by decide) v5 ([] ++ lebL sq ++ lebL cl ++ lebL nu ++ lebL 1) (strB key) A6 (strB key).length q6 rfl rfl HO.out HR.out HB.out HB.out.size (by simp only [List.length_append, List.length_nil]; omega) ?_; intro v6 z6 ho hb hg hat; have B := Lib.hid (blk_grown B.out hg (own_ne HO.out B.out (by decide))); have HO := Lib.hid ho; have HB := Lib.hid hb; clear ho hb hg hat c1; have c1 := blkc B.out; clear HR))
  go_wp2_with fail
  refine (rtext_any val (by omega) _).mono ?_
  have l7 := strB_len val (by omega)
  rintro e x7 ⟨y7, rfl, hy7, hk7⟩
  obtain ⟨A7, q7, rfl, hr7⟩ := own_reads hy7
  have HR := Lib.hid hr7
  have HO := Lib.hid (pw_own_below HO.out hk7)
  have B := Lib.hid (blk_below B.out hk7)
  have HB := Lib.hid (below_then HB.out HB.out.size hk7)
  clear hy7 hr7 hk7 c1
  have c1 := blkc B.out
  go_wp2_with (((with_reducible refine gate_builtin (b := .append) (xs := #[.tmp 42, .tmp 46]) rfl ?_); at_builtin; refine print_append_row (w0 := w) w.heap.size rfl (.tmp 42) (.tmp 46) 49 5 .u8 1 rfl Try.underlying49 info_u8 (by decide) v6 ([] ++ lebL sq ++ lebL cl ++ lebL nu ++ lebL 1 ++ strB key) (strB val) A7 (strB val).length q7 rfl rfl HO.out HR.out HB.out HB.out.size (by simp only [List.length_append, List.length_nil]; omega) ?_; intro v7 z7 ho hb hg hat; have B := Lib.hid (blk_grown B.out hg (own_ne HO.out B.out (by decide))); have HO := Lib.hid ho; have HB := Lib.hid hb; clear ho hb hg hat c1; have c1 := blkc B.out; clear HR))
  go_ret2
  exact ⟨_, rfl, HO.out, HB.out⟩
set_option maxHeartbeats 1600000 in
set_option maxRecDepth 100000 in
theorem rEncode_del (sq cl nu : Nat) (key val : ByteArray) (w : World) (h : checkUpd (sq, cl, nu, 2, key, val, 0) = 0) :
    Calls Try.prog 24 #[.agg #[.int .i64 sq, .int .i64 cl, .int .i64 nu, .int .i64 2, .string key, .string val, .int .i64 0]] w fun e w' => ∃ v, e = .returned (.tuple #[v, .int .i64 0]) ∧ w'.ownsRow w.heap.size 5 1 v ([] ++ lebL sq ++ lebL cl ++ lebL nu ++ lebL 2 ++ strB key).length (nums .u8 ([] ++ lebL sq ++ lebL cl ++ lebL nu ++ lebL 2 ++ strB key)) ∧ Below w.heap.size w w' := by
  obtain ⟨b1, b2, b3, b4, b5, b6, _, _, b9, b10, b12, b13, _⟩ := checkUpd_bounds h
  have b11 := isUser_bounds b9
  simp only at b1 b2 b3 b4 b5 b6 b10 b11
  clear b12 b13
  have HC := Lib.hid h
  clear h b9
  go_enter Try.func24, Try.ntmps24
  go_wp2_with fail
  refine (rCheckUpd_yes (by omega) HC.out _).mono ?_
  rintro e w1 ⟨rfl, hb1⟩
  have HB := Lib.hid (below_then (below_alloc (Below.refl w.heap.size w) (.cells #[.int .i64 sq, .int .i64 cl, .int .i64 nu, .int .i64 2, .string key, .string val, .int .i64 0] 46)) (below_size (below_alloc (Below.refl _ _) _)) hb1)
  have B := Lib.hid (blk_below (blk_new w (.cells #[.int .i64 sq, .int .i64 cl, .int .i64 nu, .int .i64 2, .string key, .string val, .int .i64 0] 46)) hb1)
  have c1 := blkc B.out
  clear hb1
  have HO := Lib.hid (own_nil w1 w.heap.size 5 1)
  go_wp2_with fail
  refine (number_any sq (by omega) _).mono ?_
  have l2 := lebL_len10 (n := sq) (by omega)
  rintro e x2 ⟨y2, rfl, hy2, hk2⟩
  obtain ⟨A2, q2, rfl, hr2⟩ := own_reads hy2
  have HR := Lib.hid hr2
  have HO := Lib.hid (pw_own_below HO.out hk2)
  have B := Lib.hid (blk_below B.out hk2)
  have HB := Lib.hid (below_then HB.out HB.out.size hk2)
  clear hy2 hr2 hk2 c1
  have c1 := blkc B.out
  go_wp2_with (((with_reducible refine gate_builtin (b := .append) (xs := #[.tmp 11, .tmp 14]) rfl ?_); at_builtin; refine print_append_row (w0 := w) w.heap.size rfl (.tmp 11) (.tmp 14) 49 5 .u8 1 rfl Try.underlying49 info_u8 (by decide) (.slice none 0 0) ([]) (lebL sq) A2 (lebL sq).length q2 rfl rfl HO.out HR.out HB.out HB.out.size (by simp only [List.length_append, List.length_nil]; omega) ?_; intro v2 z2 ho hb hg hat; have B := Lib.hid (blk_grown B.out hg (own_ne HO.out B.out (by decide))); have HO := Lib.hid ho; have HB := Lib.hid hb; clear ho hb hg hat c1; have c1 := blkc B.out; clear HR))
  go_wp2_with fail
  refine (number_any cl (by omega) _).mono ?_
  have l3 := lebL_len10 (n := cl) (by omega)
  rintro e x3 ⟨y3, rfl, hy3, hk3⟩
  obtain ⟨A3, q3, rfl, hr3⟩ := own_reads hy3
  have HR := Lib.hid hr3
  have HO := Lib.hid (pw_own_below HO.out hk3)
  have B := Lib.hid (blk_below B.out hk3)
  have HB := Lib.hid (below_then HB.out HB.out.size hk3)
  clear hy3 hr3 hk3 c1
  have c1 := blkc B.out
  go_wp2_with (((with_reducible refine gate_builtin (b := .append) (xs := #[.tmp 16, .tmp 19]) rfl ?_); at_builtin; refine print_append_row (w0 := w) w.heap.size rfl (.tmp 16) (.tmp 19) 49 5 .u8 1 rfl Try.underlying49 info_u8 (by decide) v2 ([] ++ lebL sq) (lebL cl) A3 (lebL cl).length q3 rfl rfl HO.out HR.out HB.out HB.out.size (by simp only [List.length_append, List.length_nil]; omega) ?_; intro v3 z3 ho hb hg hat; have B := Lib.hid (blk_grown B.out hg (own_ne HO.out B.out (by decide))); have HO := Lib.hid ho; have HB := Lib.hid hb; clear ho hb hg hat c1; have c1 := blkc B.out; clear HR))
  go_wp2_with fail
  refine (number_any nu (by omega) _).mono ?_
  have l4 := lebL_len10 (n := nu) (by omega)
  rintro e x4 ⟨y4, rfl, hy4, hk4⟩
  obtain ⟨A4, q4, rfl, hr4⟩ := own_reads hy4
  have HR := Lib.hid hr4
  have HO := Lib.hid (pw_own_below HO.out hk4)
  have B := Lib.hid (blk_below B.out hk4)
  have HB := Lib.hid (below_then HB.out HB.out.size hk4)
  clear hy4 hr4 hk4 c1
  have c1 := blkc B.out
  go_wp2_with (((with_reducible refine gate_builtin (b := .append) (xs := #[.tmp 21, .tmp 24]) rfl ?_); at_builtin; refine print_append_row (w0 := w) w.heap.size rfl (.tmp 21) (.tmp 24) 49 5 .u8 1 rfl Try.underlying49 info_u8 (by decide) v3 ([] ++ lebL sq ++ lebL cl) (lebL nu) A4 (lebL nu).length q4 rfl rfl HO.out HR.out HB.out HB.out.size (by simp only [List.length_append, List.length_nil]; omega) ?_; intro v4 z4 ho hb hg hat; have B := Lib.hid (blk_grown B.out hg (own_ne HO.out B.out (by decide))); have HO := Lib.hid ho; have HB := Lib.hid hb; clear ho hb hg hat c1; have c1 := blkc B.out; clear HR))
  go_wp2_with fail
  refine (number_any 2 (by omega) _).mono ?_
  have l5 := lebL_len10 (n := 2) (by omega)
  rintro e x5 ⟨y5, rfl, hy5, hk5⟩
  obtain ⟨A5, q5, rfl, hr5⟩ := own_reads hy5
  have HR := Lib.hid hr5
  have HO := Lib.hid (pw_own_below HO.out hk5)
  have B := Lib.hid (blk_below B.out hk5)
  have HB := Lib.hid (below_then HB.out HB.out.size hk5)
  clear hy5 hr5 hk5 c1
  have c1 := blkc B.out
  go_wp2_with (((with_reducible refine gate_builtin (b := .append) (xs := #[.tmp 26, .tmp 30]) rfl ?_); at_builtin; refine print_append_row (w0 := w) w.heap.size rfl (.tmp 26) (.tmp 30) 49 5 .u8 1 rfl Try.underlying49 info_u8 (by decide) v4 ([] ++ lebL sq ++ lebL cl ++ lebL nu) (lebL 2) A5 (lebL 2).length q5 rfl rfl HO.out HR.out HB.out HB.out.size (by simp only [List.length_append, List.length_nil]; omega) ?_; intro v5 z5 ho hb hg hat; have B := Lib.hid (blk_grown B.out hg (own_ne HO.out B.out (by decide))); have HO := Lib.hid ho; have HB := Lib.hid hb; clear ho hb hg hat c1; have c1 := blkc B.out; clear HR))
  go_wp2_with fail
  refine (rtext_any key (by omega) _).mono ?_
  have l6 := strB_len key (by omega)
  rintro e x6 ⟨y6, rfl, hy6, hk6⟩
  obtain ⟨A6, q6, rfl, hr6⟩ := own_reads hy6
  have HR := Lib.hid hr6
  have HO := Lib.hid (pw_own_below HO.out hk6)
  have B := Lib.hid (blk_below B.out hk6)
  have HB := Lib.hid (below_then HB.out HB.out.size hk6)
  clear hy6 hr6 hk6 c1
  have c1 := blkc B.out
  go_wp2_with (((with_reducible refine gate_builtin (b := .append) (xs := #[.tmp 32, .tmp 36]) rfl ?_); at_builtin; refine print_append_row (w0 := w) w.heap.size rfl (.tmp 32) (.tmp 36) 49 5 .u8 1 rfl Try.underlying49 info_u8 (by decide) v5 ([] ++ lebL sq ++ lebL cl ++ lebL nu ++ lebL 2) (strB key) A6 (strB key).length q6 rfl rfl HO.out HR.out HB.out HB.out.size (by simp only [List.length_append, List.length_nil]; omega) ?_; intro v6 z6 ho hb hg hat; have B := Lib.hid (blk_grown B.out hg (own_ne HO.out B.out (by decide))); have HO := Lib.hid ho; have HB := Lib.hid hb; clear ho hb hg hat c1; have c1 := blkc B.out; clear HR))
  go_ret2
  exact ⟨_, rfl, HO.out, HB.out⟩
set_option maxHeartbeats 1600000 in
set_option maxRecDepth 100000 in
theorem rEncode_cas (sq cl nu ver : Nat) (key val : ByteArray) (w : World) (h : checkUpd (sq, cl, nu, 3, key, val, ver) = 0) :
    Calls Try.prog 24 #[.agg #[.int .i64 sq, .int .i64 cl, .int .i64 nu, .int .i64 3, .string key, .string val, .int .i64 ver]] w fun e w' => ∃ v, e = .returned (.tuple #[v, .int .i64 0]) ∧ w'.ownsRow w.heap.size 5 1 v ([] ++ lebL sq ++ lebL cl ++ lebL nu ++ lebL 3 ++ strB key ++ strB val ++ lebL ver).length (nums .u8 ([] ++ lebL sq ++ lebL cl ++ lebL nu ++ lebL 3 ++ strB key ++ strB val ++ lebL ver)) ∧ Below w.heap.size w w' := by
  obtain ⟨b1, b2, b3, b4, b5, b6, _, _, b9, b10, b12, b13, _⟩ := checkUpd_bounds h
  have b11 := isUser_bounds b9
  simp only at b1 b2 b3 b4 b5 b6 b10 b11 b12 b13
  have HC := Lib.hid h
  clear h b9
  go_enter Try.func24, Try.ntmps24
  go_wp2_with fail
  refine (rCheckUpd_yes (by omega) HC.out _).mono ?_
  rintro e w1 ⟨rfl, hb1⟩
  have HB := Lib.hid (below_then (below_alloc (Below.refl w.heap.size w) (.cells #[.int .i64 sq, .int .i64 cl, .int .i64 nu, .int .i64 3, .string key, .string val, .int .i64 ver] 46)) (below_size (below_alloc (Below.refl _ _) _)) hb1)
  have B := Lib.hid (blk_below (blk_new w (.cells #[.int .i64 sq, .int .i64 cl, .int .i64 nu, .int .i64 3, .string key, .string val, .int .i64 ver] 46)) hb1)
  have c1 := blkc B.out
  clear hb1
  have HO := Lib.hid (own_nil w1 w.heap.size 5 1)
  go_wp2_with fail
  refine (number_any sq (by omega) _).mono ?_
  have l2 := lebL_len10 (n := sq) (by omega)
  rintro e x2 ⟨y2, rfl, hy2, hk2⟩
  obtain ⟨A2, q2, rfl, hr2⟩ := own_reads hy2
  have HR := Lib.hid hr2
  have HO := Lib.hid (pw_own_below HO.out hk2)
  have B := Lib.hid (blk_below B.out hk2)
  have HB := Lib.hid (below_then HB.out HB.out.size hk2)
  clear hy2 hr2 hk2 c1
  have c1 := blkc B.out
  go_wp2_with (((with_reducible refine gate_builtin (b := .append) (xs := #[.tmp 11, .tmp 14]) rfl ?_); at_builtin; refine print_append_row (w0 := w) w.heap.size rfl (.tmp 11) (.tmp 14) 49 5 .u8 1 rfl Try.underlying49 info_u8 (by decide) (.slice none 0 0) ([]) (lebL sq) A2 (lebL sq).length q2 rfl rfl HO.out HR.out HB.out HB.out.size (by simp only [List.length_append, List.length_nil]; omega) ?_; intro v2 z2 ho hb hg hat; have B := Lib.hid (blk_grown B.out hg (own_ne HO.out B.out (by decide))); have HO := Lib.hid ho; have HB := Lib.hid hb; clear ho hb hg hat c1; have c1 := blkc B.out; clear HR))
  go_wp2_with fail
  refine (number_any cl (by omega) _).mono ?_
  have l3 := lebL_len10 (n := cl) (by omega)
  rintro e x3 ⟨y3, rfl, hy3, hk3⟩
  obtain ⟨A3, q3, rfl, hr3⟩ := own_reads hy3
  have HR := Lib.hid hr3
  have HO := Lib.hid (pw_own_below HO.out hk3)
  have B := Lib.hid (blk_below B.out hk3)
  have HB := Lib.hid (below_then HB.out HB.out.size hk3)
  clear hy3 hr3 hk3 c1
  have c1 := blkc B.out
  go_wp2_with (((with_reducible refine gate_builtin (b := .append) (xs := #[.tmp 16, .tmp 19]) rfl ?_); at_builtin; refine print_append_row (w0 := w) w.heap.size rfl (.tmp 16) (.tmp 19) 49 5 .u8 1 rfl Try.underlying49 info_u8 (by decide) v2 ([] ++ lebL sq) (lebL cl) A3 (lebL cl).length q3 rfl rfl HO.out HR.out HB.out HB.out.size (by simp only [List.length_append, List.length_nil]; omega) ?_; intro v3 z3 ho hb hg hat; have B := Lib.hid (blk_grown B.out hg (own_ne HO.out B.out (by decide))); have HO := Lib.hid ho; have HB := Lib.hid hb; clear ho hb hg hat c1; have c1 := blkc B.out; clear HR))
  go_wp2_with fail
  refine (number_any nu (by omega) _).mono ?_
  have l4 := lebL_len10 (n := nu) (by omega)
  rintro e x4 ⟨y4, rfl, hy4, hk4⟩
  obtain ⟨A4, q4, rfl, hr4⟩ := own_reads hy4
  have HR := Lib.hid hr4
  have HO := Lib.hid (pw_own_below HO.out hk4)
  have B := Lib.hid (blk_below B.out hk4)
  have HB := Lib.hid (below_then HB.out HB.out.size hk4)
  clear hy4 hr4 hk4 c1
  have c1 := blkc B.out
  go_wp2_with (((with_reducible refine gate_builtin (b := .append) (xs := #[.tmp 21, .tmp 24]) rfl ?_); at_builtin; refine print_append_row (w0 := w) w.heap.size rfl (.tmp 21) (.tmp 24) 49 5 .u8 1 rfl Try.underlying49 info_u8 (by decide) v3 ([] ++ lebL sq ++ lebL cl) (lebL nu) A4 (lebL nu).length q4 rfl rfl HO.out HR.out HB.out HB.out.size (by simp only [List.length_append, List.length_nil]; omega) ?_; intro v4 z4 ho hb hg hat; have B := Lib.hid (blk_grown B.out hg (own_ne HO.out B.out (by decide))); have HO := Lib.hid ho; have HB := Lib.hid hb; clear ho hb hg hat c1; have c1 := blkc B.out; clear HR))
  go_wp2_with fail
  refine (number_any 3 (by omega) _).mono ?_
  have l5 := lebL_len10 (n := 3) (by omega)
  rintro e x5 ⟨y5, rfl, hy5, hk5⟩
  obtain ⟨A5, q5, rfl, hr5⟩ := own_reads hy5
  have HR := Lib.hid hr5
  have HO := Lib.hid (pw_own_below HO.out hk5)
  have B := Lib.hid (blk_below B.out hk5)
  have HB := Lib.hid (below_then HB.out HB.out.size hk5)
  clear hy5 hr5 hk5 c1
  have c1 := blkc B.out
  go_wp2_with (((with_reducible refine gate_builtin (b := .append) (xs := #[.tmp 26, .tmp 30]) rfl ?_); at_builtin; refine print_append_row (w0 := w) w.heap.size rfl (.tmp 26) (.tmp 30) 49 5 .u8 1 rfl Try.underlying49 info_u8 (by decide) v4 ([] ++ lebL sq ++ lebL cl ++ lebL nu) (lebL 3) A5 (lebL 3).length q5 rfl rfl HO.out HR.out HB.out HB.out.size (by simp only [List.length_append, List.length_nil]; omega) ?_; intro v5 z5 ho hb hg hat; have B := Lib.hid (blk_grown B.out hg (own_ne HO.out B.out (by decide))); have HO := Lib.hid ho; have HB := Lib.hid hb; clear ho hb hg hat c1; have c1 := blkc B.out; clear HR))
  go_wp2_with fail
  refine (rtext_any key (by omega) _).mono ?_
  have l6 := strB_len key (by omega)
  rintro e x6 ⟨y6, rfl, hy6, hk6⟩
  obtain ⟨A6, q6, rfl, hr6⟩ := own_reads hy6
  have HR := Lib.hid hr6
  have HO := Lib.hid (pw_own_below HO.out hk6)
  have B := Lib.hid (blk_below B.out hk6)
  have HB := Lib.hid (below_then HB.out HB.out.size hk6)
  clear hy6 hr6 hk6 c1
  have c1 := blkc B.out
  go_wp2_with (((with_reducible refine gate_builtin (b := .append) (xs := #[.tmp 32, .tmp 36]) rfl ?_); at_builtin; refine print_append_row (w0 := w) w.heap.size rfl (.tmp 32) (.tmp 36) 49 5 .u8 1 rfl Try.underlying49 info_u8 (by decide) v5 ([] ++ lebL sq ++ lebL cl ++ lebL nu ++ lebL 3) (strB key) A6 (strB key).length q6 rfl rfl HO.out HR.out HB.out HB.out.size (by simp only [List.length_append, List.length_nil]; omega) ?_; intro v6 z6 ho hb hg hat; have B := Lib.hid (blk_grown B.out hg (own_ne HO.out B.out (by decide))); have HO := Lib.hid ho; have HB := Lib.hid hb; clear ho hb hg hat c1; have c1 := blkc B.out; clear HR))
  go_wp2_with fail
  refine (rtext_any val (by omega) _).mono ?_
  have l7 := strB_len val (by omega)
  rintro e x7 ⟨y7, rfl, hy7, hk7⟩
  obtain ⟨A7, q7, rfl, hr7⟩ := own_reads hy7
  have HR := Lib.hid hr7
  have HO := Lib.hid (pw_own_below HO.out hk7)
  have B := Lib.hid (blk_below B.out hk7)
  have HB := Lib.hid (below_then HB.out HB.out.size hk7)
  clear hy7 hr7 hk7 c1
  have c1 := blkc B.out
  go_wp2_with (((with_reducible refine gate_builtin (b := .append) (xs := #[.tmp 42, .tmp 46]) rfl ?_); at_builtin; refine print_append_row (w0 := w) w.heap.size rfl (.tmp 42) (.tmp 46) 49 5 .u8 1 rfl Try.underlying49 info_u8 (by decide) v6 ([] ++ lebL sq ++ lebL cl ++ lebL nu ++ lebL 3 ++ strB key) (strB val) A7 (strB val).length q7 rfl rfl HO.out HR.out HB.out HB.out.size (by simp only [List.length_append, List.length_nil]; omega) ?_; intro v7 z7 ho hb hg hat; have B := Lib.hid (blk_grown B.out hg (own_ne HO.out B.out (by decide))); have HO := Lib.hid ho; have HB := Lib.hid hb; clear ho hb hg hat c1; have c1 := blkc B.out; clear HR))
  go_wp2_with fail
  refine (number_any ver (by omega) _).mono ?_
  have l8 := lebL_len10 (n := ver) (by omega)
  rintro e x8 ⟨y8, rfl, hy8, hk8⟩
  obtain ⟨A8, q8, rfl, hr8⟩ := own_reads hy8
  have HR := Lib.hid hr8
  have HO := Lib.hid (pw_own_below HO.out hk8)
  have B := Lib.hid (blk_below B.out hk8)
  have HB := Lib.hid (below_then HB.out HB.out.size hk8)
  clear hy8 hr8 hk8 c1
  have c1 := blkc B.out
  go_wp2_with (((with_reducible refine gate_builtin (b := .append) (xs := #[.tmp 52, .tmp 56]) rfl ?_); at_builtin; refine print_append_row (w0 := w) w.heap.size rfl (.tmp 52) (.tmp 56) 49 5 .u8 1 rfl Try.underlying49 info_u8 (by decide) v7 ([] ++ lebL sq ++ lebL cl ++ lebL nu ++ lebL 3 ++ strB key ++ strB val) (lebL ver) A8 (lebL ver).length q8 rfl rfl HO.out HR.out HB.out HB.out.size (by simp only [List.length_append, List.length_nil]; omega) ?_; intro v8 z8 ho hb hg hat; have B := Lib.hid (blk_grown B.out hg (own_ne HO.out B.out (by decide))); have HO := Lib.hid ho; have HB := Lib.hid hb; clear ho hb hg hat c1; have c1 := blkc B.out; clear HR))
  go_ret2
  exact ⟨_, rfl, HO.out, HB.out⟩
end Go.Proofs.Ytiboiociaedocaa.Leb
