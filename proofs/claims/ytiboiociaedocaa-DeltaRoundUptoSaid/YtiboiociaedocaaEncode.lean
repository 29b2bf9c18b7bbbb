/- delta.Encode, by plain words. -/
import Derived.Test.YtiboiociaedocaaText
set_option linter.unusedVariables false
set_option linter.unusedSimpArgs false
namespace Go.Proofs.Ytiboiociaedocaa.Leb
open Go.RowKit Go.Proofs.Ytiboiociaedocaa.CutLeb Go.Proofs.YtiboiociaedocaaW.PrintWords Go.Proofs.Ytiboiociaedocaa.Byt Go.Proofs.Ytiboiociaedocaa.Mem Go.Proofs.Ytiboiociaedocaa.Chk Go.Proofs.Ytiboiociaedocaa.Opn
def strB (s : ByteArray) : List Int := lebL s.size ++ bytesOf s
/-- An update's bytes. -/
def encU (u : UpdT) : List Int :=
  lebs [u.1.toNat, u.2.1.toNat, u.2.2.1.toNat, u.2.2.2.1.toNat] ++ (strB u.2.2.2.2.1 ++ ((if u.2.2.2.1 = 2 then [] else strB u.2.2.2.2.2.1) ++ (if u.2.2.2.1 = 3 then lebL u.2.2.2.2.2.2.toNat else [])))
theorem checkUpd_bounds {u : UpdT} (h : checkUpd u = 0) : 1 ≤ u.1 ∧ u.1 ≤ 1152921504606846976 ∧ 1 ≤ u.2.1 ∧ u.2.1 ≤ 16 ∧ 1 ≤ u.2.2.1 ∧ u.2.2.1 ≤ 1152921504606846976 ∧ 1 ≤ u.2.2.2.1 ∧ u.2.2.2.1 ≤ 3 ∧
    isUserB u.2.2.2.2.1 = true ∧ (u.2.2.2.2.2.1.size : Int) ≤ 65536 ∧ 0 ≤ u.2.2.2.2.2.2 ∧ u.2.2.2.2.2.2 ≤ 1152921504606846976 ∧ (u.2.2.2.1 = 2 → u.2.2.2.2.2.1.toList = []) ∧ (u.2.2.2.1 ≠ 3 → u.2.2.2.2.2.2 = 0) := by
  obtain ⟨sq, cl, nu, kd, key, val, ver⟩ := u
  simp only [checkUpd, checkOp] at h
  split at h; · omega
  split at h; · omega
  split at h; · omega
  split at h; · omega
  split at h; · omega
  split at h; · omega
  split at h; · omega
  rename_i h1 h2 h3 h4 h5 h6 h7
  dsimp only
  refine ⟨by omega, by omega, by omega, by omega, by omega, by omega, by omega, by omega, by simpa using h5, by omega, by omega, by omega, fun e => ?_, fun e => ?_⟩
  · exact Classical.byContradiction fun hn => h6 (.inr ⟨e, hn⟩)
  · exact Classical.byContradiction fun hn => h7 (.inr (.inr ⟨e, hn⟩))
theorem isUser_bounds {k : ByteArray} (h : isUserB k = true) : 1 ≤ k.size ∧ k.size ≤ 1024 := by
  simp only [isUserB, Bool.and_eq_true, decide_eq_true_eq] at h
  omega
theorem checkUpd_yes {sq cl nu kd ver : Int} {key val : ByteArray} (hk : key.size ≤ 9223372036854775807) (h : checkUpd (sq, cl, nu, kd, key, val, ver) = 0) (w : World) :
    Calls Try.prog 20 #[.agg #[.int .i64 sq, .int .i64 cl, .int .i64 nu, .int .i64 kd, .string key, .string val, .int .i64 ver]] w fun e w' => e = .returned (.int .i64 0) ∧ Below w.heap.size w w' := by
  have := checkUpd_any sq cl nu kd ver key val hk w
  rwa [h] at this
set_option maxHeartbeats 800000 in
set_option maxRecDepth 100000 in
theorem encode_no (sq cl nu kd ver : Int) (key val : ByteArray) (hk : key.size ≤ 9223372036854775807) (w : World) (h : checkUpd (sq, cl, nu, kd, key, val, ver) ≠ 0) :
    Calls Try.prog 23 #[.agg #[.int .i64 sq, .int .i64 cl, .int .i64 nu, .int .i64 kd, .string key, .string val, .int .i64 ver]] w fun e w' => e = .returned (.tuple #[.slice none 0 0, .int .i64 (checkUpd (sq, cl, nu, kd, key, val, ver))]) ∧ Below w.heap.size w w' := by
  obtain ⟨c, hc⟩ : ∃ c, checkUpd (sq, cl, nu, kd, key, val, ver) = c := ⟨_, rfl⟩
  rw [hc] at h ⊢
  have HC := Lib.hid hc
  have hne : (c != 0) = true := by simpa using h
  clear hc h
  go_enter Try.func23, Try.ntmps23
  go_wp2_with fail
  refine (checkUpd_any _ _ _ _ _ _ _ hk _).mono ?_
  rintro e w1 ⟨rfl, hb1⟩
  rw [HC.out]
  go_wp2
  go_ret2
  exact ⟨rfl, below_then (below_alloc (Below.refl _ _) _) (below_size (below_alloc (Below.refl _ _) _)) hb1⟩
theorem lebs4_len {a b c d : Nat} (ha : a < 18446744073709551616) (hb : b < 18446744073709551616) (hc : c < 18446744073709551616) (hd : d < 18446744073709551616) : (lebs [a, b, c, d]).length ≤ 40 := by
  have := lebL_len10 ha
  have := lebL_len10 hb
  have := lebL_len10 hc
  have := lebL_len10 hd
  simp only [lebs, List.length_append, List.length_nil]
  omega
theorem strB_len (s : ByteArray) (h : s.size < 18446744073709551616) : (strB s).length ≤ s.size + 10 := by
  have := lebL_len10 h
  rw [strB, List.length_append, bytesOf_length]
  omega
set_option maxHeartbeats 1600000 in
set_option maxRecDepth 100000 in
theorem encode_put (sq cl nu : Nat) (key val : ByteArray) (w : World) (h : checkUpd (sq, cl, nu, 1, key, val, 0) = 0) :
    Calls Try.prog 23 #[.agg #[.int .i64 sq, .int .i64 cl, .int .i64 nu, .int .i64 1, .string key, .string val, .int .i64 0]] w fun e w' => ∃ v, e = .returned (.tuple #[v, .int .i64 0]) ∧ w'.ownsRow w.heap.size 5 1 v (lebs [sq, cl, nu, 1] ++ (strB key ++ strB val)).length (nums .u8 (lebs [sq, cl, nu, 1] ++ (strB key ++ strB val))) ∧ Below w.heap.size w w' := by
  obtain ⟨b1, b2, b3, b4, b5, b6, _, _, b9, b10, _⟩ := checkUpd_bounds h
  have b11 := isUser_bounds b9
  simp only at b1 b2 b3 b4 b5 b6 b10 b11
  have HC := Lib.hid h
  clear h b9
  go_enter Try.func23, Try.ntmps23
  go_wp2_with fail
  refine (checkUpd_yes (by omega) HC.out _).mono ?_
  rintro e w1 ⟨rfl, hb1⟩
  have HB1 := Lib.hid (below_then (below_alloc (Below.refl w.heap.size w) (.cells #[.int .i64 sq, .int .i64 cl, .int .i64 nu, .int .i64 1, .string key, .string val, .int .i64 0] 38)) (below_size (below_alloc (Below.refl _ _) _)) hb1)
  have B1 := Lib.hid (blk_below (blk_new w (.cells #[.int .i64 sq, .int .i64 cl, .int .i64 nu, .int .i64 1, .string key, .string val, .int .i64 0] 38)) hb1)
  have c1 := blkc B1.out
  clear hb1
  go_wp2_with fail
  refine (leb_lit [sq, cl, nu, 1] (by simp) (by simp; omega) HB1.out).mono ?_
  rintro e w2 ⟨v2, rfl, ho2, hb2, hk2⟩
  have B2 := Lib.hid (blk_below B1.out hk2)
  have HO2 := Lib.hid ho2
  have HB2 := Lib.hid hb2
  have h10 := lebs4_len (a := sq) (b := cl) (c := nu) (d := 1) (by omega) (by omega) (by omega) (by omega)
  clear ho2 hb2 hk2 c1
  have c2 := blkc B2.out
  go_wp2_with fail
  refine (text_any v2 _ key (by omega) (by omega) w w2 HB2.out HO2.out).mono ?_
  rintro e w3 ⟨v3, rfl, ho3, hb3, hk3⟩
  have B3 := Lib.hid (blk_kept B2.out hk3 (fun e => own_ne HO2.out B2.out (by decide) e.symm))
  have HO3 := Lib.hid ho3
  have HB3 := Lib.hid hb3
  clear ho3 hb3 hk3 c2
  have c3 := blkc B3.out
  have h11 := strB_len key (by omega)
  go_wp2_with fail
  refine (text_any v3 _ val (by omega) (by rw [List.length_append]; unfold strB at h11; omega) w w3 HB3.out HO3.out).mono ?_
  rintro e w4 ⟨v4, rfl, ho4, hb4, hk4⟩
  have B4 := Lib.hid (blk_kept B3.out hk4 (fun e => own_ne HO3.out B3.out (by decide) e.symm))
  have HO4 := Lib.hid ho4
  have HB4 := Lib.hid hb4
  clear ho4 hb4 hk4 c3
  have c4 := blkc B4.out
  go_wp2
  go_ret2
  have := HO4.out
  rw [List.append_assoc] at this
  exact ⟨_, rfl, this, HB4.out⟩
set_option maxHeartbeats 1600000 in
set_option maxRecDepth 100000 in
theorem encode_del (sq cl nu : Nat) (key val : ByteArray) (w : World) (h : checkUpd (sq, cl, nu, 2, key, val, 0) = 0) :
    Calls Try.prog 23 #[.agg #[.int .i64 sq, .int .i64 cl,   .int .i64 nu, .int .i64 2, .string key, .string val, .int .i64 0]] w fun e w' => ∃ v, e = .returned (.tuple #[v, .int .i64 0]) ∧ w'.ownsRow w.heap.size 5 1 v (lebs [sq, cl, nu, 2] ++ strB key).length (nums .u8 (lebs [sq, cl, nu, 2] ++ strB key)) ∧ Below w.heap.size w w' := by
  obtain ⟨b1, b2, b3, b4, b5, b6, _, _, b9, b10, _⟩ := checkUpd_bounds h
  have b11 := isUser_bounds b9
  simp only at b1 b2 b3 b4 b5 b6 b10 b11
  have HC := Lib.hid h
  clear h b9
  go_enter Try.func23, Try.ntmps23
  go_wp2_with fail
  refine (checkUpd_yes (by omega) HC.out _).mono ?_
  rintro e w1 ⟨rfl, hb1⟩
  have HB1 := Lib.hid (below_then (below_alloc (Below.refl w.heap.size w) (.cells #[.int .i64 sq, .int .i64 cl,   .int .i64 nu, .int .i64 2, .string key, .string val, .int .i64 0] 38)) (below_size (below_alloc (Below.refl _ _) _)) hb1)
  have B1 := Lib.hid (blk_below (blk_new w (.cells #[.int .i64 sq, .int .i64 cl,   .int .i64 nu, .int .i64 2, .string key, .string val, .int .i64 0] 38)) hb1)
  have c1 := blkc B1.out
  clear hb1
  go_wp2_with fail
  refine (leb_lit [sq, cl, nu, 2] (by simp) (by simp; omega) HB1.out).mono ?_
  rintro e w2 ⟨v2, rfl, ho2, hb2, hk2⟩
  have B2 := Lib.hid (blk_below B1.out hk2)
  have HO2 := Lib.hid ho2
  have HB2 := Lib.hid hb2
  have h10 := lebs4_len (a := sq) (b := cl) (c := nu) (d := 2) (by omega) (by omega) (by omega) (by omega)
  clear ho2 hb2 hk2 c1
  have c2 := blkc B2.out
  go_wp2_with fail
  refine (text_any v2 _ key (by omega) (by omega) w w2 HB2.out HO2.out).mono ?_
  rintro e w3 ⟨v3, rfl, ho3, hb3, hk3⟩
  have B3 := Lib.hid (blk_kept B2.out hk3 (fun e => own_ne HO2.out B2.out (by decide) e.symm))
  have HO3 := Lib.hid ho3
  have HB3 := Lib.hid hb3
  clear ho3 hb3 hk3 c2
  have c3 := blkc B3.out
  go_wp2
  go_ret2
  exact ⟨_, rfl, HO3.out, HB3.out⟩
set_option maxHeartbeats 1600000 in
set_option maxRecDepth 100000 in
theorem encode_cas (sq cl nu ver : Nat) (key val : ByteArray) (w : World) (h : checkUpd (sq, cl, nu, 3, key, val, ver) = 0) :
    Calls Try.prog 23 #[.agg #[.int .i64 sq, .int .i64 cl, .int .i64 nu, .int .i64 3, .string key, .string val, .int .i64 ver]] w fun e w' => ∃ v, e = .returned (.tuple #[v, .int .i64 0]) ∧ w'.ownsRow w.heap.size 5 1 v (lebs [sq, cl, nu, 3] ++ (strB key ++ (strB val ++ lebL ver))).length (nums .u8 (lebs [sq, cl, nu, 3] ++ (strB key ++ (strB val ++ lebL ver)))) ∧ Below w.heap.size w w' := by
  obtain ⟨b1, b2, b3, b4, b5, b6, _, _, b9, b10, b12, b13, _⟩ := checkUpd_bounds h
  have b11 := isUser_bounds b9
  simp only at b1 b2 b3 b4 b5 b6 b10 b11 b12 b13
  have HC := Lib.hid h
  clear h b9
  go_enter Try.func23, Try.ntmps23
  go_wp2_with fail
  refine (checkUpd_yes (by omega) HC.out _).mono ?_
  rintro e w1 ⟨rfl, hb1⟩
  have HB1 := Lib.hid (below_then (below_alloc (Below.refl w.heap.size w) (.cells #[.int .i64 sq, .int .i64 cl, .int .i64 nu, .int .i64 3, .string key, .string val, .int .i64 ver] 38)) (below_size (below_alloc (Below.refl _ _) _)) hb1)
  have B1 := Lib.hid (blk_below (blk_new w (.cells #[.int .i64 sq, .int .i64 cl, .int .i64 nu, .int .i64 3, .string key, .string val, .int .i64 ver] 38)) hb1)
  have c1 := blkc B1.out
  clear hb1
  go_wp2_with fail
  refine (leb_lit [sq, cl, nu, 3] (by simp) (by simp; omega) HB1.out).mono ?_
  rintro e w2 ⟨v2, rfl, ho2, hb2, hk2⟩
  have B2 := Lib.hid (blk_below B1.out hk2)
  have HO2 := Lib.hid ho2
  have HB2 := Lib.hid hb2
  have h10 := lebs4_len (a := sq) (b := cl) (c := nu) (d := 3) (by omega) (by omega) (by omega) (by omega)
  clear ho2 hb2 hk2 c1
  have c2 := blkc B2.out
  go_wp2_with fail
  refine (text_any v2 _ key (by omega) (by omega) w w2 HB2.out HO2.out).mono ?_
  rintro e w3 ⟨v3, rfl, ho3, hb3, hk3⟩
  have B3 := Lib.hid (blk_kept B2.out hk3 (fun e => own_ne HO2.out B2.out (by decide) e.symm))
  have HO3 := Lib.hid ho3
  have HB3 := Lib.hid hb3
  clear ho3 hb3 hk3 c2
  have c3 := blkc B3.out
  have h11 := strB_len key (by omega)
  go_wp2_with fail
  refine (text_any v3 _ val (by omega) (by rw [List.length_append]; unfold strB at h11; omega) w w3 HB3.out HO3.out).mono ?_
  rintro e w4 ⟨v4, rfl, ho4, hb4, hk4⟩
  have B4 := Lib.hid (blk_kept B3.out hk4 (fun e => own_ne HO3.out B3.out (by decide) e.symm))
  have HO4 := Lib.hid ho4
  have HB4 := Lib.hid hb4
  clear ho4 hb4 hk4 c3
  have c4 := blkc B4.out
  have h12 := strB_len val (by omega)
  go_wp2_with fail
  refine (leb_lit [ver] (by simp) (by simp; omega) HB4.out).mono ?_
  rintro e w5 ⟨v5, rfl, ho5, hb5, hk5⟩
  obtain ⟨A5, c5, rfl, hr5⟩ := own_reads ho5
  have HR5 := Lib.hid hr5
  have HO5 := Lib.hid (pw_own_below HO4.out hk5)
  have HB5 := Lib.hid hb5
  have h13 := lebL_len10 (n := ver) (by omega)
  have e5 : lebs [ver] = lebL ver := by simp [lebs]
  rw [e5] at HR5
  have E5 := Lib.hid e5
  clear ho5 hb5 hk5 hr5 c4 e5
  rw [E5.out]
  go_wp2_with (((with_reducible refine gate_builtin (b := .append) (xs := #[.tmp 44, .tmp 50]) rfl ?_); at_builtin; refine print_append_row (w0 := w) w.heap.size rfl (.tmp 44) (.tmp 50) 49 5 .u8 1 rfl Try.underlying49 info_u8 (by decide) v4 _ (lebL ver) A5 ((lebL ver)).length c5 rfl rfl HO5.out HR5.out HB5.out HB5.out.size (by rw [List.length_append, List.length_append]; unfold strB at h11 h12; omega) ?_; intro v6 w6 ho6 hb6 hg6 hat6; have HO6 := Lib.hid ho6; have HB6 := Lib.hid hb6; (have HG6 := Lib.hid hg6); (have HA6 := Lib.hid hat6); clear ho6 hb6 hg6 hat6))
  go_ret2
  have := HO6.out
  rw [List.append_assoc, List.append_assoc] at this
  exact ⟨_, rfl, this, HB6.out⟩
end Go.Proofs.Ytiboiociaedocaa.Leb
