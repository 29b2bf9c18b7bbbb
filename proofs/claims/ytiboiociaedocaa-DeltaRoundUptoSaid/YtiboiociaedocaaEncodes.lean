/- DeltaEncodes: for every update the program's Encode answers the document's bytes and error, and the first of the document's examples has its bytes. No condition. -/
import Derived.Test.YtiboiociaedocaaREncode
import Derived.Test.YtiboiociaedocaaPlainWalk
set_option linter.unusedVariables false
set_option linter.unusedSimpArgs false
namespace Go.Proofs.Ytiboiociaedocaa.Leb
open Go.RowKit Go.Proofs.Ytiboiociaedocaa.CutLeb Go.Proofs.YtiboiociaedocaaW.PrintWords Go.Proofs.Ytiboiociaedocaa.Byt Go.Proofs.Ytiboiociaedocaa.Mem Go.Proofs.Ytiboiociaedocaa.Chk Go.Proofs.Ytiboiociaedocaa.Opn
/-- An update's bytes; none, if it may not be. -/
def encE (u : UpdT) : List Int := if checkUpd u = 0 then encU u else []
theorem encode_any (sq cl nu kd ver : Int) (key val : ByteArray) (hk : key.size ≤ 9223372036854775807) (w : World) :
    Calls Try.prog 23 #[.agg #[.int .i64 sq, .int .i64 cl, .int .i64 nu, .int .i64 kd, .string key, .string val, .int .i64 ver]] w fun e w' => ∃ v, e = .returned (.tuple #[v, .int .i64 (checkUpd (sq, cl, nu, kd, key, val, ver))]) ∧ w'.ownsRow w.heap.size 5 1 v (encE (sq, cl, nu, kd, key, val, ver)).length (nums .u8 (encE (sq, cl, nu, kd, key, val, ver))) ∧ Below w.heap.size w w' := by
  by_cases h : checkUpd (sq, cl, nu, kd, key, val, ver) = 0
  · rw [encE, if_pos h, h]
    obtain ⟨b1, b2, b3, b4, b5, b6, b7, b8, _, _, b11, b12, b13, b14⟩ := checkUpd_bounds h
    dsimp only at b1 b2 b3 b4 b5 b6 b7 b8 b11 b12 b13 b14
    obtain ⟨sq, rfl⟩ := Int.eq_ofNat_of_zero_le (a := sq) (by omega)
    obtain ⟨cl, rfl⟩ := Int.eq_ofNat_of_zero_le (a := cl) (by omega)
    obtain ⟨nu, rfl⟩ := Int.eq_ofNat_of_zero_le (a := nu) (by omega)
    obtain ⟨ver, rfl⟩ := Int.eq_ofNat_of_zero_le (a := ver) (by omega)
    rcases (show kd = 1 ∨ kd = 2 ∨ kd = 3 by omega) with rfl | rfl | rfl
    · have hv : ver = 0 := by have := b14 (by decide); omega
      subst hv
      refine (encode_put sq cl nu key val w h).mono fun e w' ⟨v, he, ho, hb⟩ => ⟨v, he, ?_, hb⟩
      simpa [encU] using ho
    · have hv : ver = 0 := by have := b14 (by decide); omega
      subst hv
      refine (encode_del sq cl nu key val w h).mono fun e w' ⟨v, he, ho, hb⟩ => ⟨v, he, ?_, hb⟩
      simpa [encU] using ho
    · refine (encode_cas sq cl nu ver key val w h).mono fun e w' ⟨v, he, ho, hb⟩ => ⟨v, he, ?_, hb⟩
      simpa [encU] using ho
  · rw [encE, if_neg h]
    exact (encode_no _ _ _ _ _ _ _ hk w h).mono fun e w' ⟨he, hb⟩ => ⟨_, he, own_nil _ _ _ _, hb⟩
theorem rEncode_any (sq cl nu kd ver : Int) (key val : ByteArray) (hk : key.size ≤ 9223372036854775807) (w : World) :
    Calls Try.prog 24 #[.agg #[.int .i64 sq, .int .i64 cl, .int .i64 nu, .int .i64 kd, .string key, .string val, .int .i64 ver]] w fun e w' => ∃ v, e = .returned (.tuple #[v, .int .i64 (checkUpd (sq, cl, nu, kd, key, val, ver))]) ∧ w'.ownsRow w.heap.size 5 1 v (encE (sq, cl, nu, kd, key, val, ver)).length (nums .u8 (encE (sq, cl, nu, kd, key, val, ver))) ∧ Below w.heap.size w w' := by
  by_cases h : checkUpd (sq, cl, nu, kd, key, val, ver) = 0
  · rw [encE, if_pos h, h]
    obtain ⟨b1, b2, b3, b4, b5, b6, b7, b8, _, _, b11, b12, b13, b14⟩ := checkUpd_bounds h
    dsimp only at b1 b2 b3 b4 b5 b6 b7 b8 b11 b12 b13 b14
    obtain ⟨sq, rfl⟩ := Int.eq_ofNat_of_zero_le (a := sq) (by omega)
    obtain ⟨cl, rfl⟩ := Int.eq_ofNat_of_zero_le (a := cl) (by omega)
    obtain ⟨nu, rfl⟩ := Int.eq_ofNat_of_zero_le (a := nu) (by omega)
    obtain ⟨ver, rfl⟩ := Int.eq_ofNat_of_zero_le (a := ver) (by omega)
    rcases (show kd = 1 ∨ kd = 2 ∨ kd = 3 by omega) with rfl | rfl | rfl
    · have hv : ver = 0 := by have := b14 (by decide); omega
      subst hv
      refine (rEncode_put sq cl nu key val w h).mono fun e w' ⟨v, he, ho, hb⟩ => ⟨v, he, ?_, hb⟩
      simpa [encU, lebs] using ho
    · have hv : ver = 0 := by have := b14 (by decide); omega
      subst hv
      refine (rEncode_del sq cl nu key val w h).mono fun e w' ⟨v, he, ho, hb⟩ => ⟨v, he, ?_, hb⟩
      simpa [encU, lebs] using ho
    · refine (rEncode_cas sq cl nu ver key val w h).mono fun e w' ⟨v, he, ho, hb⟩ => ⟨v, he, ?_, hb⟩
      simpa [encU, lebs] using ho
  · rw [encE, if_neg h]
    exact (rEncode_no _ _ _ _ _ _ _ hk w h).mono fun e w' ⟨he, hb⟩ => ⟨_, he, own_nil _ _ _ _, hb⟩
theorem first_check : checkUpd (1, 1, 1, 2, ⟨#[97]⟩, ⟨#[]⟩, 0) = 0 := by decide +kernel
theorem first_bytes : encE (1, 1, 1, 2, ⟨#[97]⟩, ⟨#[]⟩, 0) = [1, 1, 1, 2, 1, 97] := by
  rw [encE, if_pos first_check]
  simp [encU, lebs, strB, lebL_small, bytesOf]
  show lebL 1 ++ [97] = [1, 97]
  rw [lebL_small (by decide)]
  rfl
theorem first_any (w : World) : Calls Try.prog 23 #[.agg #[.int .i64 1, .int .i64 1, .int .i64 1, .int .i64 2, .string ⟨#[97]⟩, .string ⟨#[]⟩, .int .i64 0]] w fun e w' => ∃ v, e = .returned (.tuple #[v, .int .i64 0]) ∧ w'.ownsRow w.heap.size 5 1 v [1, 1, 1, 2, 1, 97].length (nums .u8 [1, 1, 1, 2, 1, 97]) ∧ Below w.heap.size w w' := by
  have := encode_any 1 1 1 2 0 ⟨#[97]⟩ ⟨#[]⟩ (by decide) w
  rwa [first_check, first_bytes] at this
theorem str_first : (strOfNums [1, 1, 1, 2, 1, 97]).toList = [1, 1, 1, 2, 1, 97] := by rw [ByteArray.toList_eq]; rfl

set_option maxHeartbeats 1600000 in
set_option maxRecDepth 100000 in
theorem encodes_any (sq cl nu kd ver : Int) (key val : ByteArray) (hk : key.size ≤ 9223372036854775807) (w : World) :
    Calls Try.prog 6 #[.agg #[.int .i64 sq, .int .i64 cl, .int .i64 nu, .int .i64 kd, .string key, .string val, .int .i64 ver]] w fun e w' => e = .returned (.bool true) ∧ Below w.heap.size w w' := by
  go_enter Try.func6, Try.ntmps6
  go_wp2_with fail
  have HB := Lib.hid (below_alloc (Below.refl w.heap.size w) (.cells #[.int .i64 sq, .int .i64 cl, .int .i64 nu, .int .i64 kd, .string key, .string val, .int .i64 ver] 38))
  have B := Lib.hid (blk_new w (.cells #[.int .i64 sq, .int .i64 cl, .int .i64 nu, .int .i64 kd, .string key, .string val, .int .i64 ver] 38))
  refine (encode_any _ _ _ _ _ _ _ hk _).mono ?_
  rintro e w1 ⟨v1, rfl, ho1, hb1⟩
  have O1 := Lib.hid ho1
  have B := Lib.hid (blk_below B.out hb1)
  have HB := Lib.hid (below_then HB.out HB.out.size hb1)
  have c1 := blkc B.out
  clear ho1 hb1
  go_wp2_with fail
  refine (plain_any _ _ _ _ _ _ _ _).mono ?_
  rintro e w2 ⟨rfl, hb1⟩
  have O1 := Lib.hid (pw_own_below O1.out hb1)
  have B := Lib.hid (blk_below B.out hb1)
  have HB := Lib.hid (below_then HB.out HB.out.size hb1)
  clear c1
  have c1 := blkc B.out
  clear hb1
  go_wp2_with fail
  refine (rEncode_any _ _ _ _ _ _ _ hk _).mono ?_
  rintro e w3 ⟨v2, rfl, ho1, hb1⟩
  have O2 := Lib.hid ho1
  have O1 := Lib.hid (pw_own_below O1.out hb1)
  have B := Lib.hid (blk_below B.out hb1)
  have HB := Lib.hid (below_then HB.out HB.out.size hb1)
  clear c1
  have c1 := blkc B.out
  clear hb1 ho1
  go_wp2_with fail
  refine (first_any _).mono ?_
  rintro e w4 ⟨v3, rfl, ho1, hb1⟩
  have O3 := Lib.hid ho1
  have O1 := Lib.hid (pw_own_below O1.out hb1)
  have O2 := Lib.hid (pw_own_below O2.out hb1)
  have B := Lib.hid (blk_below B.out hb1)
  have HB := Lib.hid (below_then HB.out HB.out.size hb1)
  clear c1
  clear hb1 ho1
  have s1 := own_string Try.underlying49 Try.underlying5 Try.underlying9 O1.out
  have s2 := own_string Try.underlying49 Try.underlying5 Try.underlying9 O2.out
  have s3 := own_string Try.underlying49 Try.underlying5 Try.underlying9 O3.out
  have s4 := str_first
  go_wp2_with ((go_at_call 14; refine (num_any _ _).mono ?_; rintro e w1 ⟨rfl, rfl⟩))
  go_ret
  exact ⟨rfl, HB.out⟩
end Go.Proofs.Ytiboiociaedocaa.Leb
namespace Go.Proofs.Ytiboiociaedocaa.Walk
open Go.RowKit Go.Proofs.Ytiboiociaedocaa.Opn Go.Proofs.YtiboiociaedocaaW.PrintWords
theorem DeltaEncodes (u : UpdT) (cs : List Value) (W : World) (hc : kUpd.K W u cs) (hp : pUpd u) :
    Calls Try.prog 6 #[.agg cs.toArray] W fun e W' => e = .returned (.bool true) ∧ Below W.heap.size W W' := by
  obtain rfl := kUpd_cells hc
  exact Leb.encodes_any _ _ _ _ _ _ _ hp.2.2.2.2.1 W
end Go.Proofs.Ytiboiociaedocaa.Walk
