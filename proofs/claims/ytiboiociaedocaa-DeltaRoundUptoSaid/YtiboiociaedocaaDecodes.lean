/- DeltaDecodes, walked: Decode answers what the document's Decode answers, of any bytes. -/
import Derived.Test.YtiboiociaedocaaRDecode
import Derived.Test.YtiboiociaedocaaPlainWalk
import Derived.Test.YtiboiociaedocaaWEqStruct
import Derived.Laws.StructEq
import Derived.Laws.Closers25b
import Derived.Lib.SlBytesConst
set_option linter.unusedVariables false
set_option linter.unusedSimpArgs false
namespace Go.Proofs.Ytiboiociaedocaa.Leb
open Go.RowKit Go.Proofs.YtiboiociaedocaaW.PrintWords Go.Proofs.YtiboiociaedocaaW.PrintLast Go.Proofs.Ytiboiociaedocaa.CutDec Go.Proofs.Ytiboiociaedocaa.Mem Go.Proofs.Ytiboiociaedocaa.Byt Go.Proofs.Ytiboiociaedocaa.Chk Go.Proofs.Ytiboiociaedocaa.Opn Go.Deep
theorem eqROp (d : Nat) (w : World) (x0 y0 : Int) (x1 y1 : ByteArray) (x2 y2 : ByteArray) (x3 y3 : Int) :
    (Op.equalIn (d + 2) 41 (.agg #[.int .i64 x0, .string x1, .string x2, .int .i64 x3]) (.agg #[.int .i64 y0, .string y1, .string y2, .int .i64 y3])).run Try.prog w = .ok (x0 == y0 && (x1.toList == y1.toList && (x2.toList == y2.toList && (x3 == y3)))) w := by
  refine eqA_of Try.underlying41 (by kernel_rfl) ?_
  refine eqf_cons (by rfl) (by go_simp; rfl) (by go_simp; rfl) (by go_simp) ?_
  refine eqf_cons (by rfl) (by go_simp; rfl) (by go_simp; rfl) (by go_simp) ?_
  refine eqf_cons (by rfl) (by go_simp; rfl) (by go_simp; rfl) (by go_simp) ?_
  exact eqf_last (by rfl) (by go_simp; rfl) (by go_simp; rfl) (by go_simp)
theorem eqRU (d : Nat) (w : World) (x0 y0 : Int) (x1 y1 : Int) (x2 y2 : Int) (x3 y3 : Int) (x4 y4 : ByteArray) (x5 y5 : ByteArray) (x6 y6 : Int) :
    (Op.equalIn (d + 3) 46 (.agg #[.int .i64 x0, .int .i64 x1, .int .i64 x2, .int .i64 x3, .string x4, .string x5, .int .i64 x6]) (.agg #[.int .i64 y0, .int .i64 y1, .int .i64 y2, .int .i64 y3, .string y4, .string y5, .int .i64 y6])).run Try.prog w = .ok (x0 == y0 && (x1 == y1 && (x2 == y2 && ((x3 == y3 && (x4.toList == y4.toList && (x5.toList == y5.toList && (x6 == y6)))))))) w := by
  refine eqA_of Try.underlying46 (by kernel_rfl) ?_
  refine eqf_cons (by rfl) (by go_simp; rfl) (by go_simp; rfl) (by go_simp) ?_
  refine eqf_cons (by rfl) (by go_simp; rfl) (by go_simp; rfl) (by go_simp) ?_
  refine eqf_cons (by rfl) (by go_simp; rfl) (by go_simp; rfl) (by go_simp) ?_
  exact eqf_last (by rfl) (by go_simp) (by go_simp) (eqROp (d + 0) w _ _ _ _ _ _ _ _)
theorem run_sameRU (a b c d e : Int) (s t : ByteArray) (w : World) : (binOp .eql 46 (.agg #[.int .i64 a, .int .i64 b, .int .i64 c, .int .i64 d, .string s, .string t, .int .i64 e]) (.agg #[.int .i64 a, .int .i64 b, .int .i64 c, .int .i64 d, .string s, .string t, .int .i64 e])).run Try.prog w = .ok (.bool true) w := by
  rw [run_eql_struct, eqRU 9997 w]
  simp
theorem C_lit (w : World) (xs : List Int) (hl : xs.length ≤ 1000) (sh : Nat × Nat) : kB.C (w.alloc (.cells ((xs.map fun n => Value.int .u8 n).toArray) 5 sh)) (some ⟨w.heap.size, 0, none⟩) xs.length xs := by
  refine ⟨rfl, by omega, fun _ => ⟨_, rfl, fun j p hp => ⟨[.int .u8 p], rfl, rfl, fun i u hu => ?_⟩⟩⟩
  obtain ⟨hj, rfl⟩ := List.getElem?_eq_some_iff.1 hp
  have hsz : (Kd.int .u8).sz = 1 := rfl
  match i, hu with
  | 0, hu =>
    have hu' : Value.int .u8 (xs[j]) = u := by simpa using hu
    subst hu'
    rw [hsz, Nat.mul_one, Nat.add_zero, add_plain, cell_of_row _ _ _ _ _ _ (blk_new w _)]
    simp [hj]
def zeroU : UpdT := (0, 0, 0, 0, ⟨#[]⟩, ⟨#[]⟩, 0)
/-- What Decode answers, as data. -/
def outU (bs : List Int) : UpdT × Int := match decU bs with | some u => (u, 0) | none => (zeroU, 86)
theorem DecEnd.val {bs : List Int} {e : Ending} (h : DecEnd bs e) : e = .returned (.tuple #[updV (outU bs).1, .int .i64 (outU bs).2]) := by
  unfold DecEnd at h
  unfold outU
  cases hd : decU bs with
  | none => rw [hd] at h; exact h
  | some u => rw [hd] at h; exact h
theorem third_enc : encU (1, 1, 1, 2, ⟨#[97]⟩, ⟨#[]⟩, 0) = [1, 1, 1, 2, 1, 97] := by
  have := first_bytes
  rwa [encE, if_pos first_check] at this
theorem third_out : outU [1, 1, 1, 2, 1, 97] = ((1, 1, 1, 2, ⟨#[97]⟩, ⟨#[]⟩, 0), 0) := by
  rw [outU, ← third_enc, decU_enc first_check]
theorem decode_lit {w : World} {A : Option Addr} {c : Nat} (hC : kB.C w A 6 [1, 1, 1, 2, 1, 97]) (hc : 6 ≤ c) :
    Calls Try.prog 29 #[.slice A 6 c] w fun e w' => e = .returned (.tuple #[.agg #[.int .i64 1, .int .i64 1, .int .i64 1, .int .i64 2, .string ⟨#[97]⟩, .string ⟨#[]⟩, .int .i64 0], .int .i64 0]) ∧ Below w.heap.size w w' :=
  (decode_any (bs := [1, 1, 1, 2, 1, 97]) hC hc (by intro x hx; simp at hx; omega) (by decide)).mono fun e w' ⟨he, hb⟩ => ⟨by have := he.val; rwa [third_out] at this, hb⟩
set_option maxHeartbeats 12800000 in
set_option maxRecDepth 100000 in
theorem decodes_any {w : World} {A : Option Addr} {c : Nat} {bs : List Int} (hS : Src w A c bs) (hl : bs.length ≤ 140737488355328) :
    Calls Try.prog 8 #[.slice A bs.length c] w fun e w' => e = .returned (.bool true) ∧ Below w.heap.size w w' := by
  have SR := Lib.hid hS
  have HL := Lib.hid hl
  have HO0 := Lib.hid (own_nil w w.heap.size 5 1)
  have HB0 := Lib.hid (Below.refl w.heap.size w)
  clear hS hl
  go_enter Try.func8, Try.ntmps8
  go_wp2_with ((with_reducible refine gate_builtin (b := .append) (xs := #[.const (.slice none 0 0), .tmp 10]) rfl ?_); at_builtin; refine print_append_row (w0 := w) w.heap.size rfl (.const (.slice none 0 0)) (.tmp 10) 49 5 .u8 1 rfl Try.underlying49 info_u8 (by decide) (.slice none 0 0) [] bs A bs.length c rfl rfl HO0.out (Kd.reads_of_C (enc := Value.int .u8) (d := (0 : Int)) (h1 := fun _ => rfl) SR.out.C) HB0.out HB0.out.size (by have := HL.out; simp; omega) ?_; intro v1 w1 ho1 hb1 hg1 hat1; rw [List.nil_append] at ho1; obtain ⟨A1, c1, rfl, hc1, hr1⟩ := Kd.R_reads (R_of_owns (ok := fun _ => True) ho1 (fun _ _ => trivial)); have HO1 := Lib.hid ho1; have HB1 := Lib.hid hb1; have S1 := Lib.hid (show Src w1 A1 c1 bs from ⟨hr1, hc1, SR.out.B, SR.out.l⟩); clear ho1 hb1 hg1 hat1 hr1 hc1)
  refine (decode_any S1.out.C S1.out.c S1.out.B S1.out.l).mono ?_
  rintro e w2 ⟨he2, hb2⟩
  rw [he2.val]
  obtain ⟨⟨⟨sq, cl, nu, kd, key, val, ver⟩, code⟩, ho⟩ : ∃ x, outU bs = x := ⟨_, rfl⟩
  rw [ho]
  have HOU := Lib.hid ho
  have bb := below_then hb2 hb2.size (below_alloc (Below.refl w2.heap.size w2) (.cells #[.int .i64 sq, .int .i64 cl, .int .i64 nu, .int .i64 kd, .string key, .string val, .int .i64 ver] tU))
  have P2 := Lib.hid (blk_new w2 (.cells #[.int .i64 sq, .int .i64 cl, .int .i64 nu, .int .i64 kd, .string key, .string val, .int .i64 ver] tU))
  have O2 := Lib.hid (pw_own_below HO1.out bb)
  have B2 := Lib.hid (below_then HB1.out HB1.out.size bb)
  clear he2 hb2 ho bb HO1 HB1 S1 HB0 HO0
  simp only [updV]
  go_upto_region 3 with (fail)
  generalize w2.heap.size = b4 at *
  generalize (World.alloc w2 _) = W2 at *
  go_wp2_with fail
  refine (rdecode_any (SR.out.below B2.out)).mono ?_
  rintro e w3 ⟨he3, hb3⟩
  rw [he3.val, HOU.out]
  have bb := below_then hb3 hb3.size (below_alloc (Below.refl w3.heap.size w3) (.cells #[.int .i64 sq, .int .i64 cl, .int .i64 nu, .int .i64 kd, .string key, .string val, .int .i64 ver] tRU))
  have P3 := Lib.hid (blk_new w3 (.cells #[.int .i64 sq, .int .i64 cl, .int .i64 nu, .int .i64 kd, .string key, .string val, .int .i64 ver] tRU))
  have P2 := Lib.hid (blk_below P2.out bb)
  have O3 := Lib.hid (pw_own_below O2.out bb)
  have B3 := Lib.hid (below_then B2.out B2.out.size bb)
  clear he3 hb3 bb O2 B2 HOU
  simp only [updV]
  go_upto_region 4 with (fail)
  generalize w3.heap.size = b6 at *
  generalize (World.alloc w3 _) = W3 at *
  have hcv : (convert tBs tBs (.slice (some ⟨W3.heap.size, 0, none⟩) 6 6)).run Try.prog (W3.alloc (.cells #[.int .u8 1, .int .u8 1, .int .u8 1, .int .u8 2, .int .u8 1, .int .u8 97] 5)) = .ok (.slice (some ⟨W3.heap.size, 0, none⟩) 6 6) (W3.alloc (.cells #[.int .u8 1, .int .u8 1, .int .u8 1, .int .u8 2, .int .u8 1, .int .u8 97] 5 (6, 7))) := Lib.run_convert_bytes_const W3 tBs 5 #[.int .u8 1, .int .u8 1, .int .u8 1, .int .u8 2, .int .u8 1, .int .u8 97] 6 6 Try.underlying49 Try.underlying5
  have hC9 := C_lit W3 [1, 1, 1, 2, 1, 97] (by decide) (6, 7)
  have ba := below_alloc (Below.refl W3.heap.size W3) (.cells #[.int .u8 1, .int .u8 1, .int .u8 1, .int .u8 2, .int .u8 1, .int .u8 97] 5 (6, 7))
  have HC9 := Lib.hid hC9
  have P2 := Lib.hid (blk_below P2.out ba)
  have P3 := Lib.hid (blk_below P3.out ba)
  have O3 := Lib.hid (pw_own_below O3.out ba)
  have B3 := Lib.hid (below_then B3.out B3.out.size ba)
  clear hC9 ba
  go_wp2_with fail
  refine (decode_lit HC9.out (Nat.le_refl _)).mono ?_
  rintro e w4 ⟨rfl, hb4⟩
  have bb := below_then hb4 hb4.size (below_alloc (Below.refl w4.heap.size w4) (.cells #[.int .i64 1, .int .i64 1, .int .i64 1, .int .i64 2, .string ⟨#[97]⟩, .string ⟨#[]⟩, .int .i64 0] tU))
  have P4 := Lib.hid (blk_new w4 (.cells #[.int .i64 1, .int .i64 1, .int .i64 1, .int .i64 2, .string ⟨#[97]⟩, .string ⟨#[]⟩, .int .i64 0] tU))
  have P2 := Lib.hid (blk_below P2.out bb)
  have P3 := Lib.hid (blk_below P3.out bb)
  have O4 := Lib.hid (pw_own_below O3.out bb)
  have B4 := Lib.hid (below_then B3.out B3.out.size bb)
  clear hb4 bb O3 B3 HC9
  go_upto_region 5 with (fail)
  generalize w4.heap.size = b8 at *
  generalize (World.alloc w4 _) = W4 at *
  have bd := below_drew (Below.refl W4.heap.size W4)
  have P2D := Lib.hid (blk_below P2.out bd)
  have P3D := Lib.hid (blk_below P3.out bd)
  have P4D := Lib.hid (blk_below P4.out bd)
  have O4D := Lib.hid (pw_own_below O4.out bd)
  have BD := Lib.hid (below_then B4.out B4.out.size bd)
  clear bd
  refine start_ (n := 28) (S := fun w' => (∀ o, w'.cell? ⟨b4, o, none⟩ = #[.int .i64 sq, .int .i64 cl, .int .i64 nu, .int .i64 kd, .string key, .string val, .int .i64 ver][o]?) ∧ (∀ o, w'.cell? ⟨b6, o, none⟩ = #[.int .i64 sq, .int .i64 cl, .int .i64 nu, .int .i64 kd, .string key, .string val, .int .i64 ver][o]?) ∧ (∀ o, w'.cell? ⟨b8, o, none⟩ = #[.int .i64 1, .int .i64 1, .int .i64 1, .int .i64 2, .string ⟨#[97]⟩, .string ⟨#[]⟩, .int .i64 0][o]?)) (ds := []) #[false, false, false, false, false, false, false, false, false, false, false, false, false, false, false, false, false, false, false, false, false, false, false, false, false, false, false, false] (by kernel_rfl) rfl rfl ⟨(blkc P2.out), (blkc P3.out), (blkc P4.out)⟩ (fun hHeld => ?_)
  refine take_ (i := 0) (N := some 28) (v := ?_) (a' := ?_) #[true, false, false, false, false, false, false, false, false, false, false, false, false, false, false, false, false, false, false, false, false, false, false, false, false, false, false, false] rfl rfl (by kernel_rfl) (fun _ _ _ h => h) (Or.inl ⟨by rfl, ?_⟩) hHeld ?_ ?_
  rotate_left
  · rintro w' ⟨s0, s1, s2⟩
    go_simp
    with_reducible rfl
  rotate_left
  · simp only [Act.put, List.setIfInBounds_toArray, List.set_cons_zero, List.set_cons_succ, i64_w, i32_w]
    rfl
  refine take_ (i := 2) (N := some 30) (v := ?_) (a' := ?_) #[true, false, true, false, false, false, false, false, false, false, false, false, false, false, false, false, false, false, false, false, false, false, false, false, false, false, false, false] rfl rfl (by kernel_rfl) (fun _ _ _ h => h) (Or.inl ⟨by rfl, ?_⟩) hHeld ?_ ?_
  rotate_left
  · rintro w' ⟨s0, s1, s2⟩
    go_simp
    with_reducible rfl
  rotate_left
  · simp only [Act.put, List.setIfInBounds_toArray, List.set_cons_zero, List.set_cons_succ, i64_w, i32_w]
    rfl
  refine one_ (i := 1) (N := some 29) #[true, true, true, false, false, false, false, false, false, false, false, false, false, false, false, false, false, false, false, false, false, false, false, false, false, false, false, false] rfl rfl (by kernel_rfl) (by decide) (fun K hK => ?_)
  refine goes_ Try.func22 (by kernel_rfl) rfl #[.agg #[.int .i64 sq, .int .i64 cl, .int .i64 nu, .int .i64 kd, .string key, .string val, .int .i64 ver]] (by rfl) rfl rfl (by simp only [List.map_toArray, List.map_cons, List.map_nil]; rfl) ?_
  with_reducible refine (plain_any _ _ _ _ _ _ _ _).mono ?_
  rintro e w5 ⟨rfl, hb5⟩
  refine ⟨_, rfl, ?_⟩
  have P25 := Lib.hid (blk_below P2D.out hb5)
  have P35 := Lib.hid (blk_below P3D.out hb5)
  have P45 := Lib.hid (blk_below P4D.out hb5)
  have O5 := Lib.hid (pw_own_below O4D.out hb5)
  have B5 := Lib.hid (below_then BD.out BD.out.size hb5)
  clear hb5
  refine hK.out _ _ ⟨(blkc P25.out), (blkc P35.out), (blkc P45.out)⟩ (fun hHeld => ?_)
  clear hK K
  refine norm_ (a' := ?_) ?_ ?_
  rotate_left
  · show Act.put _ (some 29) _ = _
    simp only [Act.put, List.setIfInBounds_toArray, List.set_cons_zero, List.set_cons_succ, i64_w, i32_w]
    rfl
  refine one_ (i := 3) (N := some 31) #[true, true, true, true, false, false, false, false, false, false, false, false, false, false, false, false, false, false, false, false, false, false, false, false, false, false, false, false] rfl rfl (by kernel_rfl) (by decide) (fun K hK => ?_)
  have heq := fun W => run_sameRU sq cl nu kd ver key val W
  refine value_ (w1 := ?_) (v := ?_) (by rfl) rfl ?_ ?_
  rotate_left 2
  · go_simp
    constructor
    · rfl
    · rfl
  refine hK.out _ _ ⟨(blkc P25.out), (blkc P35.out), (blkc P45.out)⟩ (fun hHeld => ?_)
  clear hK K
  refine norm_ (a' := ?_) ?_ ?_
  rotate_left
  · show Act.put _ (some 31) _ = _
    simp only [Act.put, List.setIfInBounds_toArray, List.set_cons_zero, List.set_cons_succ, i64_w, i32_w]
    rfl
  refine pure_ (i := 4) (N := some 32) (v := ?_) (a' := ?_) #[true, true, true, true, true, false, false, false, false, false, false, false, false, false, false, false, false, false, false, false, false, false, false, false, false, false, false, false] rfl rfl (by kernel_rfl) (fun _ _ _ h => h) (Or.inl ⟨by rfl, ?_⟩) ?_ ?_
  rotate_left
  · intro w'
    go_simp
    with_reducible rfl
  rotate_left
  · simp only [Act.put, List.setIfInBounds_toArray, List.set_cons_zero, List.set_cons_succ, i64_w, i32_w]
    rfl
  refine pure_ (i := 5) (N := some 33) (v := ?_) (a' := ?_) #[true, true, true, true, true, true, false, false, false, false, false, false, false, false, false, false, false, false, false, false, false, false, false, false, false, false, false, false] rfl rfl (by kernel_rfl) (fun _ _ _ h => h) (Or.inl ⟨by rfl, ?_⟩) ?_ ?_
  rotate_left
  · intro w'
    go_simp
    with_reducible rfl
  rotate_left
  · simp only [Act.put, List.setIfInBounds_toArray, List.set_cons_zero, List.set_cons_succ, i64_w, i32_w]
    rfl
  refine pure_ (i := 7) (N := some 35) (v := ?_) (a' := ?_) #[true, true, true, true, true, true, false, true, false, false, false, false, false, false, false, false, false, false, false, false, false, false, false, false, false, false, false, false] rfl rfl (by kernel_rfl) (fun _ _ _ h => h) (Or.inl ⟨by rfl, ?_⟩) ?_ ?_
  rotate_left
  · intro w'
    go_simp
    with_reducible rfl
  rotate_left
  · simp only [Act.put, List.setIfInBounds_toArray, List.set_cons_zero, List.set_cons_succ, i64_w, i32_w]
    rfl
  refine one_ (i := 6) (N := some 34) #[true, true, true, true, true, true, true, true, false, false, false, false, false, false, false, false, false, false, false, false, false, false, false, false, false, false, false, false] rfl rfl (by kernel_rfl) (by decide) (fun K hK => ?_)
  refine goes_ Try.func14 (by kernel_rfl) rfl #[.int .i64 code] (by rfl) rfl rfl (by simp only [List.map_toArray, List.map_cons, List.map_nil]; rfl) ?_
  with_reducible refine (num_any code _).mono ?_
  rintro e w6 ⟨rfl, rfl⟩
  refine ⟨_, rfl, ?_⟩
  have O6 := O5
  have B6 := B5
  have P46 := P45
  refine hK.out _ _ ⟨(blkc P25.out), (blkc P35.out), (blkc P45.out)⟩ (fun hHeld => ?_)
  clear hK K
  refine norm_ (a' := ?_) ?_ ?_
  rotate_left
  · show Act.put _ (some 34) _ = _
    simp only [Act.put, List.setIfInBounds_toArray, List.set_cons_zero, List.set_cons_succ, i64_w, i32_w]
    rfl
  refine pure_ (i := 8) (N := some 36) (v := ?_) (a' := ?_) #[true, true, true, true, true, true, true, true, true, false, false, false, false, false, false, false, false, false, false, false, false, false, false, false, false, false, false, false] rfl rfl (by kernel_rfl) (fun _ _ _ h => h) (Or.inl ⟨by rfl, ?_⟩) ?_ ?_
  rotate_left
  · intro w'
    go_simp
    with_reducible rfl
  rotate_left
  · simp only [Act.put, List.setIfInBounds_toArray, List.set_cons_zero, List.set_cons_succ, i64_w, i32_w]
    rfl
  refine pure_ (i := 9) (N := some 37) (v := ?_) (a' := ?_) #[true, true, true, true, true, true, true, true, true, true, false, false, false, false, false, false, false, false, false, false, false, false, false, false, false, false, false, false] rfl rfl (by kernel_rfl) (fun _ _ _ h => h) (Or.inl ⟨by rfl, ?_⟩) ?_ ?_
  rotate_left
  · intro w'
    go_simp
    with_reducible rfl
  rotate_left
  · simp only [Act.put, List.setIfInBounds_toArray, List.set_cons_zero, List.set_cons_succ, i64_w, i32_w]
    rfl
  refine pure_ (i := 10) (N := some 38) (v := ?_) (a' := ?_) #[true, true, true, true, true, true, true, true, true, true, true, false, false, false, false, false, false, false, false, false, false, false, false, false, false, false, false, false] rfl rfl (by kernel_rfl) (fun _ _ _ h => h) (Or.inl ⟨by rfl, ?_⟩) ?_ ?_
  rotate_left
  · intro w'
    go_simp
    with_reducible rfl
  rotate_left
  · simp only [Act.put, List.setIfInBounds_toArray, List.set_cons_zero, List.set_cons_succ, i64_w, i32_w]
    rfl
  refine pure_ (i := 11) (N := some 39) (v := ?_) (a' := ?_) #[true, true, true, true, true, true, true, true, true, true, true, true, false, false, false, false, false, false, false, false, false, false, false, false, false, false, false, false] rfl rfl (by kernel_rfl) (fun _ _ _ h => h) (Or.inl ⟨by rfl, ?_⟩) ?_ ?_
  rotate_left
  · intro w'
    go_simp
    with_reducible rfl
  rotate_left
  · simp only [Act.put, List.setIfInBounds_toArray, List.set_cons_zero, List.set_cons_succ, i64_w, i32_w]
    rfl
  refine pure_ (i := 13) (N := some 41) (v := ?_) (a' := ?_) #[true, true, true, true, true, true, true, true, true, true, true, true, false, true, false, false, false, false, false, false, false, false, false, false, false, false, false, false] rfl rfl (by kernel_rfl) (fun _ _ _ h => h) (Or.inl ⟨by rfl, ?_⟩) ?_ ?_
  rotate_left
  · intro w'
    go_simp
    with_reducible rfl
  rotate_left
  · simp only [Act.put, List.setIfInBounds_toArray, List.set_cons_zero, List.set_cons_succ, i64_w, i32_w]
    rfl
  refine join_ (σ := Unit) 13 #[true, true, true, true, true, true, true, true, true, true, true, true, true, true, true, false, false, false, false, false, false, false, false, false, false, false, false, false] (fun _ => [(40, .string (strOfNums bs)), (42, .string (strOfNums bs))]) (fun _ w' => w5 = w') ?_ ?_
  rotate_left
  · intro hCont
    refine two_ (i := 12) (j := 14) (Ni := some 40) (Nj := some 42) #[true, true, true, true, true, true, true, true, true, true, true, true, true, true, false, false, false, false, false, false, false, false, false, false, false, false, false, false] #[true, true, true, true, true, true, true, true, true, true, true, true, false, true, true, false, false, false, false, false, false, false, false, false, false, false, false, false] rfl rfl rfl rfl (by kernel_rfl) (by decide) (by decide) (fun K hK => ?_) (fun K hK => ?_)
    · skip
      have st1 := own_string Try.underlying49 Try.underlying5 Try.underlying9 O6.out
      refine value_ (w1 := ?_) (v := ?_) (by rfl) rfl ?_ ?_
      rotate_left 2
      · go_simp
        constructor
        · rfl
        · rfl
      refine hK.out _ _ ⟨(blkc P25.out), (blkc P35.out), (blkc P46.out)⟩ (fun hHeld => ?_)
      clear hK K
      refine norm_ (a' := ?_) ?_ ?_
      rotate_left
      · show Act.put _ (some 40) _ = _
        simp only [Act.put, List.setIfInBounds_toArray, List.set_cons_zero, List.set_cons_succ, i64_w, i32_w]
        rfl
      refine one_ (i := 14) (N := some 42) #[true, true, true, true, true, true, true, true, true, true, true, true, true, true, true, false, false, false, false, false, false, false, false, false, false, false, false, false] rfl rfl (by kernel_rfl) (by decide) (fun K hK => ?_)
      have st2 := Kd.C_string (src := tBs) (dst := 9) (c := c) Try.underlying49 Try.underlying5 Try.underlying9 (SR.out.below B6.out).C
      refine value_ (w1 := ?_) (v := ?_) (by rfl) rfl ?_ ?_
      rotate_left 2
      · go_simp
        constructor
        · rfl
        · rfl
      refine hK.out _ _ ⟨(blkc P25.out), (blkc P35.out), (blkc P46.out)⟩ (fun hHeld => ?_)
      clear hK K
      refine norm_ (a' := ?_) ?_ ?_
      rotate_left
      · show Act.put _ (some 42) _ = _
        simp only [Act.put, List.setIfInBounds_toArray, List.set_cons_zero, List.set_cons_succ, i64_w, i32_w]
        rfl
      exact norm_ (by simp only [putAll, Act.put, List.setIfInBounds_toArray, List.set_cons_zero, List.set_cons_succ]) (hCont () _ rfl)
    · skip
      have st2 := Kd.C_string (src := tBs) (dst := 9) (c := c) Try.underlying49 Try.underlying5 Try.underlying9 (SR.out.below B6.out).C
      refine value_ (w1 := ?_) (v := ?_) (by rfl) rfl ?_ ?_
      rotate_left 2
      · go_simp
        constructor
        · rfl
        · rfl
      refine hK.out _ _ ⟨(blkc P25.out), (blkc P35.out), (blkc P46.out)⟩ (fun hHeld => ?_)
      clear hK K
      refine norm_ (a' := ?_) ?_ ?_
      rotate_left
      · show Act.put _ (some 42) _ = _
        simp only [Act.put, List.setIfInBounds_toArray, List.set_cons_zero, List.set_cons_succ, i64_w, i32_w]
        rfl
      refine one_ (i := 12) (N := some 40) #[true, true, true, true, true, true, true, true, true, true, true, true, true, true, true, false, false, false, false, false, false, false, false, false, false, false, false, false] rfl rfl (by kernel_rfl) (by decide) (fun K hK => ?_)
      have st1 := own_string Try.underlying49 Try.underlying5 Try.underlying9 O6.out
      refine value_ (w1 := ?_) (v := ?_) (by rfl) rfl ?_ ?_
      rotate_left 2
      · go_simp
        constructor
        · rfl
        · rfl
      refine hK.out _ _ ⟨(blkc P25.out), (blkc P35.out), (blkc P46.out)⟩ (fun hHeld => ?_)
      clear hK K
      refine norm_ (a' := ?_) ?_ ?_
      rotate_left
      · show Act.put _ (some 40) _ = _
        simp only [Act.put, List.setIfInBounds_toArray, List.set_cons_zero, List.set_cons_succ, i64_w, i32_w]
        rfl
      exact norm_ (by simp only [putAll, Act.put, List.setIfInBounds_toArray, List.set_cons_zero, List.set_cons_succ]) (hCont () _ rfl)
  rintro _ _ rfl
  refine norm_ (a' := ?_) ?_ ?_
  rotate_left
  · simp only [putAll, Act.put, List.setIfInBounds_toArray, List.set_cons_zero, List.set_cons_succ]
    rfl
  refine pure_ (i := 15) (N := some 43) (v := ?_) (a' := ?_) #[true, true, true, true, true, true, true, true, true, true, true, true, true, true, true, true, false, false, false, false, false, false, false, false, false, false, false, false] rfl rfl (by kernel_rfl) (fun _ _ _ h => h) (Or.inl ⟨by rfl, ?_⟩) ?_ ?_
  rotate_left
  · intro w'
    go_simp
    with_reducible rfl
  rotate_left
  · simp only [Act.put, List.setIfInBounds_toArray, List.set_cons_zero, List.set_cons_succ, i64_w, i32_w]
    rfl
  refine pure_ (i := 16) (N := some 44) (v := ?_) (a' := ?_) #[true, true, true, true, true, true, true, true, true, true, true, true, true, true, true, true, true, false, false, false, false, false, false, false, false, false, false, false] rfl rfl (by kernel_rfl) (fun _ _ _ h => h) (Or.inl ⟨by rfl, ?_⟩) ?_ ?_
  rotate_left
  · intro w'
    go_simp
    with_reducible rfl
  rotate_left
  · simp only [Act.put, List.setIfInBounds_toArray, List.set_cons_zero, List.set_cons_succ, i64_w, i32_w]
    rfl
  refine pure_ (i := 17) (N := some 45) (v := ?_) (a' := ?_) #[true, true, true, true, true, true, true, true, true, true, true, true, true, true, true, true, true, true, false, false, false, false, false, false, false, false, false, false] rfl rfl (by kernel_rfl) (fun _ _ _ h => h) (Or.inl ⟨by rfl, ?_⟩) ?_ ?_
  rotate_left
  · intro w'
    go_simp
    with_reducible rfl
  rotate_left
  · simp only [Act.put, List.setIfInBounds_toArray, List.set_cons_zero, List.set_cons_succ, i64_w, i32_w]
    rfl
  refine pure_ (i := 18) (N := some 46) (v := ?_) (a' := ?_) #[true, true, true, true, true, true, true, true, true, true, true, true, true, true, true, true, true, true, true, false, false, false, false, false, false, false, false, false] rfl rfl (by kernel_rfl) (fun _ _ _ h => h) (Or.inl ⟨by rfl, ?_⟩) ?_ ?_
  rotate_left
  · intro w'
    go_simp
    with_reducible rfl
  rotate_left
  · simp only [Act.put, List.setIfInBounds_toArray, List.set_cons_zero, List.set_cons_succ, i64_w, i32_w]
    rfl
  refine pure_ (i := 19) (N := some 47) (v := ?_) (a' := ?_) #[true, true, true, true, true, true, true, true, true, true, true, true, true, true, true, true, true, true, true, true, false, false, false, false, false, false, false, false] rfl rfl (by kernel_rfl) (fun _ _ _ h => h) (Or.inl ⟨by rfl, ?_⟩) ?_ ?_
  rotate_left
  · intro w'
    go_simp
    with_reducible rfl
  rotate_left
  · simp only [Act.put, List.setIfInBounds_toArray, List.set_cons_zero, List.set_cons_succ, i64_w, i32_w]
    rfl
  refine pure_ (i := 20) (N := some 48) (v := ?_) (a' := ?_) #[true, true, true, true, true, true, true, true, true, true, true, true, true, true, true, true, true, true, true, true, true, false, false, false, false, false, false, false] rfl rfl (by kernel_rfl) (fun _ _ _ h => h) (Or.inl ⟨by rfl, ?_⟩) ?_ ?_
  rotate_left
  · intro w'
    go_simp
    with_reducible rfl
  rotate_left
  · simp only [Act.put, List.setIfInBounds_toArray, List.set_cons_zero, List.set_cons_succ, i64_w, i32_w]
    rfl
  refine pure_ (i := 21) (N := some 49) (v := ?_) (a' := ?_) #[true, true, true, true, true, true, true, true, true, true, true, true, true, true, true, true, true, true, true, true, true, true, false, false, false, false, false, false] rfl rfl (by kernel_rfl) (fun _ _ _ h => h) (Or.inl ⟨by rfl, ?_⟩) ?_ ?_
  rotate_left
  · intro w'
    go_simp
    with_reducible rfl
  rotate_left
  · simp only [Act.put, List.setIfInBounds_toArray, List.set_cons_zero, List.set_cons_succ, i64_w, i32_w]
    rfl
  refine pure_ (i := 22) (N := some 50) (v := ?_) (a' := ?_) #[true, true, true, true, true, true, true, true, true, true, true, true, true, true, true, true, true, true, true, true, true, true, true, false, false, false, false, false] rfl rfl (by kernel_rfl) (fun _ _ _ h => h) (Or.inl ⟨by rfl, ?_⟩) ?_ ?_
  rotate_left
  · intro w'
    go_simp
    with_reducible rfl
  rotate_left
  · simp only [Act.put, List.setIfInBounds_toArray, List.set_cons_zero, List.set_cons_succ, i64_w, i32_w]
    rfl
  refine pure_ (i := 23) (N := some 51) (v := ?_) (a' := ?_) #[true, true, true, true, true, true, true, true, true, true, true, true, true, true, true, true, true, true, true, true, true, true, true, true, false, false, false, false] rfl rfl (by kernel_rfl) (fun _ _ _ h => h) (Or.inl ⟨by rfl, ?_⟩) ?_ ?_
  rotate_left
  · intro w'
    go_simp
    with_reducible rfl
  rotate_left
  · simp only [Act.put, List.setIfInBounds_toArray, List.set_cons_zero, List.set_cons_succ, i64_w, i32_w]
    rfl
  refine take_ (i := 24) (N := some 52) (v := ?_) (a' := ?_) #[true, true, true, true, true, true, true, true, true, true, true, true, true, true, true, true, true, true, true, true, true, true, true, true, true, false, false, false] rfl rfl (by kernel_rfl) (fun _ _ _ h => h) (Or.inl ⟨by rfl, ?_⟩) hHeld ?_ ?_
  rotate_left
  · rintro w' ⟨s0, s1, s2⟩
    go_simp
    with_reducible rfl
  rotate_left
  · simp only [Act.put, List.setIfInBounds_toArray, List.set_cons_zero, List.set_cons_succ, i64_w, i32_w]
    rfl
  refine pure_ (i := 25) (N := some 53) (v := ?_) (a' := ?_) #[true, true, true, true, true, true, true, true, true, true, true, true, true, true, true, true, true, true, true, true, true, true, true, true, true, true, false, false] rfl rfl (by kernel_rfl) (fun _ _ _ h => h) (Or.inl ⟨by rfl, ?_⟩) ?_ ?_
  rotate_left
  · intro w'
    go_simp
    with_reducible rfl
  rotate_left
  · simp only [Act.put, List.setIfInBounds_toArray, List.set_cons_zero, List.set_cons_succ, i64_w, i32_w]
    rfl
  refine pure_ (i := 26) (N := some 54) (v := ?_) (a' := ?_) #[true, true, true, true, true, true, true, true, true, true, true, true, true, true, true, true, true, true, true, true, true, true, true, true, true, true, true, false] rfl rfl (by kernel_rfl) (fun _ _ _ h => h) (Or.inl ⟨by rfl, ?_⟩) ?_ ?_
  rotate_left
  · intro w'
    go_simp
    with_reducible rfl
  rotate_left
  · simp only [Act.put, List.setIfInBounds_toArray, List.set_cons_zero, List.set_cons_succ, i64_w, i32_w]
    rfl
  refine pure_ (i := 27) (N := some 2) (v := ?_) (a' := ?_) #[true, true, true, true, true, true, true, true, true, true, true, true, true, true, true, true, true, true, true, true, true, true, true, true, true, true, true, true] rfl rfl (by kernel_rfl) (fun _ _ _ h => h) (Or.inl ⟨by rfl, ?_⟩) ?_ ?_
  rotate_left
  · intro w'
    go_simp
    with_reducible rfl
  rotate_left
  · simp only [Act.put, List.setIfInBounds_toArray, List.set_cons_zero, List.set_cons_succ, i64_w, i32_w]
    rfl
  refine done_ (by kernel_rfl) ?_
  clear P2 P3 P4
  go_wp2_with fail
  go_ret
  exact ⟨rfl, B6.out⟩
end Go.Proofs.Ytiboiociaedocaa.Leb
namespace Go.Proofs.Ytiboiociaedocaa.Opn
open Go.RowKit Go.Proofs.YtiboiociaedocaaW.PrintWords
def u8ok (n : Int) : Prop := (Lit.int .u8 n).wf = true
theorem opU8 : Op_ Try.prog 5 (Kd.int .u8) u8ok (fun _ => 1) := op_int Try.underlying5
theorem u8ok_range {n : Int} (h : u8ok n) : 0 ≤ n ∧ n < 256 := by
  simp [u8ok, Lit.wf] at h
  have h1 : IntKind.u8.min = 0 := by decide
  have h2 : IntKind.u8.max = 255 := by decide
  omega
end Go.Proofs.Ytiboiociaedocaa.Opn
namespace Go.Proofs.Ytiboiociaedocaa.Walk
open Go.RowKit Go.Proofs.Ytiboiociaedocaa.Leb Go.Proofs.Ytiboiociaedocaa.Opn Go.Proofs.YtiboiociaedocaaW.PrintWords
theorem DeltaDecodes (l : List Int) (A : Option Addr) (n : Nat) (W : World) (hl : l.length ≤ n) (hC : (Kd.int .u8).C W A l.length l) (hm : l.length ≤ 9223372036854775807) (hq : ∀ a ∈ l, u8ok a) (hr : l.length * Try.prog.bytesOf 5 ≤ 140737488351232) :
    Calls Try.prog 8 #[.slice A l.length n] W fun e W' => e = .returned (.bool true) ∧ Below W.heap.size W W' := by
  have hb : Try.prog.bytesOf 5 = 1 := by kernel_rfl
  rw [hb] at hr
  exact Leb.decodes_any ⟨hC, hl, fun x hx => u8ok_range (hq x hx), by omega⟩ (by omega)
end Go.Proofs.Ytiboiociaedocaa.Walk
