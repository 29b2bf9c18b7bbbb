/- DeltaSplits, walked: Split takes what the document's Split takes, of any bytes (of bulk at most 1048576). -/
import Derived.Test.YtiboiociaedocaaSplit
set_option linter.unusedVariables false
set_option linter.unusedSimpArgs false
namespace Go.Proofs.Ytiboiociaedocaa.Leb
open Go.RowKit Go.Proofs.Ytiboiociaedocaa.CutPlain Go.Proofs.Ytiboiociaedocaa.PDeltaStreams Go.Proofs.YtiboiociaedocaaW.PrintWords Go.Proofs.YtiboiociaedocaaW.PrintLast Go.Proofs.Ytiboiociaedocaa.CutDec Go.Proofs.Ytiboiociaedocaa.Mem Go.Proofs.Ytiboiociaedocaa.Byt Go.Proofs.Ytiboiociaedocaa.Chk Go.Proofs.Ytiboiociaedocaa.Opn Go.Proofs.Ytiboiociaedocaa.Str
theorem lit_rd : rdT [6, 1, 1, 1, 2, 1, 97, 6] = some (strOfNums [1, 1, 1, 2, 1, 97], [6]) := by
  rw [rdT, rd1_small (by decide)]
  rfl
theorem lit_end : rdT [6] = none := by
  rw [rdT, rd1_small (by decide)]
  rfl
theorem lit_isB : IsB [1, 1, 1, 2, 1, 97] := by intro x hx; simp at hx; omega
theorem lit_dec : decU (bytesOf (strOfNums [1, 1, 1, 2, 1, 97])) = some (1, 1, 1, 2, ⟨#[97]⟩, ⟨#[]⟩, 0) := by
  rw [bytes_strOf lit_isB, ← third_enc, decU_enc first_check]
theorem lit_spl : splU [6, 1, 1, 1, 2, 1, 97, 6] = ([(1, 1, 1, 2, ⟨#[97]⟩, ⟨#[]⟩, 0)], 7) := by
  rw [splU_some lit_rd lit_dec, splU_none lit_end]
  rfl
theorem split_lit {w : World} {A : Option Addr} {c : Nat} (hC : kB.C w A 8 [6, 1, 1, 1, 2, 1, 97, 6]) (hc : 8 ≤ c) :
    Calls Try.prog 31 #[.slice A 8 c] w fun e w' => ∃ A' c', e = .returned (.tuple #[.slice A' 1 c', .int .i64 7]) ∧ Below w.heap.size w w' := by
  refine (split_any (bs := [6, 1, 1, 1, 2, 1, 97, 6]) ⟨hC, hc, by intro x hx; simp at hx; omega, by decide⟩ (by decide)).mono fun e w' ⟨v, he, hr, hb⟩ => ?_
  rw [lit_spl] at he hr
  obtain ⟨A', c', rfl, _⟩ := Kd.R_reads hr
  exact ⟨A', c', he, hb⟩
set_option maxHeartbeats 12800000 in
set_option maxRecDepth 100000 in
theorem splits_any {w : World} {A : Option Addr} {c : Nat} {bs : List Int} (hS : Src w A c bs) (hl : bs.length ≤ 1048576) :
    Calls Try.prog 9 #[.slice A bs.length c] w fun e w' => e = .returned (.bool true) ∧ Below w.heap.size w w' := by
  have SR := Lib.hid hS
  have HL := Lib.hid hl
  have HO0 := Lib.hid (own_nil w w.heap.size 5 1)
  have HB0 := Lib.hid (Below.refl w.heap.size w)
  clear hS hl
  go_enter Try.func9, Try.ntmps9
  go_wp2_with ((with_reducible refine gate_builtin (b := .append) (xs := #[.const (.slice none 0 0), .tmp 10]) rfl ?_); at_builtin; refine print_append_row (w0 := w) w.heap.size rfl (.const (.slice none 0 0)) (.tmp 10) 49 5 .u8 1 rfl Try.underlying49 info_u8 (by decide) (.slice none 0 0) [] bs A bs.length c rfl rfl HO0.out (Kd.reads_of_C (enc := Value.int .u8) (d := (0 : Int)) (h1 := fun _ => rfl) SR.out.C) HB0.out HB0.out.size (by have := HL.out; simp; omega) ?_; intro v1 w1 ho1 hb1 hg1 hat1; rw [List.nil_append] at ho1; obtain ⟨A1, c1, rfl, hc1, hr1⟩ := Kd.R_reads (R_of_owns (ok := fun _ => True) ho1 (fun _ _ => trivial)); have HO1 := Lib.hid ho1; have HB1 := Lib.hid hb1; have S1 := Lib.hid (show Src w1 A1 c1 bs from ⟨hr1, hc1, SR.out.B, SR.out.l⟩); clear ho1 hb1 hg1 hat1 hr1 hc1)
  refine (split_any S1.out HL.out).mono ?_
  rintro e w2 ⟨v2, rfl, hr2, hb2⟩
  obtain ⟨A2, c2, rfl, hc2, hC2⟩ := Kd.R_reads hr2
  have HN := Lib.hid (splU_le bs)
  obtain ⟨L, hL⟩ : ∃ L, (splU bs).1.map toSU = L := ⟨_, rfl⟩
  obtain ⟨N, hN⟩ : ∃ N, (splU bs).2 = N := ⟨_, rfl⟩
  have HLL := Lib.hid (show L.length ≤ 1048576 by have h1 := HN.out.2; have h2 := HL.out; rw [← hL, List.length_map]; omega)
  rw [hL] at hC2 hc2 ⊢
  rw [hN]
  have HLN := Lib.hid (And.intro hL hN)
  have C2 := Lib.hid hC2
  have HC2 := Lib.hid hc2
  have O2 := Lib.hid (pw_own_below HO1.out hb2)
  have B2 := Lib.hid (below_then HB1.out HB1.out.size hb2)
  clear hr2 hb2 hc2 hC2 hL hN HO1 HB1 S1 HB0 HO0 HN
  go_wp2_with fail
  refine (rsplit_any (SR.out.below B2.out) HL.out).mono ?_
  rintro e w3 ⟨v3, rfl, hr3, hb3⟩
  obtain ⟨A3, c3, rfl, hc3, hC3⟩ := Kd.R_reads hr3
  rw [HLN.out.1] at hC3 hc3 ⊢
  rw [HLN.out.2]
  rw [List.length_map] at hC3 hc3 ⊢
  have C3 := Lib.hid hC3
  have HC3 := Lib.hid hc3
  have C2 := Lib.hid (Kd.C_below C2.out hb3)
  have O3 := Lib.hid (pw_own_below O2.out hb3)
  have B3 := Lib.hid (below_then B2.out B2.out.size hb3)
  clear hr3 hb3 hc3 hC3 O2 B2
  have hcv : (convert tBs tBs (.slice (some ⟨w3.heap.size, 0, none⟩) 8 8)).run Try.prog (w3.alloc (.cells #[.int .u8 6, .int .u8 1, .int .u8 1, .int .u8 1, .int .u8 2, .int .u8 1, .int .u8 97, .int .u8 6] 5)) = .ok (.slice (some ⟨w3.heap.size, 0, none⟩) 8 8) (w3.alloc (.cells #[.int .u8 6, .int .u8 1, .int .u8 1, .int .u8 1, .int .u8 2, .int .u8 1, .int .u8 97, .int .u8 6] 5 (8, 9))) := Lib.run_convert_bytes_const w3 tBs 5 #[.int .u8 6, .int .u8 1, .int .u8 1, .int .u8 1, .int .u8 2, .int .u8 1, .int .u8 97, .int .u8 6] 8 8 Try.underlying49 Try.underlying5
  have hC9 := Leb.C_lit w3 [6, 1, 1, 1, 2, 1, 97, 6] (by decide) (8, 9)
  have ba := below_alloc (Below.refl w3.heap.size w3) (.cells #[.int .u8 6, .int .u8 1, .int .u8 1, .int .u8 1, .int .u8 2, .int .u8 1, .int .u8 97, .int .u8 6] 5 (8, 9))
  have HC9 := Lib.hid hC9
  have C2 := Lib.hid (Kd.C_below C2.out ba)
  have C3 := Lib.hid (Kd.C_below C3.out ba)
  have O3 := Lib.hid (pw_own_below O3.out ba)
  have B3 := Lib.hid (below_then B3.out B3.out.size ba)
  clear hC9 ba
  go_wp2_with fail
  refine (split_lit HC9.out (Nat.le_refl _)).mono ?_
  rintro e w4 ⟨A4, c4, rfl, hb4⟩
  have C2 := Lib.hid (Kd.C_below C2.out hb4)
  have C3 := Lib.hid (Kd.C_below C3.out hb4)
  have O4 := Lib.hid (pw_own_below O3.out hb4)
  have B4 := Lib.hid (below_then B3.out B3.out.size hb4)
  clear hb4 O3 B3 HC9 hcv
  go_wp2_with fail
  refine (same_any L A2 A3 c2 c3 HC2.out HC3.out HLL.out w4 C2.out C3.out).mono ?_
  rintro e w5 ⟨rfl, hb5⟩
  have O5 := Lib.hid (pw_own_below O4.out hb5)
  have B5 := Lib.hid (below_then B4.out B4.out.size hb5)
  clear hb5 O4 B4
  have st1 := own_string Try.underlying49 Try.underlying5 Try.underlying9 O5.out
  have st2 := Kd.C_string (src := tBs) (dst := 9) (c := c) Try.underlying49 Try.underlying5 Try.underlying9 (SR.out.below B5.out).C
  go_wp2_with fail
  go_ret
  exact ⟨by simp, B5.out⟩
end Go.Proofs.Ytiboiociaedocaa.Leb
namespace Go.Proofs.Ytiboiociaedocaa.Walk
open Go.RowKit Go.Proofs.Ytiboiociaedocaa.Leb Go.Proofs.Ytiboiociaedocaa.Opn Go.Proofs.YtiboiociaedocaaW.PrintWords
theorem DeltaSplits (l : List Int) (A : Option Addr) (n : Nat) (W : World) (hl : l.length ≤ n) (hC : (Kd.int .u8).C W A l.length l) (hm : l.length ≤ 9223372036854775807) (hq : ∀ a ∈ l, u8ok a) (hb : sumOf (fun _ => 1) l + 1 ≤ 1048576) :
    Calls Try.prog 9 #[.slice A l.length n] W fun e W' => e = .returned (.bool true) ∧ Below W.heap.size W W' := by
  have := sumOf_len (m := fun (_ : Int) => 1) (fun x => Nat.le_refl _) l
  exact Leb.splits_any ⟨hC, hl, fun x hx => u8ok_range (hq x hx), by omega⟩ (by omega)
end Go.Proofs.Ytiboiociaedocaa.Walk
