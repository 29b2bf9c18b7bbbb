/- The document's Get, Size; the first so many. -/
import Derived.Test.YtjpalkggmefpfaaTabRef2
import Derived.Test.YtjpalkggmefpfaaTableOrder
set_option linter.unusedVariables false
set_option linter.unusedSimpArgs false
namespace Go.Proofs.Ytjpalkggmefpfaa.Tab
open Go.RowKit Go.Proofs.Ytjpalkggmefpfaa.Mem Go.Proofs.YtjpalkggmefpfaaW.PrintWords Go.Proofs.YtjpalkggmefpfaaW.PrintLast Go.Deep Go.Proofs.Ytjpalkggmefpfaa.Opn
attribute [local go_sem ↓] execOp_call_tmp
attribute [local go_sem] callVal_func
set_option maxHeartbeats 3200000 in
theorem rget_any {w : World} {A : Option Addr} {c : Nat} {l : List Row} (hC : kR.C w A l.length l) (hl : LOk l) (k : ByteArray) :
    Calls Try.prog 59 #[.slice A l.length c, .string k] w fun e w' => e = .returned (.tuple #[((find l k).getD Row.zero).val, .bool (find l k).isSome]) ∧ Below w.heap.size w w' := by
  have HC := Lib.hid (Kd.C_below hC (below_alloc (Below.refl w.heap.size w) (.cells #[.string ⟨#[]⟩, .string ⟨#[]⟩, .int .i64 0] tRow)))
  have P0 := Lib.hid (blk_new w (.cells #[.string ⟨#[]⟩, .string ⟨#[]⟩, .int .i64 0] tRow))
  have B0 := Lib.hid (below_alloc (Below.refl w.heap.size w) (.cells #[.string ⟨#[]⟩, .string ⟨#[]⟩, .int .i64 0] tRow))
  have hln := hl.len
  have hus := Try.underlying25
  have hPl : (below k l).length ≤ l.length := List.length_filter_le ..
  have hAF := fun o => at_find (o := o) hl.up k
  have hAN := at_none hl.up k
  have hpl := place_any (c := c) HC.out hl.up (by omega) k
  obtain ⟨P, hPe⟩ : ∃ P, (below k l).length = P := ⟨_, rfl⟩
  rw [hPe] at hPl hAN hpl
  simp only [hPe] at hAF
  have HPL := Lib.hid hPl
  have HAF := Lib.hid hAF
  have HAN := Lib.hid hAN
  have HPC := Lib.hid hpl
  clear hPe hAF hAN hpl hC hl
  go_enter Try.func59, Try.ntmps59
  go_wp2_with fail
  generalize (World.alloc w _) = W0 at *
  refine HPC.out.mono ?_
  rintro e w2 ⟨rfl, rfl⟩
  have zp := blkz P0.out
  have cp := blkc P0.out
  by_cases hPlt : P < l.length
  · have hu := List.getElem?_eq_getElem hPlt
    generalize l[P] = o at *
    obtain ⟨ad, hA, x0, x1, x2⟩ := at_R HC.out hu
    cases hA
    have p1 := eq_true (show 0 ≤ (P : Int) by omega)
    have p2 := eq_true hPlt
    have d2 : decide (P < l.length) = true := by simpa using hPlt
    have HU := Lib.hid hu
    cases heq : eq o.key k with
    | true =>
      have d1 : (o.key.toList == k.toList) = true := heq
      have hfs : find l k = some o := by
        cases hf : find l k with
        | some o2 => have h := (HAF.out o2 hf).1; rw [HU.out] at h; cases h; rfl
        | none => have := (HAN.out hf).2 o HU.out; rw [heq] at this; cases this
      have HE := Lib.hid hfs
      have P1 := Lib.hid (set_row3 P0.out rfl (.string o.key) (.string o.value) (.int .i64 o.version))
      have B1 := Lib.hid (below_row3 (b := w.heap.size) B0.out (Nat.le_refl _) (.string o.key) (.string o.value) (.int .i64 o.version))
      clear hu heq hfs hPlt HPC hPl
      go_wp2_with fail
      rw [HE.out]
      have c1 := blkc P1.out
      exact bodyPost_ret (v := .tuple #[o.val, .bool true]) (by simp [results, Try.results59, go_sem, hus, c1]) rfl ⟨rfl, B1.out⟩
    | false =>
      have d1 : (o.key.toList == k.toList) = false := heq
      have hfn : find l k = none := by
        cases hf : find l k with
        | none => rfl
        | some o2 =>
          obtain ⟨h1, h2, _⟩ := HAF.out o2 hf
          rw [HU.out] at h1
          cases h1
          rw [heq] at h2
          cases h2
      have HE := Lib.hid hfn
      have P1 := Lib.hid (set_row3 P0.out rfl (.string ⟨#[]⟩) (.string ⟨#[]⟩) (.int .i64 0))
      have B1 := Lib.hid (below_row3 (b := w.heap.size) B0.out (Nat.le_refl _) (.string ⟨#[]⟩) (.string ⟨#[]⟩) (.int .i64 0))
      clear hu heq hfn hPlt HPC hPl
      go_wp2_with fail
      rw [HE.out]
      have c1 := blkc P1.out
      exact bodyPost_ret (v := .tuple #[Row.zero.val, .bool false]) (by simp [results, Try.results59, go_sem, hus, c1, Row.zero]) rfl ⟨rfl, B1.out⟩
  · have hfn : find l k = none := by
      cases hf : find l k with
      | none => rfl
      | some o2 => exact absurd (List.getElem?_eq_some_iff.1 (HAF.out o2 hf).1).1 hPlt
    have d2 : decide (P < l.length) = false := by simpa using hPlt
    have HE := Lib.hid hfn
    have P1 := Lib.hid (set_row3 P0.out rfl (.string ⟨#[]⟩) (.string ⟨#[]⟩) (.int .i64 0))
    have B1 := Lib.hid (below_row3 (b := w.heap.size) B0.out (Nat.le_refl _) (.string ⟨#[]⟩) (.string ⟨#[]⟩) (.int .i64 0))
    clear hfn hPlt HPC hPl
    go_wp2_with fail
    rw [HE.out]
    have c1 := blkc P1.out
    exact bodyPost_ret (v := .tuple #[Row.zero.val, .bool false]) (by simp [results, Try.results59, go_sem, hus, c1, Row.zero]) rfl ⟨rfl, B1.out⟩
set_option maxHeartbeats 3200000 in
theorem rsize_any {w : World} {A : Option Addr} {c : Nat} {l : List Row} (hC : kR.C w A l.length l) (hl : LOk l) :
    Calls Try.prog 62 #[.slice A l.length c] w fun e w' => e = .returned (.int .i64 (size l)) ∧ Below w.heap.size w w' := by
  have HC := Lib.hid hC
  have OK := Lib.hid hl
  have hln := hl.len
  clear hC hl
  go_enter Try.func62, Try.ntmps62
  go_wp2_with fail
  go_loopg [3, 8] l.length (fun kq v3 v8 w' => ∃ (i : Nat), v3 = .int .i64 (size (l.take i)) ∧ v8 = .int .i64 (i : Int) ∧ Hid (i + kq = l.length) ∧ Hid (Below w.heap.size w w'))
  case atStart => exact ⟨0, rfl, rfl, (show _ + _ = _ by omega), Lib.hid (Below.refl _ _)⟩
  case round =>
    obtain ⟨i, rfl, rfl, HI, HB⟩ := hrel
    cases gk with
    | zero =>
      have hi : i = l.length := HI.out
      have c3 : decide (i < l.length) = false := by simp; omega
      have HSZ := Lib.hid (show size (l.take i) = size l by rw [hi, List.take_length])
      clear hi
      go_wp2
      go_ret
      exact ⟨by rw [← HSZ.out]; rfl, HB.out⟩
    | succ k1 =>
      have hi : i < l.length := by have := HI.out; omega
      have hu := List.getElem?_eq_getElem hi
      generalize l[i] = r at *
      obtain ⟨ad, hA, x0, x1, x2⟩ := at_R (Kd.C_below HC.out HB.out) hu
      cases hA
      have e1 := wrap_kv OK.out hu
      have e2 := wrap_sum OK.out hu
      have HE2 := Lib.hid e2
      have c3 : decide (i < l.length) = true := by simpa using hi
      have p1 := eq_true (show 0 ≤ (i : Int) by omega)
      have p2 := eq_true (show i < l.length by omega)
      have P4 := Lib.hid (blk_new wr (.cells #[.string r.key, .string r.value, .int .i64 r.version] tRow))
      have B4 := Lib.hid (below_alloc HB.out (.cells #[.string r.key, .string r.value, .int .i64 r.version] tRow))
      clear hu HB
      go_upto_region 5 with (fail)
      generalize wr.heap.size = q at *
      generalize (World.alloc wr _) = W4 at *
      clear x0 x1 x2
      have cp := blkc P4.out
      go_wp2_with fail
      go_roundg k1
      case measure => exact Nat.lt_succ_self _
      case rel => exact ⟨i + 1, by first | rfl | rw [← HE2.out] | (rw [HE2.out]), by go_num, Lib.hid (by have := HI.out; omega), B4⟩
theorem first_any {w : World} {A : Option Addr} {c : Nat} {l : List Row} (hC : kR.C w A l.length l) (hcap : l.length ≤ c) (hlen : l.length ≤ 1099511627776) (most : Int) :
    Calls Try.prog 61 #[.slice A l.length c, .int .i64 most] w fun e w' => e = .returned (.slice A (firstN l most).length c) ∧ kR.C w A (firstN l most).length (firstN l most) ∧ w = w' := by
  have HC := Lib.hid hC
  by_cases h0 : 0 ≤ most
  · by_cases h1 : most < l.length
    · have d0 : decide (0 ≤ most) = true := by simpa using h0
      have d1 : decide (most < (l.length : Int)) = true := by simpa using h1
      have hm : most.toNat ≤ l.length := by omega
      have hcut := run_cutTo A l.length c most.toNat hm hcap
      have hmt : ((most.toNat : Nat) : Int) = most := Int.toNat_of_nonneg h0
      rw [hmt] at hcut
      have hf : firstN l most = l.take most.toNat := by unfold firstN; rw [if_pos ⟨h0, h1⟩]
      have hfl : (l.take most.toNat).length = most.toNat := by rw [List.length_take]; omega
      have HF := Lib.hid (And.intro hf hfl)
      have HCT := Lib.hid (C_cutTo HC.out hm)
      clear hf hfl hmt hm
      go_enter Try.func61, Try.ntmps61
      go_wp2
      go_ret
      rw [HF.out.1, HF.out.2]
      exact ⟨rfl, HCT.out, rfl⟩
    · have d0 : decide (0 ≤ most) = true := by simpa using h0
      have d1 : decide (most < (l.length : Int)) = false := by simpa using h1
      have HF := Lib.hid (show firstN l most = l by unfold firstN; rw [if_neg (by omega)])
      go_enter Try.func61, Try.ntmps61
      go_wp2
      go_ret
      rw [HF.out]
      exact ⟨rfl, HC.out, rfl⟩
  · have d0 : decide (0 ≤ most) = false := by simpa using h0
    have HF := Lib.hid (show firstN l most = l by unfold firstN; rw [if_neg (by omega)])
    go_enter Try.func61, Try.ntmps61
    go_wp2
    go_ret
    rw [HF.out]
    exact ⟨rfl, HC.out, rfl⟩

end Go.Proofs.Ytjpalkggmefpfaa.Tab
