/- Rows: same, lent, kept. -/
import Derived.Test.YtjpalkggmefpfaaTabFrom3
set_option linter.unusedVariables false
set_option linter.unusedSimpArgs false
namespace Go.Proofs.Ytjpalkggmefpfaa.Tab
open Go.RowKit Go.Proofs.Ytjpalkggmefpfaa.Mem Go.Proofs.YtjpalkggmefpfaaW.PrintWords Go.Proofs.YtjpalkggmefpfaaW.PrintLast Go.Deep Go.Proofs.Ytjpalkggmefpfaa.Opn
attribute [local go_sem ↓] execOp_call_tmp
attribute [local go_sem] callVal_func
theorem rowsC_at : ∀ (l : List Row) (j : Nat) (r : Row), l[j]? = some r → ((rowsC l).drop (j * 3)).take 3 = r.cells
  | [], _, _, h => by simp at h
  | x :: l, 0, r, h => by
    cases h
    simp [rowsC, Row.cells]
  | x :: l, j + 1, r, h => by
    have h2 : (rowsC (x :: l)).drop ((j + 1) * 3) = (rowsC l).drop (j * 3) := by
      rw [show rowsC (x :: l) = x.cells ++ rowsC l from rfl, show (j + 1) * 3 = x.cells.length + j * 3 by simp [Row.cells]; omega, List.drop_append, List.drop_of_length_le (by omega), List.nil_append, Nat.add_sub_cancel_left]
    rw [h2]
    exact rowsC_at l j r h
theorem rowsC_len : ∀ l : List Row, (rowsC l).length = l.length * 3
  | [] => rfl
  | x :: l => by rw [show rowsC (x :: l) = x.cells ++ rowsC l from rfl, List.length_append, rowsC_len l]; simp [Row.cells]; omega
theorem kR_M (w : World) (base : Nat) (ok : Nat → Prop) (r : Row) : kR.M w base ok r r.cells := ⟨[.string r.key], [.string r.value, .int .i64 r.version], rfl, rfl, [.string r.value], [.int .i64 r.version], rfl, rfl, rfl⟩
theorem R_of_own {w : World} {base : Nat} {v : Value} {l : List Row} (h : w.ownsRow base tRow 3 v l.length (rowsC l)) : kR.R tRow w base (fun _ => True) v l := by
  refine ⟨fun _ _ => trivial, rowsC l, h, rowsC_len l, fun j p hj => ?_⟩
  show kR.M _ _ _ _ _
  rw [show ((rowsC l).drop (j * kR.sz)).take kR.sz = p.cells from rowsC_at l j p hj]
  exact kR_M ..
theorem C_of_own {w : World} {base : Nat} {v : Value} {l : List Row} (h : w.ownsRow base tRow 3 v l.length (rowsC l)) : ∃ A c, v = .slice A l.length c ∧ l.length ≤ c ∧ kR.C w A l.length l := Kd.R_reads (R_of_own h)
/-- Two lists that are alike. -/
theorem same_any (w : World) (A B : Option Addr) (c d : Nat) (xs : List Row) (hA : kR.C w A xs.length xs) (hB : kR.C w B xs.length xs) :
    Calls Try.prog 17 #[.slice A xs.length c, .slice B xs.length d] w fun e w' => e = .returned (.bool true) ∧ Below w.heap.size w w' := by
  have HA := Lib.hid hA
  have HB := Lib.hid hB
  have hm := hA.2.1
  clear hA hB
  go_enter Try.func17, Try.ntmps17
  go_wp2
  go_loopg [13] xs.length (fun kq v13 w' => ∃ (i : Nat), v13 = .int .i64 (i : Int) ∧ Hid (i + kq = xs.length) ∧ Hid (∃ m, w' = w.drewN m))
  case atStart => exact ⟨0, rfl, (show _ + _ = _ by omega), Lib.hid ⟨0, rfl⟩⟩
  case round =>
    obtain ⟨i, rfl, HI, HW⟩ := hrel
    obtain ⟨m, rfl⟩ := HW.out
    clear HW
    cases gk with
    | zero =>
      have hi : i = xs.length := HI.out
      have c2 : decide (i < xs.length) = false := by simp; omega
      clear hi
      go_wp2
      go_ret
      exact ⟨rfl, pw_below_drewN (Below.refl _ _) _⟩
    | succ k1 =>
      have hi : i < xs.length := by have := HI.out; omega
      have hu := List.getElem?_eq_getElem hi
      generalize xs[i] = u at *
      obtain ⟨ad, hA, a0, a1, a2⟩ := at_R HA.out hu
      obtain ⟨bd, hB, b0, b1, b2⟩ := at_R HB.out hu
      cases hA
      cases hB
      have c2 : decide (i < xs.length) = true := by simpa using hi
      have p1 := eq_true (show 0 ≤ (i : Int) by omega)
      have p2 := eq_true (show i < xs.length by omega)
      clear hu
      go_wp2_with fail
      go_quiet (fail)
      go_wp2_with fail
      go_roundg k1
      case measure => exact Nat.lt_succ_self _
      case rel => exact ⟨i + 1, rfl, Lib.hid (by have := HI.out; omega), Lib.hid ⟨_, rfl⟩⟩
abbrev sp7 : Row := ⟨⟨#[115, 112, 97, 114, 101]⟩, ⟨#[]⟩, 7⟩
abbrev sp8 : Row := ⟨⟨#[115, 112, 97, 114, 101]⟩, ⟨#[]⟩, 8⟩
theorem info_R : (Try.prog.info? 25).map (fun i => (i.zero, i.size, i.bytes)) = some (some (.agg #[.string ⟨#[]⟩, .string ⟨#[]⟩, .int .i64 0]), kR.sz, 40) := infoRow
set_option maxHeartbeats 3200000 in
set_option maxRecDepth 100000 in
/-- A copy, with room behind it that is taken. -/
theorem lend_any {w : World} {A : Option Addr} {c : Nat} {l : List Row} (hC : kR.C w A l.length l) (hbig : l.length ≤ 3518437208780) :
    Calls Try.prog 13 #[.slice A l.length c] w fun e w' => ∃ v cap, kR.R tRow w' w.heap.size (fun _ => True) (.slice (some ⟨v, 0, none⟩) (l.length + 2) cap) (l ++ [sp7, sp8]) ∧ e = .returned (.tuple #[.slice (some ⟨v, 0, none⟩) (l.length + 2) cap, .slice (some ⟨v, 0, none⟩) l.length cap]) ∧ l.length + 2 ≤ cap ∧ Below w.heap.size w w' := by
  have HC := Lib.hid hC
  have C0 := Lib.hid (Kd.C_below hC (below_alloc (Below.refl w.heap.size w) (.cells #[] tRow)))
  clear hC
  have B0 := Lib.hid (below_alloc (Below.refl w.heap.size w) (.cells #[] tRow))
  have R0 : Hid (kR.R tRow (w.alloc (.cells #[] tRow)) w.heap.size (fun _ => True) (.slice (some ⟨w.heap.size, 0, none⟩) 0 0) []) := Lib.hid (R_of_own (World.ownsRow_lit (base := w.heap.size) (e := tRow) (size := 3) w #[] 0 (Nat.le_refl _) (by decide) rfl))
  go_enter Try.func13, Try.ntmps13
  go_wp2_with (first
    | (at_builtin; refine Kd.R_append_rows kR (Rr := kR.K (w.alloc (.cells #[] tRow))) (w0 := w) w.heap.size rfl (.tmp 5) (.tmp 6) 29 tRow (.agg #[.string ⟨#[]⟩, .string ⟨#[]⟩, .int .i64 0]) 40 rfl Try.underlying29 info_R rfl (by decide) (by decide) (.slice (some ⟨w.heap.size, 0, none⟩) 0 0) [] l A l.length c (fun _ => True) (fun _ => False) rfl rfl R0.out C0.out (fun _ _ h => h) (fun _ h => h.elim) (fun _ _ => trivial) B0.out B0.out.size (by simp only [List.length_nil]; omega) ?_; intro v1 w1 hr1 hb1 hg1 hat1; rw [List.nil_append] at hr1; obtain ⟨A1, c1, rfl⟩ := Kd.R_slice hr1; (have R2 := Lib.hid (Kd.R_alloc hr1 (.cells #[.string ⟨#[115, 112, 97, 114, 101]⟩, .string ⟨#[]⟩, .int .i64 7, .string ⟨#[115, 112, 97, 114, 101]⟩, .string ⟨#[]⟩, .int .i64 8] tRow))); (have B2 := Lib.hid (below_alloc hb1 (.cells #[.string ⟨#[115, 112, 97, 114, 101]⟩, .string ⟨#[]⟩, .int .i64 7, .string ⟨#[115, 112, 97, 114, 101]⟩, .string ⟨#[]⟩, .int .i64 8] tRow))); (have C2 := Lib.hid ((Kd.R_reads' (R_of_own (l := [sp7, sp8]) (World.ownsRow_lit (base := w.heap.size) (e := tRow) (size := 3) w1 #[.string ⟨#[115, 112, 97, 114, 101]⟩, .string ⟨#[]⟩, .int .i64 7, .string ⟨#[115, 112, 97, 114, 101]⟩, .string ⟨#[]⟩, .int .i64 8] 2 hb1.size (by decide) rfl))).2.2)); clear hr1 hb1 hg1 hat1)
    | (at_builtin; refine Kd.R_append_rows kR (Rr := kR.K (w1.alloc (.cells #[.string ⟨#[115, 112, 97, 114, 101]⟩, .string ⟨#[]⟩, .int .i64 7, .string ⟨#[115, 112, 97, 114, 101]⟩, .string ⟨#[]⟩, .int .i64 8] tRow))) (w0 := w) w.heap.size rfl (.tmp 7) (.tmp 10) 29 tRow (.agg #[.string ⟨#[]⟩, .string ⟨#[]⟩, .int .i64 0]) 40 rfl Try.underlying29 info_R rfl (by decide) (by decide) (.slice A1 l.length c1) l [sp7, sp8] (some ⟨w1.heap.size, 0, none⟩) 2 2 (fun _ => True) (fun _ => False) rfl rfl R2.out C2.out (fun _ _ h => h) (fun _ h => h.elim) (fun _ _ => trivial) B2.out B2.out.size (by omega) ?_; intro v3 w3 hr3 hb3 hg3 hat3; obtain ⟨g3, c3, rfl, _⟩ := Kd.R_form hr3 (by simp); rw [show (l ++ [sp7, sp8]).length = l.length + 2 by simp] at hr3 ⊢; (have hc3 := (Kd.R_reads' hr3).2.1); (have R3 := Lib.hid hr3); (have B3 := Lib.hid hb3); clear hr3 hb3 hg3 hat3)
    | fail)
  have HCC := Lib.hid hc3
  have p1 := eq_true (show 0 ≤ (l.length : Int) by omega)
  have p2 := eq_true (show l.length ≤ c3 by omega)
  have p3 := eq_true (show (l.length : Int) ≤ c3 by omega)
  clear hc3
  go_quiet (fail)
  go_wp2
  refine bodyPost_ret (v := .tuple #[.slice (some ⟨g3, 0, none⟩) (l.length + 2) c3, .slice (some ⟨g3, 0, none⟩) l.length c3]) (by simp [results, Try.results13, go_sem]) rfl ⟨g3, c3, Kd.R_drewN R3.out _, rfl, HCC.out, pw_below_drewN B3.out _⟩
set_option maxHeartbeats 1600000 in
/-- What is kept agrees with what was lent. -/
theorem kept_any {w : World} {A B : Option Addr} {c d : Nat} {l : List Row} (hC : kR.C w A l.length l) (hD : kR.C w B (l.length + 2) (l ++ [sp7, sp8])) (hbig : l.length ≤ 3518437208780) :
    Calls Try.prog 16 #[.slice B (l.length + 2) d, .slice A l.length c] w fun e w' => e = .returned (.bool true) ∧ Below w.heap.size w w' := by
  have HC := Lib.hid hC
  have HD := Lib.hid hD
  clear hC hD
  go_enter Try.func16, Try.ntmps16
  go_wp2_with fail
  refine (lend_any HC.out hbig).mono ?_
  rintro e w1 ⟨v, cap, hR, rfl, hcap, hb⟩
  have B1 := Lib.hid hb
  have D1 := Lib.hid (Kd.C_below HD.out hb)
  have hle : (l ++ [sp7, sp8]).length = l.length + 2 := by simp
  have C1 := Lib.hid (show kR.C w1 (some ⟨v, 0, none⟩) (l ++ [sp7, sp8]).length (l ++ [sp7, sp8]) from (Kd.R_reads' hR).2.2)
  clear hR hb hcap hbig HC HD
  go_wp2_with fail
  have hs := same_any w1 B (some ⟨v, 0, none⟩) d cap (l ++ [sp7, sp8]) (by rw [hle]; exact D1.out) C1.out
  rw [hle] at hs
  refine hs.mono ?_
  clear hs
  rintro e w2 ⟨rfl, hb2⟩
  have B2 := Lib.hid (below_then B1.out B1.out.size hb2)
  clear hb2 hle
  go_wp2
  go_ret
  exact ⟨rfl, B2.out⟩
theorem whole_any (w : World) : Calls Try.prog 19 #[] w fun e w' => e = .returned (.agg #[.string ⟨#[]⟩, .string ⟨#[]⟩]) ∧ Below w.heap.size w w' := by
  have P := Lib.hid (blk_new w (.cells #[.string ⟨#[]⟩, .string ⟨#[]⟩] 39))
  have B := Lib.hid (below_alloc (Below.refl w.heap.size w) (.cells #[.string ⟨#[]⟩, .string ⟨#[]⟩] 39))
  have hus := Try.underlying39
  have cp := blkc P.out
  have zp := blkz P.out
  go_enter Try.func19, Try.ntmps19
  go_wp2
  exact bodyPost_ret (v := .agg #[.string ⟨#[]⟩, .string ⟨#[]⟩]) (by simp [results, Try.results19, go_sem, hus, cp]) rfl ⟨rfl, B.out⟩
end Go.Proofs.Ytjpalkggmefpfaa.Tab
