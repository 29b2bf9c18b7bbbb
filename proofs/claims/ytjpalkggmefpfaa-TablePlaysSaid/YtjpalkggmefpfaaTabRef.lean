/- The document's place, In, Put, Delete, Rows, walked. -/
import Derived.Test.YtjpalkggmefpfaaTabRefPlain
import Derived.Test.YtjpalkggmefpfaaTabAct
set_option linter.unusedVariables false
set_option linter.unusedSimpArgs false
namespace Go.Proofs.Ytjpalkggmefpfaa.Tab
open Go.RowKit Go.Proofs.Ytjpalkggmefpfaa.Mem Go.Proofs.YtjpalkggmefpfaaW.PrintWords Go.Proofs.YtjpalkggmefpfaaW.PrintLast Go.Deep Go.Proofs.Ytjpalkggmefpfaa.Opn
attribute [local go_sem ↓] execOp_call_tmp
attribute [local go_sem] callVal_func
set_option maxHeartbeats 1600000 in
theorem place_any {w : World} {A : Option Addr} {c : Nat} {l : List Row} (hC : kR.C w A l.length l) (hu : Up l) (hlen : l.length ≤ 1099511627776) (key : ByteArray) :
    Calls Try.prog 58 #[.slice A l.length c, .string key] w fun e w' => e = .returned (.int .i64 ((below key l).length : Int)) ∧ w = w' := by
  have HC := Lib.hid hC
  have HU := Lib.hid hu
  have HLN := Lib.hid hlen
  have hP : (below key l).length ≤ l.length := List.length_filter_le ..
  obtain ⟨P, hPe⟩ : ∃ P, (below key l).length = P := ⟨_, rfl⟩
  rw [hPe] at hP ⊢
  have HPE := Lib.hid hPe
  have HP := Lib.hid hP
  clear hC hu hlen hP hPe
  go_enter Try.func58, Try.ntmps58
  go_wp2_with fail
  go_loopg [5, 6] l.length (fun kq v5 v6 w' => ∃ (lo hi : Nat), v5 = .int .i64 (lo : Int) ∧ v6 = .int .i64 (hi : Int) ∧ Hid (lo ≤ P ∧ P ≤ hi ∧ hi ≤ l.length ∧ hi ≤ lo + kq) ∧ w = w')
  case atStart => exact ⟨0, l.length, rfl, rfl, Lib.hid ⟨Nat.zero_le _, HP.out, Nat.le_refl _, by omega⟩, rfl⟩
  case round =>
    obtain ⟨lo, hi, rfl, rfl, HB, rfl⟩ := hrel
    by_cases h : lo < hi
    · have d1 : decide (lo < hi) = true := by simpa using h
      obtain ⟨gk, rfl⟩ : ∃ k, gk = k + 1 := ⟨gk - 1, by have := HB.out; omega⟩
      obtain ⟨m, hm⟩ : ∃ m : Nat, ((lo : Int) + (hi : Int)) / 2 = (m : Int) := ⟨(lo + hi) / 2, by omega⟩
      have hml : m < l.length := by have := HB.out; omega
      have hmb := HB.out
      have hln := HLN.out
      have f1 : wrap64 ((lo : Int) + (hi : Int)) = (lo : Int) + (hi : Int) := by rw [← i64_w]; exact IntWalk.i64_in _ (by omega)
      have e0 : wrap64 (((lo : Int) + (hi : Int)).tdiv 2) = (m : Int) := by rw [← i64_w, IntWalk.i64_quo _ _ (by omega), hm]
      have HE0 := Lib.hid e0
      have HF1 := Lib.hid (show wrap64 ((m : Int) + 1) = ((m + 1 : Nat) : Int) by rw [← i64_w, IntWalk.i64_in _ (by omega)]; rfl)
      have HM := Lib.hid (show lo ≤ m ∧ m < hi by omega)
      have hu := List.getElem?_eq_getElem hml
      generalize l[m] = r at *
      obtain ⟨ad, hA, x0, x1, x2⟩ := at_R HC.out hu
      cases hA
      have HAT := Lib.hid (at_below key HU.out hu)
      rw [HPE.out] at HAT
      have p1 := eq_true (show 0 ≤ (m : Int) by omega)
      have p2 := eq_true hml
      clear h hm hmb hln hu hml x1 x2
      cases hlt : lt r.key key with
      | true =>
        have d2 : Op.bytesLess r.key.toList key.toList = true := hlt
        have HQ := Lib.hid (show m < P by have := HAT.out; rw [hlt] at this; simpa using this.symm)
        clear hlt
        go_wp2_with fail
        go_roundg gk
        case measure => exact Nat.lt_succ_self _
        case rel => exact ⟨m + 1, hi, by first | rw [HE0.out, HF1.out] | rw [HF1.out], rfl, Lib.hid (by have := HB.out; have := HM.out; have := HQ.out; omega), rfl⟩
      | false =>
        have d2 : Op.bytesLess r.key.toList key.toList = false := hlt
        have HQ := Lib.hid (show P ≤ m by have := HAT.out; rw [hlt] at this; simpa using this.symm)
        clear hlt
        go_wp2_with fail
        go_roundg gk
        case measure => exact Nat.lt_succ_self _
        case rel => exact ⟨lo, m, rfl, by rw [HE0.out], Lib.hid (by have := HB.out; have := HM.out; have := HQ.out; omega), rfl⟩
    · have d1 : decide (lo < hi) = false := by simpa using h
      have HL := Lib.hid (show lo = P by have := HB.out; omega)
      clear h
      go_wp2
      go_ret
      exact ⟨by rw [HL.out]; rfl, rfl⟩
theorem in_any (f u k : ByteArray) (w : World) : Calls Try.prog 50 #[.agg #[.string f, .string u], .string k] w fun e w' => e = .returned (.bool (lies f u k)) ∧ Below w.heap.size w w' := by
  have P := Lib.hid (blk_new w (.cells #[.string f, .string u] 39))
  have B := Lib.hid (below_alloc (Below.refl w.heap.size w) (.cells #[.string f, .string u] 39))
  have cp := blkc P.out
  unfold lies
  go_enter Try.func50, Try.ntmps50
  go_wp2_with fail
  all_goals (go_ret; refine ⟨?_, B.out⟩; simp_all)
theorem C_cutTo {w : World} {A : Option Addr} {l : List Row} (h : kR.C w A l.length l) {i : Nat} (hi : i ≤ l.length) : kR.C w A i (l.take i) := by
  have := Kd.C_take h hi
  rwa [List.length_take, Nat.min_eq_left hi] at this
theorem run_cutTo (A : Option Addr) (n c i : Nat) (hi : i ≤ n) (hc : n ≤ c) : ∀ W : World, (Instr.slice tRows (.slice A n c) none (some (.int .i64 (i : Int))) none).run Try.prog W = .ok (.slice A i c) W := by
  obtain ⟨i0, hi0, hz0, hz1, hz2⟩ := info_parts infoRow
  intro W
  have h := cut_to tRows tRow .i64 Try.underlying29 hi0 A n c (i : Int) (by omega) (by omega) hc W
  rwa [Int.toNat_natCast] at h
theorem C_cutFrom {w : World} {A : Option Addr} {l : List Row} {c : Nat} (h : kR.C w A l.length l) {i : Nat} (hi : i ≤ l.length) (hc : l.length ≤ c) : ∃ A', kR.C w A' (l.drop i).length (l.drop i) ∧ ∀ W : World, (Instr.slice tRows (.slice A l.length c) (some (.int .i64 (i : Int))) none none).run Try.prog W = .ok (.slice A' (l.drop i).length (c - i)) W := by
  obtain ⟨i0, hi0, hz0, hz1, hz2⟩ := info_parts infoRow
  refine ⟨_, Kd.C_drop (m := i) h hi (c := c) hc, fun W => ?_⟩
  have h2 := cut_from tRows tRow .i64 Try.underlying29 hi0 3 hz1 A l.length c (i : Int) (by omega) (by omega) W
  rw [Int.toNat_natCast] at h2
  rw [h2, List.length_drop]
  rfl

/-- A list of rows that is read: an old one, or one of a row's own type. -/
def XR (n0 : Nat) (w : World) (A : Option Addr) (c : Nat) (l : List Row) : Prop := kR.C w A l.length l ∧ l.length ≤ c ∧ ∀ ad, A = some ad → 0 < l.length → ad.block < n0 ∨ ∃ cs, w.heap[ad.block]? = some (.cells cs tRow (0, 0))
theorem XR.below {n0 : Nat} {w w1 : World} {A : Option Addr} {c : Nat} {l : List Row} (h : XR n0 w A c l) (hb : Below w.heap.size w w1) : XR n0 w1 A c l :=
  ⟨Kd.C_below h.1 hb, h.2.1, fun ad ha hn => (h.2.2 ad ha hn).imp id (fun ⟨cs, hc⟩ => ⟨cs, blk_below hc hb⟩)⟩
theorem XR.of_own {n0 : Nat} {w : World} {base : Nat} {A : Option Addr} {c : Nat} {l : List Row} (h : kR.R tRow w base (fun _ => True) (.slice A l.length c) l) : XR n0 w A c l := by
  have h2 := Kd.R_reads' h
  refine ⟨h2.2.2, h2.2.1, fun ad ha hn => .inr ?_⟩
  obtain ⟨inner, ho⟩ := Kd.R_own h
  obtain ⟨g, cap, e, _⟩ := Kd.R_form h hn
  cases e
  cases ha
  exact own_typed ho g (by simp [Value.ownBlock])
set_option maxHeartbeats 6400000 in
set_option maxRecDepth 100000 in
theorem rput_any {n0 : Nat} {w : World} {A : Option Addr} {c : Nat} {l : List Row} (hX : XR n0 w A c l) (hl : LOk l) (r : Row) :
    Calls Try.prog 37 #[.slice A l.length c, r.val] w fun e w' => ∃ A' c', e = .returned (.tuple #[.slice A' (putL l r).2.length c', .int .i64 (putL l r).1]) ∧ XR n0 w' A' c' (putL l r).2 ∧ Below w.heap.size w w' := by
  have HLO := Lib.hid hl
  have P0 := Lib.hid (blk_new w (.cells #[.string r.key, .string r.value, .int .i64 r.version] tRow))
  have B0 := Lib.hid (below_alloc (Below.refl w.heap.size w) (.cells #[.string r.key, .string r.value, .int .i64 r.version] tRow))
  have HX := Lib.hid (hX.below (below_alloc (Below.refl w.heap.size w) (.cells #[.string r.key, .string r.value, .int .i64 r.version] tRow)))
  have cp := blkc P0.out
  have hln := hl.len
  clear hX hl
  go_enter Try.func37, Try.ntmps37
  go_wp2_with fail
  generalize (World.alloc w _) = W0 at *
  clear cp
  refine (rCheck_any r.key r.value r.version W0).mono ?_
  rintro e w1 ⟨rfl, hb1⟩
  have B1 := Lib.hid hb1
  clear hb1
  cases hc : (checkRow (r.key, r.value, r.version) != 0) with
  | true =>
    have hne : r.check ≠ 0 := by simpa [Row.check] using hc
    have HE := Lib.hid (show putL l r = (r.check, l) by unfold putL; rw [if_neg hne])
    clear hne
    go_wp2
    rw [HE.out]
    exact bodyPost_ret (v := .tuple #[.slice A l.length c, .int .i64 r.check]) (by simp [results, Try.results37, go_sem]; rfl) rfl ⟨A, c, rfl, HX.out.below B1.out, below_then B0.out B0.out.size B1.out⟩
  | false =>
    have h0 : r.check = 0 := by simpa [Row.check] using hc
    have H0 := Lib.hid h0
    have hPl : (below r.key l).length ≤ l.length := List.length_filter_le ..
    have hTB := take_below HLO.out.up r.key
    have hAF := fun o => at_find (o := o) HLO.out.up r.key
    have hAN := at_none HLO.out.up r.key
    have hpl := fun W (h : kR.C W A l.length l) => place_any (w := W) (c := c) h HLO.out.up (by omega) r.key
    obtain ⟨P, hPe⟩ : ∃ P, (below r.key l).length = P := ⟨_, rfl⟩
    rw [hPe] at hPl hTB hAF hAN
    simp only [hPe] at hpl
    have HPL := Lib.hid hPl
    have HTB := Lib.hid hTB
    have HAF := Lib.hid hAF
    have HAN := Lib.hid hAN
    have HPC := Lib.hid hpl
    clear hPe hTB hAF hAN hpl h0
    have cp := blkc (blk_below P0.out B1.out)
    go_wp2_with fail
    clear cp
    refine (HPC.out _ (Kd.C_below HX.out.1 B1.out)).mono ?_
    rintro e w2 ⟨rfl, rfl⟩
    have B2 := Lib.hid (below_alloc B1.out (.cells #[] tRow))
    have R2 : Hid (kR.R tRow (w1.alloc (.cells #[] tRow)) W0.heap.size (fun _ => True) (.slice (some ⟨w1.heap.size, 0, none⟩) 0 0) []) := Lib.hid (R_of_own (World.ownsRow_lit (base := W0.heap.size) (e := tRow) (size := 3) w1 #[] 0 B1.out.size (by decide) rfl))
    have C2 := Lib.hid (C_cutTo (Kd.C_below HX.out.1 B2.out) HPL.out)
    have hcut := run_cutTo A l.length c P HPL.out HX.out.2.1
    clear B1
    go_wp2_with (first
      | (at_builtin; refine Kd.R_append_rows kR (Rr := kR.K (w1.alloc (.cells #[] tRow))) (w0 := W0) W0.heap.size rfl (.tmp 19) (.tmp 22) 29 tRow (.agg #[.string ⟨#[]⟩, .string ⟨#[]⟩, .int .i64 0]) 40 rfl Try.underlying29 info_R rfl (by decide) (by decide) (.slice (some ⟨w1.heap.size, 0, none⟩) 0 0) ([]) (l.take P) A P c (fun _ => True) (fun _ => False) rfl rfl R2.out C2.out (fun _ _ h => h) (fun _ h => h.elim) (fun _ _ => trivial) B2.out B2.out.size (by simp only [List.length_nil]; have := HPL.out; omega) ?_; intro v3 w3 hr3 hb3 hg3 hat3; rw [List.nil_append] at hr3; obtain ⟨A3, c3, rfl⟩ := Kd.R_slice hr3; rw [show (l.take P).length = P by rw [List.length_take]; have := HPL.out; omega] at hr3 ⊢; (have cp := blkc (blk_below P0.out hb3)); (have R4 := Lib.hid (Kd.R_alloc hr3 (.cells #[.string r.key, .string r.value, .int .i64 r.version] tRow))); (have B4 := Lib.hid (below_alloc hb3 (.cells #[.string r.key, .string r.value, .int .i64 r.version] tRow))); (have C4 := Lib.hid ((Kd.R_reads' (R_of_own (l := [r]) (World.ownsRow_lit (base := W0.heap.size) (e := tRow) (size := 3) w3 #[.string r.key, .string r.value, .int .i64 r.version] 1 hb3.size (by decide) rfl))).2.2)); clear hr3 hb3 hg3 hat3 hcut R2 C2 B2)
      | (at_builtin; refine Kd.R_append_rows kR (Rr := kR.K (w3.alloc (.cells #[.string r.key, .string r.value, .int .i64 r.version] tRow))) (w0 := W0) W0.heap.size rfl (.tmp 24) (.tmp 26) 29 tRow (.agg #[.string ⟨#[]⟩, .string ⟨#[]⟩, .int .i64 0]) 40 rfl Try.underlying29 info_R rfl (by decide) (by decide) (.slice A3 P c3) (l.take P) ([r]) (some ⟨w3.heap.size, 0, none⟩) 1 1 (fun _ => True) (fun _ => False) rfl rfl R4.out C4.out (fun _ _ h => h) (fun _ h => h.elim) (fun _ _ => trivial) B4.out B4.out.size (by rw [List.length_take]; have := HPL.out; omega) ?_; intro v5 w5 hr5 hb5 hg5 hat5; obtain ⟨A5, c5, rfl⟩ := Kd.R_slice hr5; rw [show (l.take P ++ [r]).length = P + 1 by rw [List.length_append, List.length_take, List.length_singleton]; have := HPL.out; omega] at hr5 ⊢; (have R5 := Lib.hid hr5); (have B5 := Lib.hid hb5); clear hr5 hb5 hg5 hat5 cp R4 B4 C4)
      | fail)
    have R6 := Lib.hid (Kd.R_below R5.out (below_drew (Below.refl _ _)))
    have B6 := Lib.hid B5.out.drew
    have cp := blkc (blk_below P0.out B5.out)
    have q0 := cp 0
    have hlt5 : W0.heap.size ≤ w5.heap.size := B5.out.size
    have hfin : ∀ (X : List Row) (A8 : Option Addr) (c8 : Nat) (W8 : World), putL l r = (0, X) → kR.R tRow W8 W0.heap.size (fun _ => True) (.slice A8 X.length c8) X → Below W0.heap.size W0 W8 → (∃ A' c', Ending.returned (.tuple #[.slice A8 X.length c8, .int .i64 0]) = .returned (.tuple #[.slice A' (putL l r).2.length c', .int .i64 (putL l r).1]) ∧ XR n0 W8 A' c' (putL l r).2 ∧ Below w.heap.size w W8) :=
      fun X A8 c8 W8 h1 h2 h3 => by rw [h1]; exact ⟨A8, c8, rfl, XR.of_own h2, below_then B0.out B0.out.size h3⟩
    have FIN := Lib.hid hfin
    clear hfin
    have hPl := HPL.out
    by_cases hPlt : P < l.length
    · have hu := List.getElem?_eq_getElem hPlt
      generalize l[P] = o at *
      obtain ⟨ad, hA, x0, _, _⟩ := at_R (Kd.C_below HX.out.1 B5.out) hu
      cases hA
      have p1 := eq_true (show 0 ≤ (P : Int) by omega)
      have p2 := eq_true hPlt
      have d2 : decide (P < l.length) = true := by simpa using hPlt
      have HU := Lib.hid hu
      have HPT := Lib.hid hPlt
      cases heq : eq o.key r.key with
      | true =>
        have d1 : (o.key.toList == r.key.toList) = true := heq
        obtain ⟨X, hX⟩ : ∃ X, l.take P ++ [r] ++ l.drop (P + 1) = X := ⟨_, rfl⟩
        have HE := Lib.hid (show putL l r = (0, X) by
          have hfs : (find l r.key).isSome = true := by
            cases hf : find l r.key with
            | some _ => rfl
            | none => have := (HAN.out hf).2 o HU.out; rw [heq] at this; cases this
          obtain ⟨o2, ho2⟩ := Option.isSome_iff_exists.1 hfs
          unfold putL
          rw [if_pos H0.out, if_pos (.inl hfs), ← hX, (HAF.out o2 ho2).2.2, HTB.out]
          simp)
        have HXX := Lib.hid hX
        obtain ⟨A7, hC7, hcut⟩ := C_cutFrom (i := P + 1) (Kd.C_below HX.out.1 B6.out) (by omega) HX.out.2.1
        have C7 := Lib.hid hC7
        have HF := Lib.hid (show wrap64 ((P : Int) + 1) = ((P + 1 : Nat) : Int) by rw [← i64_w, IntWalk.i64_in _ (by omega)]; rfl)
        have hf1 := HF.out
        have HDL := Lib.hid (show (l.take P ++ [r]).length + (l.drop (P + 1)).length ≤ 3000000 by rw [List.length_append, List.length_take, List.length_drop, List.length_singleton]; omega)
        have hcut2 : ∀ W : World, (Instr.slice tRows (.slice (some ad) l.length c) (some (.int .i64 ((P : Int) + 1))) none none).run Try.prog W = .ok (.slice A7 (l.drop (P + 1)).length (c - (P + 1))) W := hcut
        obtain ⟨D, hD⟩ : ∃ D, l.drop (P + 1) = D := ⟨_, rfl⟩
        rw [hD] at hcut hcut2 hX HXX C7 HDL
        obtain ⟨dl, hdl⟩ : ∃ n, D.length = n := ⟨_, rfl⟩
        rw [hdl] at hcut hcut2 C7 HDL
        clear hX hC7 hPlt hPl hu heq HPC R5 hln hD hdl HAF HAN
        refine start_ (n := 14) (S := fun w' => w'.cell? (ad.add (P * 3)) = some (.string o.key) ∧ w'.cell? ⟨w.heap.size, 0, none⟩ = some (.string r.key)) (ds := []) #[false, false, false, false, false, false, false, false, false, false, false, false, false, false] (by kernel_rfl) rfl rfl ⟨x0, q0⟩ (fun hHeld => ?_)
        refine pure_ (i := 0) (N := some 28) (v := ?_) (a' := ?_) #[true, false, false, false, false, false, false, false, false, false, false, false, false, false] rfl rfl (by kernel_rfl) (fun _ _ _ h => h) (Or.inl ⟨by rfl, ?_⟩) ?_ ?_
        rotate_left
        · intro w'
          go_simp
          with_reducible rfl
        rotate_left
        · simp only [Act.put, List.setIfInBounds_toArray, List.set_cons_zero, List.set_cons_succ, i64_w, i32_w]
          rfl
        refine pure_ (i := 1) (N := some 29) (v := ?_) (a' := ?_) #[true, true, false, false, false, false, false, false, false, false, false, false, false, false] rfl rfl (by kernel_rfl) (fun _ _ _ h => h) (Or.inl ⟨by rfl, ?_⟩) ?_ ?_
        rotate_left
        · intro w'
          go_simp
          with_reducible rfl
        rotate_left
        · simp only [Act.put, List.setIfInBounds_toArray, List.set_cons_zero, List.set_cons_succ, i64_w, i32_w]
          rfl
        refine pure_ (i := 2) (N := some 30) (v := ?_) (a' := ?_) #[true, true, true, false, false, false, false, false, false, false, false, false, false, false] rfl rfl (by kernel_rfl) (fun _ _ _ h => h) (Or.inl ⟨by rfl, ?_⟩) ?_ ?_
        rotate_left
        · intro w'
          go_simp
          with_reducible rfl
        rotate_left
        · simp only [Act.put, List.setIfInBounds_toArray, List.set_cons_zero, List.set_cons_succ, i64_w, i32_w]
          rfl
        refine pure_ (i := 3) (N := some 31) (v := ?_) (a' := ?_) #[true, true, true, true, false, false, false, false, false, false, false, false, false, false] rfl rfl (by kernel_rfl) (fun _ _ _ h => h) (Or.inl ⟨by rfl, ?_⟩) ?_ ?_
        rotate_left
        · intro w'
          go_simp
          with_reducible rfl
        rotate_left
        · simp only [Act.put, List.setIfInBounds_toArray, List.set_cons_zero, List.set_cons_succ, i64_w, i32_w]
          rfl
        refine pure_ (i := 4) (N := some 32) (v := ?_) (a' := ?_) #[true, true, true, true, true, false, false, false, false, false, false, false, false, false] rfl rfl (by kernel_rfl) (fun _ _ _ h => h) (Or.inl ⟨by rfl, ?_⟩) ?_ ?_
        rotate_left
        · intro w'
          go_simp
          with_reducible rfl
        rotate_left
        · simp only [Act.put, List.setIfInBounds_toArray, List.set_cons_zero, List.set_cons_succ, i64_w, i32_w]
          rfl
        refine pure_ (i := 5) (N := some 33) (v := ?_) (a' := ?_) #[true, true, true, true, true, true, false, false, false, false, false, false, false, false] rfl rfl (by kernel_rfl) (fun _ _ _ h => h) (Or.inl ⟨by rfl, ?_⟩) ?_ ?_
        rotate_left
        · intro w'
          go_simp
          with_reducible rfl
        rotate_left
        · simp only [Act.put, List.setIfInBounds_toArray, List.set_cons_zero, List.set_cons_succ, i64_w, i32_w]
          rfl
        refine pure_ (i := 6) (N := some 34) (v := ?_) (a' := ?_) #[true, true, true, true, true, true, true, false, false, false, false, false, false, false] rfl rfl (by kernel_rfl) (fun _ _ _ h => h) (Or.inl ⟨by rfl, ?_⟩) ?_ ?_
        rotate_left
        · intro w'
          go_simp
          with_reducible rfl
        rotate_left
        · simp only [Act.put, List.setIfInBounds_toArray, List.set_cons_zero, List.set_cons_succ, i64_w, i32_w]
          rfl
        refine pure_ (i := 7) (N := some 35) (v := ?_) (a' := ?_) #[true, true, true, true, true, true, true, true, false, false, false, false, false, false] rfl rfl (by kernel_rfl) (fun _ _ _ h => h) (Or.inl ⟨by rfl, ?_⟩) ?_ ?_
        rotate_left
        · intro w'
          go_simp
          with_reducible rfl
        rotate_left
        · simp only [Act.put, List.setIfInBounds_toArray, List.set_cons_zero, List.set_cons_succ, i64_w, i32_w]
          rfl
        refine pure_ (i := 8) (N := some 36) (v := ?_) (a' := ?_) #[true, true, true, true, true, true, true, true, true, false, false, false, false, false] rfl rfl (by kernel_rfl) (fun _ _ _ h => h) (Or.inl ⟨by rfl, ?_⟩) ?_ ?_
        rotate_left
        · intro w'
          go_simp
          with_reducible rfl
        rotate_left
        · simp only [Act.put, List.setIfInBounds_toArray, List.set_cons_zero, List.set_cons_succ, i64_w, i32_w]
          rfl
        refine pure_ (i := 10) (N := some 38) (v := ?_) (a' := ?_) #[true, true, true, true, true, true, true, true, true, false, true, false, false, false] rfl rfl (by kernel_rfl) (fun _ _ _ h => h) (Or.inl ⟨by rfl, ?_⟩) ?_ ?_
        rotate_left
        · intro w'
          go_simp
          with_reducible rfl
        rotate_left
        · simp only [Act.put, List.setIfInBounds_toArray, List.set_cons_zero, List.set_cons_succ, i64_w, i32_w]
          rfl
        refine take_ (i := 9) (N := some 37) (v := ?_) (a' := ?_) #[true, true, true, true, true, true, true, true, true, true, true, false, false, false] rfl rfl (by kernel_rfl) (fun _ _ _ h => h) (Or.inl ⟨by rfl, ?_⟩) hHeld ?_ ?_
        rotate_left
        · rintro w' ⟨s0, s1⟩
          go_simp
          with_reducible rfl
        rotate_left
        · simp only [Act.put, List.setIfInBounds_toArray, List.set_cons_zero, List.set_cons_succ, i64_w, i32_w]
          rfl
        refine take_ (i := 11) (N := some 39) (v := ?_) (a' := ?_) #[true, true, true, true, true, true, true, true, true, true, true, true, false, false] rfl rfl (by kernel_rfl) (fun _ _ _ h => h) (Or.inl ⟨by rfl, ?_⟩) hHeld ?_ ?_
        rotate_left
        · rintro w' ⟨s0, s1⟩
          go_simp
          with_reducible rfl
        rotate_left
        · simp only [Act.put, List.setIfInBounds_toArray, List.set_cons_zero, List.set_cons_succ, i64_w, i32_w]
          rfl
        refine pure_ (i := 12) (N := some 40) (v := ?_) (a' := ?_) #[true, true, true, true, true, true, true, true, true, true, true, true, true, false] rfl rfl (by kernel_rfl) (fun _ _ _ h => h) (Or.inl ⟨by rfl, ?_⟩) ?_ ?_
        rotate_left
        · intro w'
          go_simp
          with_reducible rfl
        rotate_left
        · simp only [Act.put, List.setIfInBounds_toArray, List.set_cons_zero, List.set_cons_succ, i64_w, i32_w]
          rfl
        refine pure_ (i := 13) (N := some 41) (v := ?_) (a' := ?_) #[true, true, true, true, true, true, true, true, true, true, true, true, true, true] rfl rfl (by kernel_rfl) (fun _ _ _ h => h) (Or.inl ⟨by rfl, ?_⟩) ?_ ?_
        rotate_left
        · intro w'
          go_simp
          with_reducible rfl
        rotate_left
        · simp only [Act.put, List.setIfInBounds_toArray, List.set_cons_zero, List.set_cons_succ, i64_w, i32_w]
          rfl
        refine done_ (by kernel_rfl) ?_
        clear cp q0 x0 d1 d2
        go_wp2_with (at_builtin; refine Kd.R_append_rows kR (Rr := kR.K (w5.drew)) (w0 := W0) W0.heap.size rfl (.tmp 42) (.tmp 46) 29 tRow (.agg #[.string ⟨#[]⟩, .string ⟨#[]⟩, .int .i64 0]) 40 rfl Try.underlying29 info_R rfl (by decide) (by decide) (.slice A5 (P + 1) c5) (l.take P ++ [r]) (D) A7 dl (c - (P + 1)) (fun _ => True) (fun _ => False) rfl rfl R6.out C7.out (fun _ _ h => h) (fun _ h => h.elim) (fun _ _ => trivial) B6.out B6.out.size (by have := HDL.out; omega) ?_; intro v7 w7 hr7 hb7 hg7 hat7; rw [HXX.out] at hr7; obtain ⟨A8, c8, rfl⟩ := Kd.R_slice hr7; (have F8 := Lib.hid (FIN.out X A8 c8 w7 HE.out hr7 hb7)); clear hr7 hb7 hg7 hat7)
        exact bodyPost_ret (v := .tuple #[.slice A8 X.length c8, .int .i64 0]) (by simp [results, Try.results37, go_sem]) rfl F8.out
      | false =>
        have d1 : (o.key.toList == r.key.toList) = false := heq
        have hfn : find l r.key = none := by
          cases hf : find l r.key with
          | none => rfl
          | some o2 =>
            obtain ⟨h1, h2, _⟩ := HAF.out o2 hf
            rw [HU.out] at h1
            cases h1
            rw [heq] at h2
            cases h2
        clear hu heq
        have HN := Lib.hid (HAN.out hfn)
        have HFN := Lib.hid (show (find l r.key).isSome = false by rw [hfn]; rfl)
        clear hfn
        by_cases hful : 1048576 ≤ l.length
        · have d3 : decide (1048576 ≤ l.length) = true := by simpa using hful
          have d4 : ((1048576 : Int) ≤ (l.length : Int)) = True := eq_true (by omega)
          have HE := Lib.hid (show putL l r = (3, l) by unfold putL; rw [if_pos H0.out, if_neg (by rw [HFN.out]; simp; omega)])
          clear hful hPl hPlt HPC R5 hln HAF HAN
          refine start_ (n := 14) (S := fun w' => w'.cell? (ad.add (P * 3)) = some (.string o.key) ∧ w'.cell? ⟨w.heap.size, 0, none⟩ = some (.string r.key)) (ds := []) #[false, false, false, false, false, false, false, false, false, false, false, false, false, false] (by kernel_rfl) rfl rfl ⟨x0, q0⟩ (fun hHeld => ?_)
          refine pure_ (i := 0) (N := some 28) (v := ?_) (a' := ?_) #[true, false, false, false, false, false, false, false, false, false, false, false, false, false] rfl rfl (by kernel_rfl) (fun _ _ _ h => h) (Or.inl ⟨by rfl, ?_⟩) ?_ ?_
          rotate_left
          · intro w'
            go_simp
            with_reducible rfl
          rotate_left
          · simp only [Act.put, List.setIfInBounds_toArray, List.set_cons_zero, List.set_cons_succ, i64_w, i32_w]
            rfl
          refine pure_ (i := 1) (N := some 29) (v := ?_) (a' := ?_) #[true, true, false, false, false, false, false, false, false, false, false, false, false, false] rfl rfl (by kernel_rfl) (fun _ _ _ h => h) (Or.inl ⟨by rfl, ?_⟩) ?_ ?_
          rotate_left
          · intro w'
            go_simp
            with_reducible rfl
          rotate_left
          · simp only [Act.put, List.setIfInBounds_toArray, List.set_cons_zero, List.set_cons_succ, i64_w, i32_w]
            rfl
          refine pure_ (i := 2) (N := some 30) (v := ?_) (a' := ?_) #[true, true, true, false, false, false, false, false, false, false, false, false, false, false] rfl rfl (by kernel_rfl) (fun _ _ _ h => h) (Or.inl ⟨by rfl, ?_⟩) ?_ ?_
          rotate_left
          · intro w'
            go_simp
            with_reducible rfl
          rotate_left
          · simp only [Act.put, List.setIfInBounds_toArray, List.set_cons_zero, List.set_cons_succ, i64_w, i32_w]
            rfl
          refine pure_ (i := 3) (N := some 31) (v := ?_) (a' := ?_) #[true, true, true, true, false, false, false, false, false, false, false, false, false, false] rfl rfl (by kernel_rfl) (fun _ _ _ h => h) (Or.inl ⟨by rfl, ?_⟩) ?_ ?_
          rotate_left
          · intro w'
            go_simp
            with_reducible rfl
          rotate_left
          · simp only [Act.put, List.setIfInBounds_toArray, List.set_cons_zero, List.set_cons_succ, i64_w, i32_w]
            rfl
          refine pure_ (i := 4) (N := some 32) (v := ?_) (a' := ?_) #[true, true, true, true, true, false, false, false, false, false, false, false, false, false] rfl rfl (by kernel_rfl) (fun _ _ _ h => h) (Or.inl ⟨by rfl, ?_⟩) ?_ ?_
          rotate_left
          · intro w'
            go_simp
            with_reducible rfl
          rotate_left
          · simp only [Act.put, List.setIfInBounds_toArray, List.set_cons_zero, List.set_cons_succ, i64_w, i32_w]
            rfl
          refine pure_ (i := 5) (N := some 33) (v := ?_) (a' := ?_) #[true, true, true, true, true, true, false, false, false, false, false, false, false, false] rfl rfl (by kernel_rfl) (fun _ _ _ h => h) (Or.inl ⟨by rfl, ?_⟩) ?_ ?_
          rotate_left
          · intro w'
            go_simp
            with_reducible rfl
          rotate_left
          · simp only [Act.put, List.setIfInBounds_toArray, List.set_cons_zero, List.set_cons_succ, i64_w, i32_w]
            rfl
          refine pure_ (i := 6) (N := some 34) (v := ?_) (a' := ?_) #[true, true, true, true, true, true, true, false, false, false, false, false, false, false] rfl rfl (by kernel_rfl) (fun _ _ _ h => h) (Or.inl ⟨by rfl, ?_⟩) ?_ ?_
          rotate_left
          · intro w'
            go_simp
            with_reducible rfl
          rotate_left
          · simp only [Act.put, List.setIfInBounds_toArray, List.set_cons_zero, List.set_cons_succ, i64_w, i32_w]
            rfl
          refine pure_ (i := 7) (N := some 35) (v := ?_) (a' := ?_) #[true, true, true, true, true, true, true, true, false, false, false, false, false, false] rfl rfl (by kernel_rfl) (fun _ _ _ h => h) (Or.inl ⟨by rfl, ?_⟩) ?_ ?_
          rotate_left
          · intro w'
            go_simp
            with_reducible rfl
          rotate_left
          · simp only [Act.put, List.setIfInBounds_toArray, List.set_cons_zero, List.set_cons_succ, i64_w, i32_w]
            rfl
          refine pure_ (i := 8) (N := some 36) (v := ?_) (a' := ?_) #[true, true, true, true, true, true, true, true, true, false, false, false, false, false] rfl rfl (by kernel_rfl) (fun _ _ _ h => h) (Or.inl ⟨by rfl, ?_⟩) ?_ ?_
          rotate_left
          · intro w'
            go_simp
            with_reducible rfl
          rotate_left
          · simp only [Act.put, List.setIfInBounds_toArray, List.set_cons_zero, List.set_cons_succ, i64_w, i32_w]
            rfl
          refine pure_ (i := 10) (N := some 38) (v := ?_) (a' := ?_) #[true, true, true, true, true, true, true, true, true, false, true, false, false, false] rfl rfl (by kernel_rfl) (fun _ _ _ h => h) (Or.inl ⟨by rfl, ?_⟩) ?_ ?_
          rotate_left
          · intro w'
            go_simp
            with_reducible rfl
          rotate_left
          · simp only [Act.put, List.setIfInBounds_toArray, List.set_cons_zero, List.set_cons_succ, i64_w, i32_w]
            rfl
          refine take_ (i := 9) (N := some 37) (v := ?_) (a' := ?_) #[true, true, true, true, true, true, true, true, true, true, true, false, false, false] rfl rfl (by kernel_rfl) (fun _ _ _ h => h) (Or.inl ⟨by rfl, ?_⟩) hHeld ?_ ?_
          rotate_left
          · rintro w' ⟨s0, s1⟩
            go_simp
            with_reducible rfl
          rotate_left
          · simp only [Act.put, List.setIfInBounds_toArray, List.set_cons_zero, List.set_cons_succ, i64_w, i32_w]
            rfl
          refine take_ (i := 11) (N := some 39) (v := ?_) (a' := ?_) #[true, true, true, true, true, true, true, true, true, true, true, true, false, false] rfl rfl (by kernel_rfl) (fun _ _ _ h => h) (Or.inl ⟨by rfl, ?_⟩) hHeld ?_ ?_
          rotate_left
          · rintro w' ⟨s0, s1⟩
            go_simp
            with_reducible rfl
          rotate_left
          · simp only [Act.put, List.setIfInBounds_toArray, List.set_cons_zero, List.set_cons_succ, i64_w, i32_w]
            rfl
          refine pure_ (i := 12) (N := some 40) (v := ?_) (a' := ?_) #[true, true, true, true, true, true, true, true, true, true, true, true, true, false] rfl rfl (by kernel_rfl) (fun _ _ _ h => h) (Or.inl ⟨by rfl, ?_⟩) ?_ ?_
          rotate_left
          · intro w'
            go_simp
            with_reducible rfl
          rotate_left
          · simp only [Act.put, List.setIfInBounds_toArray, List.set_cons_zero, List.set_cons_succ, i64_w, i32_w]
            rfl
          refine pure_ (i := 13) (N := some 41) (v := ?_) (a' := ?_) #[true, true, true, true, true, true, true, true, true, true, true, true, true, true] rfl rfl (by kernel_rfl) (fun _ _ _ h => h) (Or.inl ⟨by rfl, ?_⟩) ?_ ?_
          rotate_left
          · intro w'
            go_simp
            with_reducible rfl
          rotate_left
          · simp only [Act.put, List.setIfInBounds_toArray, List.set_cons_zero, List.set_cons_succ, i64_w, i32_w]
            rfl
          refine done_ (by kernel_rfl) ?_
          clear cp q0
          go_wp2_with fail
          rw [HE.out]
          exact bodyPost_ret (v := .tuple #[.slice (some ad) l.length c, .int .i64 3]) (by simp [results, Try.results37, go_sem]) rfl ⟨some ad, c, rfl, HX.out.below B6.out, below_then B0.out B0.out.size B6.out⟩
        · have d3 : decide (1048576 ≤ l.length) = false := by simpa using hful
          have d4 : ((1048576 : Int) ≤ (l.length : Int)) = False := _root_.eq_false (by omega)
          obtain ⟨X, hX⟩ : ∃ X, l.take P ++ [r] ++ l.drop P = X := ⟨_, rfl⟩
          have HE := Lib.hid (show putL l r = (0, X) by
            unfold putL
            rw [if_pos H0.out, if_pos (.inr (by omega)), ← hX, HN.out.1, HTB.out]
            simp)
          have HXX := Lib.hid hX
          obtain ⟨A7, hC7, hcut⟩ := C_cutFrom (i := P) (Kd.C_below HX.out.1 B6.out) (by omega) HX.out.2.1
          have C7 := Lib.hid hC7
          have HDL := Lib.hid (show (l.take P ++ [r]).length + (l.drop P).length ≤ 3000000 by rw [List.length_append, List.length_take, List.length_drop, List.length_singleton]; omega)
          obtain ⟨D, hD⟩ : ∃ D, l.drop P = D := ⟨_, rfl⟩
          rw [hD] at hcut hX HXX C7 HDL
          obtain ⟨dl, hdl⟩ : ∃ n, D.length = n := ⟨_, rfl⟩
          rw [hdl] at hcut C7 HDL
          clear hX hC7 hPl hPlt hful HPC R5 hln hD hdl HAF HAN
          refine start_ (n := 14) (S := fun w' => w'.cell? (ad.add (P * 3)) = some (.string o.key) ∧ w'.cell? ⟨w.heap.size, 0, none⟩ = some (.string r.key)) (ds := []) #[false, false, false, false, false, false, false, false, false, false, false, false, false, false] (by kernel_rfl) rfl rfl ⟨x0, q0⟩ (fun hHeld => ?_)
          refine pure_ (i := 0) (N := some 28) (v := ?_) (a' := ?_) #[true, false, false, false, false, false, false, false, false, false, false, false, false, false] rfl rfl (by kernel_rfl) (fun _ _ _ h => h) (Or.inl ⟨by rfl, ?_⟩) ?_ ?_
          rotate_left
          · intro w'
            go_simp
            with_reducible rfl
          rotate_left
          · simp only [Act.put, List.setIfInBounds_toArray, List.set_cons_zero, List.set_cons_succ, i64_w, i32_w]
            rfl
          refine pure_ (i := 1) (N := some 29) (v := ?_) (a' := ?_) #[true, true, false, false, false, false, false, false, false, false, false, false, false, false] rfl rfl (by kernel_rfl) (fun _ _ _ h => h) (Or.inl ⟨by rfl, ?_⟩) ?_ ?_
          rotate_left
          · intro w'
            go_simp
            with_reducible rfl
          rotate_left
          · simp only [Act.put, List.setIfInBounds_toArray, List.set_cons_zero, List.set_cons_succ, i64_w, i32_w]
            rfl
          refine pure_ (i := 2) (N := some 30) (v := ?_) (a' := ?_) #[true, true, true, false, false, false, false, false, false, false, false, false, false, false] rfl rfl (by kernel_rfl) (fun _ _ _ h => h) (Or.inl ⟨by rfl, ?_⟩) ?_ ?_
          rotate_left
          · intro w'
            go_simp
            with_reducible rfl
          rotate_left
          · simp only [Act.put, List.setIfInBounds_toArray, List.set_cons_zero, List.set_cons_succ, i64_w, i32_w]
            rfl
          refine pure_ (i := 3) (N := some 31) (v := ?_) (a' := ?_) #[true, true, true, true, false, false, false, false, false, false, false, false, false, false] rfl rfl (by kernel_rfl) (fun _ _ _ h => h) (Or.inl ⟨by rfl, ?_⟩) ?_ ?_
          rotate_left
          · intro w'
            go_simp
            with_reducible rfl
          rotate_left
          · simp only [Act.put, List.setIfInBounds_toArray, List.set_cons_zero, List.set_cons_succ, i64_w, i32_w]
            rfl
          refine pure_ (i := 4) (N := some 32) (v := ?_) (a' := ?_) #[true, true, true, true, true, false, false, false, false, false, false, false, false, false] rfl rfl (by kernel_rfl) (fun _ _ _ h => h) (Or.inl ⟨by rfl, ?_⟩) ?_ ?_
          rotate_left
          · intro w'
            go_simp
            with_reducible rfl
          rotate_left
          · simp only [Act.put, List.setIfInBounds_toArray, List.set_cons_zero, List.set_cons_succ, i64_w, i32_w]
            rfl
          refine pure_ (i := 5) (N := some 33) (v := ?_) (a' := ?_) #[true, true, true, true, true, true, false, false, false, false, false, false, false, false] rfl rfl (by kernel_rfl) (fun _ _ _ h => h) (Or.inl ⟨by rfl, ?_⟩) ?_ ?_
          rotate_left
          · intro w'
            go_simp
            with_reducible rfl
          rotate_left
          · simp only [Act.put, List.setIfInBounds_toArray, List.set_cons_zero, List.set_cons_succ, i64_w, i32_w]
            rfl
          refine pure_ (i := 6) (N := some 34) (v := ?_) (a' := ?_) #[true, true, true, true, true, true, true, false, false, false, false, false, false, false] rfl rfl (by kernel_rfl) (fun _ _ _ h => h) (Or.inl ⟨by rfl, ?_⟩) ?_ ?_
          rotate_left
          · intro w'
            go_simp
            with_reducible rfl
          rotate_left
          · simp only [Act.put, List.setIfInBounds_toArray, List.set_cons_zero, List.set_cons_succ, i64_w, i32_w]
            rfl
          refine pure_ (i := 7) (N := some 35) (v := ?_) (a' := ?_) #[true, true, true, true, true, true, true, true, false, false, false, false, false, false] rfl rfl (by kernel_rfl) (fun _ _ _ h => h) (Or.inl ⟨by rfl, ?_⟩) ?_ ?_
          rotate_left
          · intro w'
            go_simp
            with_reducible rfl
          rotate_left
          · simp only [Act.put, List.setIfInBounds_toArray, List.set_cons_zero, List.set_cons_succ, i64_w, i32_w]
            rfl
          refine pure_ (i := 8) (N := some 36) (v := ?_) (a' := ?_) #[true, true, true, true, true, true, true, true, true, false, false, false, false, false] rfl rfl (by kernel_rfl) (fun _ _ _ h => h) (Or.inl ⟨by rfl, ?_⟩) ?_ ?_
          rotate_left
          · intro w'
            go_simp
            with_reducible rfl
          rotate_left
          · simp only [Act.put, List.setIfInBounds_toArray, List.set_cons_zero, List.set_cons_succ, i64_w, i32_w]
            rfl
          refine pure_ (i := 10) (N := some 38) (v := ?_) (a' := ?_) #[true, true, true, true, true, true, true, true, true, false, true, false, false, false] rfl rfl (by kernel_rfl) (fun _ _ _ h => h) (Or.inl ⟨by rfl, ?_⟩) ?_ ?_
          rotate_left
          · intro w'
            go_simp
            with_reducible rfl
          rotate_left
          · simp only [Act.put, List.setIfInBounds_toArray, List.set_cons_zero, List.set_cons_succ, i64_w, i32_w]
            rfl
          refine take_ (i := 9) (N := some 37) (v := ?_) (a' := ?_) #[true, true, true, true, true, true, true, true, true, true, true, false, false, false] rfl rfl (by kernel_rfl) (fun _ _ _ h => h) (Or.inl ⟨by rfl, ?_⟩) hHeld ?_ ?_
          rotate_left
          · rintro w' ⟨s0, s1⟩
            go_simp
            with_reducible rfl
          rotate_left
          · simp only [Act.put, List.setIfInBounds_toArray, List.set_cons_zero, List.set_cons_succ, i64_w, i32_w]
            rfl
          refine take_ (i := 11) (N := some 39) (v := ?_) (a' := ?_) #[true, true, true, true, true, true, true, true, true, true, true, true, false, false] rfl rfl (by kernel_rfl) (fun _ _ _ h => h) (Or.inl ⟨by rfl, ?_⟩) hHeld ?_ ?_
          rotate_left
          · rintro w' ⟨s0, s1⟩
            go_simp
            with_reducible rfl
          rotate_left
          · simp only [Act.put, List.setIfInBounds_toArray, List.set_cons_zero, List.set_cons_succ, i64_w, i32_w]
            rfl
          refine pure_ (i := 12) (N := some 40) (v := ?_) (a' := ?_) #[true, true, true, true, true, true, true, true, true, true, true, true, true, false] rfl rfl (by kernel_rfl) (fun _ _ _ h => h) (Or.inl ⟨by rfl, ?_⟩) ?_ ?_
          rotate_left
          · intro w'
            go_simp
            with_reducible rfl
          rotate_left
          · simp only [Act.put, List.setIfInBounds_toArray, List.set_cons_zero, List.set_cons_succ, i64_w, i32_w]
            rfl
          refine pure_ (i := 13) (N := some 41) (v := ?_) (a' := ?_) #[true, true, true, true, true, true, true, true, true, true, true, true, true, true] rfl rfl (by kernel_rfl) (fun _ _ _ h => h) (Or.inl ⟨by rfl, ?_⟩) ?_ ?_
          rotate_left
          · intro w'
            go_simp
            with_reducible rfl
          rotate_left
          · simp only [Act.put, List.setIfInBounds_toArray, List.set_cons_zero, List.set_cons_succ, i64_w, i32_w]
            rfl
          refine done_ (by kernel_rfl) ?_
          clear cp q0
          go_wp2_with (at_builtin; refine Kd.R_append_rows kR (Rr := kR.K (w5.drew)) (w0 := W0) W0.heap.size rfl (.tmp 52) (.tmp 55) 29 tRow (.agg #[.string ⟨#[]⟩, .string ⟨#[]⟩, .int .i64 0]) 40 rfl Try.underlying29 info_R rfl (by decide) (by decide) (.slice A5 (P + 1) c5) (l.take P ++ [r]) (D) A7 dl (c - P) (fun _ => True) (fun _ => False) rfl rfl R6.out C7.out (fun _ _ h => h) (fun _ h => h.elim) (fun _ _ => trivial) B6.out B6.out.size (by have := HDL.out; omega) ?_; intro v7 w7 hr7 hb7 hg7 hat7; rw [HXX.out] at hr7; obtain ⟨A8, c8, rfl⟩ := Kd.R_slice hr7; (have F8 := Lib.hid (FIN.out X A8 c8 w7 HE.out hr7 hb7)); clear hr7 hb7 hg7 hat7)
          exact bodyPost_ret (v := .tuple #[.slice A8 X.length c8, .int .i64 0]) (by simp [results, Try.results37, go_sem]) rfl F8.out
    · have hfn : find l r.key = none := by
        cases hf : find l r.key with
        | none => rfl
        | some o2 => exact absurd (List.getElem?_eq_some_iff.1 (HAF.out o2 hf).1).1 hPlt
      have d2 : decide (P < l.length) = false := by simpa using hPlt
      have HN := Lib.hid (HAN.out hfn)
      have HFN := Lib.hid (show (find l r.key).isSome = false by rw [hfn]; rfl)
      clear hfn
      by_cases hful : 1048576 ≤ l.length
      · have d3 : decide (1048576 ≤ l.length) = true := by simpa using hful
        have d4 : ((1048576 : Int) ≤ (l.length : Int)) = True := eq_true (by omega)
        have HE := Lib.hid (show putL l r = (3, l) by unfold putL; rw [if_pos H0.out, if_neg (by rw [HFN.out]; simp; omega)])
        clear hful hPl hPlt HPC R5 hln HAF HAN
        refine start_ (n := 14) (S := fun w' => w'.cell? ⟨w.heap.size, 0, none⟩ = some (.string r.key)) (ds := []) #[false, false, false, false, false, false, false, false, false, false, false, false, false, false] (by kernel_rfl) rfl rfl (q0) (fun hHeld => ?_)
        refine pure_ (i := 0) (N := some 28) (v := ?_) (a' := ?_) #[true, false, false, false, false, false, false, false, false, false, false, false, false, false] rfl rfl (by kernel_rfl) (fun _ _ _ h => h) (Or.inl ⟨by rfl, ?_⟩) ?_ ?_
        rotate_left
        · intro w'
          go_simp
          with_reducible rfl
        rotate_left
        · simp only [Act.put, List.setIfInBounds_toArray, List.set_cons_zero, List.set_cons_succ, i64_w, i32_w]
          rfl
        refine pure_ (i := 1) (N := some 29) (v := ?_) (a' := ?_) #[true, true, false, false, false, false, false, false, false, false, false, false, false, false] rfl rfl (by kernel_rfl) (fun _ _ _ h => h) (Or.inl ⟨by rfl, ?_⟩) ?_ ?_
        rotate_left
        · intro w'
          go_simp
          with_reducible rfl
        rotate_left
        · simp only [Act.put, List.setIfInBounds_toArray, List.set_cons_zero, List.set_cons_succ, i64_w, i32_w]
          rfl
        refine pure_ (i := 2) (N := some 30) (v := ?_) (a' := ?_) #[true, true, true, false, false, false, false, false, false, false, false, false, false, false] rfl rfl (by kernel_rfl) (fun _ _ _ h => h) (Or.inl ⟨by rfl, ?_⟩) ?_ ?_
        rotate_left
        · intro w'
          go_simp
          with_reducible rfl
        rotate_left
        · simp only [Act.put, List.setIfInBounds_toArray, List.set_cons_zero, List.set_cons_succ, i64_w, i32_w]
          rfl
        refine pure_ (i := 3) (N := some 31) (v := ?_) (a' := ?_) #[true, true, true, true, false, false, false, false, false, false, false, false, false, false] rfl rfl (by kernel_rfl) (fun _ _ _ h => h) (Or.inl ⟨by rfl, ?_⟩) ?_ ?_
        rotate_left
        · intro w'
          go_simp
          with_reducible rfl
        rotate_left
        · simp only [Act.put, List.setIfInBounds_toArray, List.set_cons_zero, List.set_cons_succ, i64_w, i32_w]
          rfl
        refine pure_ (i := 4) (N := some 32) (v := ?_) (a' := ?_) #[true, true, true, true, true, false, false, false, false, false, false, false, false, false] rfl rfl (by kernel_rfl) (fun _ _ _ h => h) (Or.inl ⟨by rfl, ?_⟩) ?_ ?_
        rotate_left
        · intro w'
          go_simp
          with_reducible rfl
        rotate_left
        · simp only [Act.put, List.setIfInBounds_toArray, List.set_cons_zero, List.set_cons_succ, i64_w, i32_w]
          rfl
        refine pure_ (i := 5) (N := some 33) (v := undef) (a' := ?_) #[true, true, true, true, true, true, false, false, false, false, false, false, false, false] rfl rfl (by kernel_rfl) (fun _ _ _ h => h) (Or.inr ⟨by rfl, rfl⟩) ?_ ?_
        rotate_left
        · simp only [Act.put, List.setIfInBounds_toArray, List.set_cons_zero, List.set_cons_succ, i64_w, i32_w]
          rfl
        refine pure_ (i := 6) (N := some 34) (v := undef) (a' := ?_) #[true, true, true, true, true, true, true, false, false, false, false, false, false, false] rfl rfl (by kernel_rfl) (fun _ _ _ h => h) (Or.inr ⟨by rfl, rfl⟩) ?_ ?_
        rotate_left
        · simp only [Act.put, List.setIfInBounds_toArray, List.set_cons_zero, List.set_cons_succ, i64_w, i32_w]
          rfl
        refine pure_ (i := 7) (N := some 35) (v := undef) (a' := ?_) #[true, true, true, true, true, true, true, true, false, false, false, false, false, false] rfl rfl (by kernel_rfl) (fun _ _ _ h => h) (Or.inr ⟨by rfl, rfl⟩) ?_ ?_
        rotate_left
        · simp only [Act.put, List.setIfInBounds_toArray, List.set_cons_zero, List.set_cons_succ, i64_w, i32_w]
          rfl
        refine pure_ (i := 8) (N := some 36) (v := undef) (a' := ?_) #[true, true, true, true, true, true, true, true, true, false, false, false, false, false] rfl rfl (by kernel_rfl) (fun _ _ _ h => h) (Or.inr ⟨by rfl, rfl⟩) ?_ ?_
        rotate_left
        · simp only [Act.put, List.setIfInBounds_toArray, List.set_cons_zero, List.set_cons_succ, i64_w, i32_w]
          rfl
        refine pure_ (i := 9) (N := some 37) (v := undef) (a' := ?_) #[true, true, true, true, true, true, true, true, true, true, false, false, false, false] rfl rfl (by kernel_rfl) (fun _ _ _ h => h) (Or.inr ⟨by rfl, rfl⟩) ?_ ?_
        rotate_left
        · simp only [Act.put, List.setIfInBounds_toArray, List.set_cons_zero, List.set_cons_succ, i64_w, i32_w]
          rfl
        refine pure_ (i := 10) (N := some 38) (v := undef) (a' := ?_) #[true, true, true, true, true, true, true, true, true, true, true, false, false, false] rfl rfl (by kernel_rfl) (fun _ _ _ h => h) (Or.inr ⟨by rfl, rfl⟩) ?_ ?_
        rotate_left
        · simp only [Act.put, List.setIfInBounds_toArray, List.set_cons_zero, List.set_cons_succ, i64_w, i32_w]
          rfl
        refine pure_ (i := 11) (N := some 39) (v := undef) (a' := ?_) #[true, true, true, true, true, true, true, true, true, true, true, true, false, false] rfl rfl (by kernel_rfl) (fun _ _ _ h => h) (Or.inr ⟨by rfl, rfl⟩) ?_ ?_
        rotate_left
        · simp only [Act.put, List.setIfInBounds_toArray, List.set_cons_zero, List.set_cons_succ, i64_w, i32_w]
          rfl
        refine pure_ (i := 12) (N := some 40) (v := undef) (a' := ?_) #[true, true, true, true, true, true, true, true, true, true, true, true, true, false] rfl rfl (by kernel_rfl) (fun _ _ _ h => h) (Or.inr ⟨by rfl, rfl⟩) ?_ ?_
        rotate_left
        · simp only [Act.put, List.setIfInBounds_toArray, List.set_cons_zero, List.set_cons_succ, i64_w, i32_w]
          rfl
        refine pure_ (i := 13) (N := some 41) (v := ?_) (a' := ?_) #[true, true, true, true, true, true, true, true, true, true, true, true, true, true] rfl rfl (by kernel_rfl) (fun _ _ _ h => h) (Or.inl ⟨by rfl, ?_⟩) ?_ ?_
        rotate_left
        · intro w'
          go_simp
          with_reducible rfl
        rotate_left
        · simp only [Act.put, List.setIfInBounds_toArray, List.set_cons_zero, List.set_cons_succ, i64_w, i32_w]
          rfl
        refine done_ (by kernel_rfl) ?_
        clear cp q0
        go_wp2_with fail
        rw [HE.out]
        exact bodyPost_ret (v := .tuple #[.slice A l.length c, .int .i64 3]) (by simp [results, Try.results37, go_sem]) rfl ⟨A, c, rfl, HX.out.below B6.out, below_then B0.out B0.out.size B6.out⟩
      · have d3 : decide (1048576 ≤ l.length) = false := by simpa using hful
        have d4 : ((1048576 : Int) ≤ (l.length : Int)) = False := _root_.eq_false (by omega)
        obtain ⟨X, hX⟩ : ∃ X, l.take P ++ [r] ++ l.drop P = X := ⟨_, rfl⟩
        have HE := Lib.hid (show putL l r = (0, X) by
          unfold putL
          rw [if_pos H0.out, if_pos (.inr (by omega)), ← hX, HN.out.1, HTB.out]
          simp)
        have HXX := Lib.hid hX
        obtain ⟨A7, hC7, hcut⟩ := C_cutFrom (i := P) (Kd.C_below HX.out.1 B6.out) (by omega) HX.out.2.1
        have C7 := Lib.hid hC7
        have HDL := Lib.hid (show (l.take P ++ [r]).length + (l.drop P).length ≤ 3000000 by rw [List.length_append, List.length_take, List.length_drop, List.length_singleton]; omega)
        obtain ⟨D, hD⟩ : ∃ D, l.drop P = D := ⟨_, rfl⟩
        rw [hD] at hcut hX HXX C7 HDL
        obtain ⟨dl, hdl⟩ : ∃ n, D.length = n := ⟨_, rfl⟩
        rw [hdl] at hcut C7 HDL
        clear hX hC7 hPl hPlt hful HPC R5 hln hD hdl HAF HAN
        refine start_ (n := 14) (S := fun w' => w'.cell? ⟨w.heap.size, 0, none⟩ = some (.string r.key)) (ds := []) #[false, false, false, false, false, false, false, false, false, false, false, false, false, false] (by kernel_rfl) rfl rfl (q0) (fun hHeld => ?_)
        refine pure_ (i := 0) (N := some 28) (v := ?_) (a' := ?_) #[true, false, false, false, false, false, false, false, false, false, false, false, false, false] rfl rfl (by kernel_rfl) (fun _ _ _ h => h) (Or.inl ⟨by rfl, ?_⟩) ?_ ?_
        rotate_left
        · intro w'
          go_simp
          with_reducible rfl
        rotate_left
        · simp only [Act.put, List.setIfInBounds_toArray, List.set_cons_zero, List.set_cons_succ, i64_w, i32_w]
          rfl
        refine pure_ (i := 1) (N := some 29) (v := ?_) (a' := ?_) #[true, true, false, false, false, false, false, false, false, false, false, false, false, false] rfl rfl (by kernel_rfl) (fun _ _ _ h => h) (Or.inl ⟨by rfl, ?_⟩) ?_ ?_
        rotate_left
        · intro w'
          go_simp
          with_reducible rfl
        rotate_left
        · simp only [Act.put, List.setIfInBounds_toArray, List.set_cons_zero, List.set_cons_succ, i64_w, i32_w]
          rfl
        refine pure_ (i := 2) (N := some 30) (v := ?_) (a' := ?_) #[true, true, true, false, false, false, false, false, false, false, false, false, false, false] rfl rfl (by kernel_rfl) (fun _ _ _ h => h) (Or.inl ⟨by rfl, ?_⟩) ?_ ?_
        rotate_left
        · intro w'
          go_simp
          with_reducible rfl
        rotate_left
        · simp only [Act.put, List.setIfInBounds_toArray, List.set_cons_zero, List.set_cons_succ, i64_w, i32_w]
          rfl
        refine pure_ (i := 3) (N := some 31) (v := ?_) (a' := ?_) #[true, true, true, true, false, false, false, false, false, false, false, false, false, false] rfl rfl (by kernel_rfl) (fun _ _ _ h => h) (Or.inl ⟨by rfl, ?_⟩) ?_ ?_
        rotate_left
        · intro w'
          go_simp
          with_reducible rfl
        rotate_left
        · simp only [Act.put, List.setIfInBounds_toArray, List.set_cons_zero, List.set_cons_succ, i64_w, i32_w]
          rfl
        refine pure_ (i := 4) (N := some 32) (v := ?_) (a' := ?_) #[true, true, true, true, true, false, false, false, false, false, false, false, false, false] rfl rfl (by kernel_rfl) (fun _ _ _ h => h) (Or.inl ⟨by rfl, ?_⟩) ?_ ?_
        rotate_left
        · intro w'
          go_simp
          with_reducible rfl
        rotate_left
        · simp only [Act.put, List.setIfInBounds_toArray, List.set_cons_zero, List.set_cons_succ, i64_w, i32_w]
          rfl
        refine pure_ (i := 5) (N := some 33) (v := undef) (a' := ?_) #[true, true, true, true, true, true, false, false, false, false, false, false, false, false] rfl rfl (by kernel_rfl) (fun _ _ _ h => h) (Or.inr ⟨by rfl, rfl⟩) ?_ ?_
        rotate_left
        · simp only [Act.put, List.setIfInBounds_toArray, List.set_cons_zero, List.set_cons_succ, i64_w, i32_w]
          rfl
        refine pure_ (i := 6) (N := some 34) (v := undef) (a' := ?_) #[true, true, true, true, true, true, true, false, false, false, false, false, false, false] rfl rfl (by kernel_rfl) (fun _ _ _ h => h) (Or.inr ⟨by rfl, rfl⟩) ?_ ?_
        rotate_left
        · simp only [Act.put, List.setIfInBounds_toArray, List.set_cons_zero, List.set_cons_succ, i64_w, i32_w]
          rfl
        refine pure_ (i := 7) (N := some 35) (v := undef) (a' := ?_) #[true, true, true, true, true, true, true, true, false, false, false, false, false, false] rfl rfl (by kernel_rfl) (fun _ _ _ h => h) (Or.inr ⟨by rfl, rfl⟩) ?_ ?_
        rotate_left
        · simp only [Act.put, List.setIfInBounds_toArray, List.set_cons_zero, List.set_cons_succ, i64_w, i32_w]
          rfl
        refine pure_ (i := 8) (N := some 36) (v := undef) (a' := ?_) #[true, true, true, true, true, true, true, true, true, false, false, false, false, false] rfl rfl (by kernel_rfl) (fun _ _ _ h => h) (Or.inr ⟨by rfl, rfl⟩) ?_ ?_
        rotate_left
        · simp only [Act.put, List.setIfInBounds_toArray, List.set_cons_zero, List.set_cons_succ, i64_w, i32_w]
          rfl
        refine pure_ (i := 9) (N := some 37) (v := undef) (a' := ?_) #[true, true, true, true, true, true, true, true, true, true, false, false, false, false] rfl rfl (by kernel_rfl) (fun _ _ _ h => h) (Or.inr ⟨by rfl, rfl⟩) ?_ ?_
        rotate_left
        · simp only [Act.put, List.setIfInBounds_toArray, List.set_cons_zero, List.set_cons_succ, i64_w, i32_w]
          rfl
        refine pure_ (i := 10) (N := some 38) (v := undef) (a' := ?_) #[true, true, true, true, true, true, true, true, true, true, true, false, false, false] rfl rfl (by kernel_rfl) (fun _ _ _ h => h) (Or.inr ⟨by rfl, rfl⟩) ?_ ?_
        rotate_left
        · simp only [Act.put, List.setIfInBounds_toArray, List.set_cons_zero, List.set_cons_succ, i64_w, i32_w]
          rfl
        refine pure_ (i := 11) (N := some 39) (v := undef) (a' := ?_) #[true, true, true, true, true, true, true, true, true, true, true, true, false, false] rfl rfl (by kernel_rfl) (fun _ _ _ h => h) (Or.inr ⟨by rfl, rfl⟩) ?_ ?_
        rotate_left
        · simp only [Act.put, List.setIfInBounds_toArray, List.set_cons_zero, List.set_cons_succ, i64_w, i32_w]
          rfl
        refine pure_ (i := 12) (N := some 40) (v := undef) (a' := ?_) #[true, true, true, true, true, true, true, true, true, true, true, true, true, false] rfl rfl (by kernel_rfl) (fun _ _ _ h => h) (Or.inr ⟨by rfl, rfl⟩) ?_ ?_
        rotate_left
        · simp only [Act.put, List.setIfInBounds_toArray, List.set_cons_zero, List.set_cons_succ, i64_w, i32_w]
          rfl
        refine pure_ (i := 13) (N := some 41) (v := ?_) (a' := ?_) #[true, true, true, true, true, true, true, true, true, true, true, true, true, true] rfl rfl (by kernel_rfl) (fun _ _ _ h => h) (Or.inl ⟨by rfl, ?_⟩) ?_ ?_
        rotate_left
        · intro w'
          go_simp
          with_reducible rfl
        rotate_left
        · simp only [Act.put, List.setIfInBounds_toArray, List.set_cons_zero, List.set_cons_succ, i64_w, i32_w]
          rfl
        refine done_ (by kernel_rfl) ?_
        clear cp q0
        go_wp2_with (at_builtin; refine Kd.R_append_rows kR (Rr := kR.K (w5.drew)) (w0 := W0) W0.heap.size rfl (.tmp 52) (.tmp 55) 29 tRow (.agg #[.string ⟨#[]⟩, .string ⟨#[]⟩, .int .i64 0]) 40 rfl Try.underlying29 info_R rfl (by decide) (by decide) (.slice A5 (P + 1) c5) (l.take P ++ [r]) (D) A7 dl (c - P) (fun _ => True) (fun _ => False) rfl rfl R6.out C7.out (fun _ _ h => h) (fun _ h => h.elim) (fun _ _ => trivial) B6.out B6.out.size (by have := HDL.out; omega) ?_; intro v7 w7 hr7 hb7 hg7 hat7; rw [HXX.out] at hr7; obtain ⟨A8, c8, rfl⟩ := Kd.R_slice hr7; (have F8 := Lib.hid (FIN.out X A8 c8 w7 HE.out hr7 hb7)); clear hr7 hb7 hg7 hat7)
        exact bodyPost_ret (v := .tuple #[.slice A8 X.length c8, .int .i64 0]) (by simp [results, Try.results37, go_sem]) rfl F8.out

set_option maxHeartbeats 6400000 in
set_option maxRecDepth 100000 in
theorem rdel_any {n0 : Nat} {w : World} {A : Option Addr} {c : Nat} {l : List Row} (hX : XR n0 w A c l) (hl : LOk l) (k : ByteArray) :
    Calls Try.prog 52 #[.slice A l.length c, .string k] w fun e w' => ∃ A' c', e = .returned (.tuple #[.slice A' (without k l).length c', .bool (find l k).isSome]) ∧ XR n0 w' A' c' (without k l) ∧ Below w.heap.size w w' := by
  have HX := Lib.hid hX
  have HLO := Lib.hid hl
  have hln := hl.len
  have hPl : (below k l).length ≤ l.length := List.length_filter_le ..
  have hAF := fun o => at_find (o := o) hl.up k
  have hAN := at_none hl.up k
  have hWF := fun o => without_found (o := o) hl.up k
  have hpl := place_any (c := c) hX.1 hl.up (by omega) k
  obtain ⟨P, hPe⟩ : ∃ P, (below k l).length = P := ⟨_, rfl⟩
  rw [hPe] at hPl hAN hpl
  simp only [hPe] at hAF hWF
  have HPL := Lib.hid hPl
  have HAF := Lib.hid hAF
  have HWF := Lib.hid hWF
  have HAN := Lib.hid hAN
  have HPC := Lib.hid hpl
  clear hPe hAF hAN hpl hWF hX hl
  go_enter Try.func52, Try.ntmps52
  go_wp2_with fail
  refine HPC.out.mono ?_
  rintro e w2 ⟨rfl, rfl⟩
  by_cases hPlt : P < l.length
  · have hu := List.getElem?_eq_getElem hPlt
    generalize l[P] = o at *
    obtain ⟨ad, hA, x0, _, _⟩ := at_R HX.out.1 hu
    cases hA
    have p1 := eq_true (show 0 ≤ (P : Int) by omega)
    have p2 := eq_true hPlt
    have d2 : (P == l.length) = false := by simp; omega
    have d3 : ((P : Int) == (l.length : Int)) = false := by simp; omega
    have HU := Lib.hid hu
    cases heq : eq o.key k with
    | true =>
      have d1 : (o.key.toList == k.toList) = true := heq
      have hfs : (find l k).isSome = true := by
        cases hf : find l k with
        | some _ => rfl
        | none => have := (HAN.out hf).2 o HU.out; rw [heq] at this; cases this
      obtain ⟨o2, ho2⟩ := Option.isSome_iff_exists.1 hfs
      obtain ⟨X, hX⟩ : ∃ X, l.take P ++ l.drop (P + 1) = X := ⟨_, rfl⟩
      have HE := Lib.hid (show without k l = X ∧ (find l k).isSome = true from ⟨by rw [HWF.out o2 ho2, hX], hfs⟩)
      have HXX := Lib.hid hX
      obtain ⟨A7, hC7, hcut2⟩ := C_cutFrom (i := P + 1) HX.out.1 (by omega) HX.out.2.1
      have hcut1 := run_cutTo (some ad) l.length c P HPL.out HX.out.2.1
      have C7 := Lib.hid hC7
      have hf1 : wrap64 ((P : Int) + 1) = (P : Int) + 1 := by rw [← i64_w]; exact IntWalk.i64_in _ (by omega)
      have HDL := Lib.hid (show (l.take P).length + (l.drop (P + 1)).length ≤ 3000000 by rw [List.length_take, List.length_drop]; omega)
      have hcut3 : ∀ W : World, (Instr.slice tRows (.slice (some ad) l.length c) (some (.int .i64 ((P : Int) + 1))) none none).run Try.prog W = .ok (.slice A7 (l.drop (P + 1)).length (c - (P + 1))) W := hcut2
      obtain ⟨D, hD⟩ : ∃ D, l.drop (P + 1) = D := ⟨_, rfl⟩
      rw [hD] at hcut2 hcut3 hX HXX C7 HDL
      obtain ⟨dl, hdl⟩ : ∃ n, D.length = n := ⟨_, rfl⟩
      rw [hdl] at hcut2 hcut3 C7 HDL
      clear hX hC7 hPlt hPl hu heq HPC hln hD hdl HAF HAN HWF hfs ho2
      go_wp2_with fail
      clear x0 d1 d2 d3 p1 p2
      refine start_ (n := 12) (S := fun w' => True) (ds := []) #[false, false, false, false, false, false, false, false, false, false, false, false] (by kernel_rfl) rfl rfl trivial (fun hHeld => ?_)
      refine pure_ (i := 1) (N := some 25) (v := ?_) (a' := ?_) #[false, true, false, false, false, false, false, false, false, false, false, false] rfl rfl (by kernel_rfl) (fun _ _ _ h => h) (Or.inl ⟨by rfl, ?_⟩) ?_ ?_
      rotate_left
      · intro w'
        go_simp
        with_reducible rfl
      rotate_left
      · simp only [Act.put, List.setIfInBounds_toArray, List.set_cons_zero, List.set_cons_succ, i64_w, i32_w]
        rfl
      refine pure_ (i := 2) (N := some 26) (v := ?_) (a' := ?_) #[false, true, true, false, false, false, false, false, false, false, false, false] rfl rfl (by kernel_rfl) (fun _ _ _ h => h) (Or.inl ⟨by rfl, ?_⟩) ?_ ?_
      rotate_left
      · intro w'
        go_simp
        with_reducible rfl
      rotate_left
      · simp only [Act.put, List.setIfInBounds_toArray, List.set_cons_zero, List.set_cons_succ, i64_w, i32_w]
        rfl
      refine pure_ (i := 3) (N := some 27) (v := ?_) (a' := ?_) #[false, true, true, true, false, false, false, false, false, false, false, false] rfl rfl (by kernel_rfl) (fun _ _ _ h => h) (Or.inl ⟨by rfl, ?_⟩) ?_ ?_
      rotate_left
      · intro w'
        go_simp
        with_reducible rfl
      rotate_left
      · simp only [Act.put, List.setIfInBounds_toArray, List.set_cons_zero, List.set_cons_succ, i64_w, i32_w]
        rfl
      refine pure_ (i := 5) (N := some 29) (v := ?_) (a' := ?_) #[false, true, true, true, false, true, false, false, false, false, false, false] rfl rfl (by kernel_rfl) (fun _ _ _ h => h) (Or.inl ⟨by rfl, ?_⟩) ?_ ?_
      rotate_left
      · intro w'
        go_simp
        with_reducible rfl
      rotate_left
      · simp only [Act.put, List.setIfInBounds_toArray, List.set_cons_zero, List.set_cons_succ, i64_w, i32_w]
        rfl
      refine pure_ (i := 6) (N := some 30) (v := ?_) (a' := ?_) #[false, true, true, true, false, true, true, false, false, false, false, false] rfl rfl (by kernel_rfl) (fun _ _ _ h => h) (Or.inl ⟨by rfl, ?_⟩) ?_ ?_
      rotate_left
      · intro w'
        go_simp
        with_reducible rfl
      rotate_left
      · simp only [Act.put, List.setIfInBounds_toArray, List.set_cons_zero, List.set_cons_succ, i64_w, i32_w]
        rfl
      refine pure_ (i := 7) (N := some 31) (v := ?_) (a' := ?_) #[false, true, true, true, false, true, true, true, false, false, false, false] rfl rfl (by kernel_rfl) (fun _ _ _ h => h) (Or.inl ⟨by rfl, ?_⟩) ?_ ?_
      rotate_left
      · intro w'
        go_simp
        with_reducible rfl
      rotate_left
      · simp only [Act.put, List.setIfInBounds_toArray, List.set_cons_zero, List.set_cons_succ, i64_w, i32_w]
        rfl
      refine pure_ (i := 8) (N := some 32) (v := ?_) (a' := ?_) #[false, true, true, true, false, true, true, true, true, false, false, false] rfl rfl (by kernel_rfl) (fun _ _ _ h => h) (Or.inl ⟨by rfl, ?_⟩) ?_ ?_
      rotate_left
      · intro w'
        go_simp
        with_reducible rfl
      rotate_left
      · simp only [Act.put, List.setIfInBounds_toArray, List.set_cons_zero, List.set_cons_succ, i64_w, i32_w]
        rfl
      refine one_ (i := 0) (N := some 24) #[true, true, true, true, false, true, true, true, true, false, false, false] rfl rfl (by kernel_rfl) (by decide) (fun K hK => ?_)
      refine value_ (w1 := ?_) (v := ?_) (by rfl) rfl ?_ ?_
      rotate_left 2
      · go_simp
        constructor
        · rfl
        · rfl
      have B2 := Lib.hid (below_alloc (Below.refl w.heap.size w) (.cells #[] tRow)).drew
      have R2 : Hid (kR.R tRow (w.alloc (.cells #[] tRow)).drew w.heap.size (fun _ => True) (.slice (some ⟨w.heap.size, 0, none⟩) 0 0) []) := Lib.hid (Kd.R_below (R_of_own (World.ownsRow_lit (base := w.heap.size) (e := tRow) (size := 3) w #[] 0 (Nat.le_refl _) (by decide) rfl)) (below_drew (Below.refl _ _)))
      have C2 := Lib.hid (C_cutTo (Kd.C_below HX.out.1 B2.out) HPL.out)
      refine hK.out _ _ trivial (fun hHeld => ?_)
      clear hK K
      refine norm_ (a' := ?_) ?_ ?_
      rotate_left
      · show Act.put _ (some 24) _ = _
        simp only [Act.put, List.setIfInBounds_toArray, List.set_cons_zero, List.set_cons_succ, i64_w, i32_w]
        rfl
      refine one_ (i := 4) (N := some 28) #[true, true, true, true, true, true, true, true, true, false, false, false] rfl rfl (by kernel_rfl) (by decide) (fun K hK => ?_)
      refine Kd.R_append_rows_step kR (Rr := kR.K ((w.alloc (.cells #[] tRow)).drew)) (w0 := w) w.heap.size (by rfl) (.tmp 24) (.tmp 27) 29 tRow (.agg #[.string ⟨#[]⟩, .string ⟨#[]⟩, .int .i64 0]) 40 rfl Try.underlying29 info_R rfl (by decide) (by decide) (.slice (some ⟨w.heap.size, 0, none⟩) 0 0) ([]) (l.take P) (some ad) P c (fun _ => True) (fun _ => False) rfl rfl R2.out C2.out (fun _ _ h => h) (fun _ h => h.elim) (fun _ _ => trivial) B2.out B2.out.size (by simp only [List.length_nil]; have := HPL.out; have := HLO.out.len; omega) ?_
      intro v3 w3 hr3 hb3 hg3 hat3
      rw [List.nil_append] at hr3
      obtain ⟨A3, c3, rfl⟩ := Kd.R_slice hr3
      rw [show (l.take P).length = P by rw [List.length_take]; have := HPL.out; omega] at hr3 ⊢
      have R3 := Lib.hid hr3
      have B3 := Lib.hid hb3
      clear hr3 hb3 hg3 hat3 R2 B2 C2
      refine hK.out _ _ trivial (fun hHeld => ?_)
      clear hK K
      refine norm_ (a' := ?_) ?_ ?_
      rotate_left
      · show Act.put _ (some 28) _ = _
        simp only [Act.put, List.setIfInBounds_toArray, List.set_cons_zero, List.set_cons_succ, i64_w, i32_w]
        rfl
      refine one_ (i := 9) (N := some 33) #[true, true, true, true, true, true, true, true, true, true, false, false] rfl rfl (by kernel_rfl) (by decide) (fun K hK => ?_)
      refine Kd.R_append_rows_step kR (Rr := kR.K (w3)) (w0 := w) w.heap.size (by rfl) (.tmp 28) (.tmp 32) 29 tRow (.agg #[.string ⟨#[]⟩, .string ⟨#[]⟩, .int .i64 0]) 40 rfl Try.underlying29 info_R rfl (by decide) (by decide) (.slice A3 P c3) (l.take P) (D) A7 dl (c - (P + 1)) (fun _ => True) (fun _ => False) rfl rfl R3.out (Kd.C_below C7.out B3.out) (fun _ _ h => h) (fun _ h => h.elim) (fun _ _ => trivial) B3.out B3.out.size (by have := HDL.out; omega) ?_
      intro v4 w4 hr4 hb4 hg4 hat4
      rw [HXX.out] at hr4
      obtain ⟨A4, c4, rfl⟩ := Kd.R_slice hr4
      have R4 := Lib.hid hr4
      have B4 := Lib.hid hb4
      clear hr4 hb4 hg4 hat4 R3 B3
      refine hK.out _ _ trivial (fun hHeld => ?_)
      clear hK K
      refine norm_ (a' := ?_) ?_ ?_
      rotate_left
      · show Act.put _ (some 33) _ = _
        simp only [Act.put, List.setIfInBounds_toArray, List.set_cons_zero, List.set_cons_succ, i64_w, i32_w]
        rfl
      refine pure_ (i := 10) (N := some 4) (v := ?_) (a' := ?_) #[true, true, true, true, true, true, true, true, true, true, true, false] rfl rfl (by kernel_rfl) (fun _ _ _ h => h) (Or.inl ⟨by rfl, ?_⟩) ?_ ?_
      rotate_left
      · intro w'
        go_simp
        with_reducible rfl
      rotate_left
      · simp only [Act.put, List.setIfInBounds_toArray, List.set_cons_zero, List.set_cons_succ, i64_w, i32_w]
        rfl
      refine pure_ (i := 11) (N := some 5) (v := ?_) (a' := ?_) #[true, true, true, true, true, true, true, true, true, true, true, true] rfl rfl (by kernel_rfl) (fun _ _ _ h => h) (Or.inl ⟨by rfl, ?_⟩) ?_ ?_
      rotate_left
      · intro w'
        go_simp
        with_reducible rfl
      rotate_left
      · simp only [Act.put, List.setIfInBounds_toArray, List.set_cons_zero, List.set_cons_succ, i64_w, i32_w]
        rfl
      refine done_ (by kernel_rfl) ?_
      go_wp2_with fail
      rw [HE.out.1, HE.out.2]
      exact bodyPost_ret (v := .tuple #[.slice A4 X.length c4, .bool true]) (by simp [results, Try.results52, go_sem]) rfl ⟨A4, c4, rfl, XR.of_own R4.out, B4.out⟩
    | false =>
      have d1 : (o.key.toList == k.toList) = false := heq
      have hfn : find l k = none := by
        cases hf : find l k with
        | none => rfl
        | some o2 =>
          obtain ⟨h1, h2, _⟩ := HAF.out o2 hf
          rw [HU.out] at h1
          cases h1
          rw [heq] at h2
          cases h2
      have HE := Lib.hid (show without k l = l ∧ (find l k).isSome = false from ⟨without_none hfn, by rw [hfn]; rfl⟩)
      clear hfn hu heq
      go_wp2_with fail
      rw [HE.out.1, HE.out.2]
      exact bodyPost_ret (v := .tuple #[.slice (some ad) l.length c, .bool false]) (by simp [results, Try.results52, go_sem]) rfl ⟨some ad, c, rfl, HX.out, Below.refl _ _⟩
  · have hfn : find l k = none := by
      cases hf : find l k with
      | none => rfl
      | some o2 => exact absurd (List.getElem?_eq_some_iff.1 (HAF.out o2 hf).1).1 hPlt
    have hPq : P = l.length := by omega
    have d2 : (P == l.length) = true := by simpa using hPq
    have d3 : ((P : Int) == (l.length : Int)) = true := by simp [hPq]
    have HE := Lib.hid (show without k l = l ∧ (find l k).isSome = false from ⟨without_none hfn, by rw [hfn]; rfl⟩)
    clear hfn hPlt hPq
    go_wp2_with fail
    rw [HE.out.1, HE.out.2]
    exact bodyPost_ret (v := .tuple #[.slice A l.length c, .bool false]) (by simp [results, Try.results52, go_sem]) rfl ⟨A, c, rfl, HX.out, Below.refl _ _⟩

end Go.Proofs.Ytjpalkggmefpfaa.Tab
