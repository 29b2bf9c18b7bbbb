/- Do some rows make a table; a table of rows that came in. -/
import Derived.Test.YtjpalkggmefpfaaTabFrom
set_option linter.unusedVariables false
set_option linter.unusedSimpArgs false
namespace Go.Proofs.Ytjpalkggmefpfaa.Tab
open Go.RowKit Go.Proofs.Ytjpalkggmefpfaa.Mem Go.Proofs.YtjpalkggmefpfaaW.PrintWords Go.Proofs.YtjpalkggmefpfaaW.PrintLast Go.Deep Go.Proofs.Ytjpalkggmefpfaa.Opn
attribute [local go_sem ↓] execOp_call_tmp
attribute [local go_sem] callVal_func
def scanP : Option Row → List Row → Int
  | _, [] => 0
  | q, r :: l => if r.check = 0 then (match q with
    | none => scanP (some r) l
    | some q => if lt q.key r.key then scanP (some r) l else 73) else r.check
def listErr (l : List Row) : Int := if 1048576 < l.length then 3 else scanP none l
def scanAt (l : List Row) (k : Nat) : Int := scanP (if k = 0 then none else l[k - 1]?) (l.drop k)
theorem scan_end {l : List Row} {k : Nat} (h : l.length ≤ k) : scanAt l k = 0 := by
  unfold scanAt
  rw [List.drop_of_length_le h]
  cases (if k = 0 then none else l[k - 1]?) <;> rfl
theorem scan_bad {l : List Row} {k : Nat} {r : Row} (h : l[k]? = some r) (hc : r.check ≠ 0) : scanAt l k = r.check := by
  have hl := (List.getElem?_eq_some_iff.1 h).1
  unfold scanAt
  rw [List.drop_eq_getElem_cons hl, (List.getElem?_eq_some_iff.1 h).2]
  cases (if k = 0 then none else l[k - 1]?) <;> simp [scanP, hc]
theorem scan_next {l : List Row} {k : Nat} {r : Row} (h : l[k]? = some r) : (if k + 1 = 0 then none else l[k + 1 - 1]?) = some r := by simp [h]
theorem scan_first {l : List Row} {r : Row} (h : l[0]? = some r) (hc : r.check = 0) : scanAt l 0 = scanAt l 1 := by
  have hl := (List.getElem?_eq_some_iff.1 h).1
  unfold scanAt
  rw [scan_next h, List.drop_eq_getElem_cons hl, (List.getElem?_eq_some_iff.1 h).2]
  simp [scanP, hc]
theorem scan_up {l : List Row} {k : Nat} {q r : Row} (hq : l[k]? = some q) (h : l[k + 1]? = some r) (hc : r.check = 0) (hl2 : lt q.key r.key = true) : scanAt l (k + 1) = scanAt l (k + 2) := by
  have hl := (List.getElem?_eq_some_iff.1 h).1
  unfold scanAt
  rw [scan_next h, scan_next hq, List.drop_eq_getElem_cons hl, (List.getElem?_eq_some_iff.1 h).2]
  simp [scanP, hc, hl2]
theorem scan_down {l : List Row} {k : Nat} {q r : Row} (hq : l[k]? = some q) (h : l[k + 1]? = some r) (hc : r.check = 0) (hl2 : lt q.key r.key = false) : scanAt l (k + 1) = 73 := by
  have hl := (List.getElem?_eq_some_iff.1 h).1
  unfold scanAt
  rw [scan_next hq, List.drop_eq_getElem_cons hl, (List.getElem?_eq_some_iff.1 h).2]
  simp [scanP, hc, hl2]
theorem scanP_ok : ∀ (l : List Row) (q : Option Row), scanP q l = 0 → (∀ r, r ∈ l → RowOk r) ∧ Up l ∧ (∀ x, q = some x → ∀ r, r ∈ l → lt x.key r.key = true)
  | [], _, _ => ⟨fun _ h => (by cases h), List.Pairwise.nil, fun _ _ _ h => (by cases h)⟩
  | r :: l, q, h => by
    unfold scanP at h
    split at h
    · rename_i hc
      have key : scanP (some r) l = 0 → (∀ x, x ∈ r :: l → RowOk x) ∧ Up (r :: l) := fun h2 => by
        obtain ⟨h3, h4, h5⟩ := scanP_ok l (some r) h2
        refine ⟨fun x hx => ?_, List.pairwise_cons.2 ⟨h5 r rfl, h4⟩⟩
        rcases List.mem_cons.1 hx with rfl | hx
        · exact hc
        · exact h3 x hx
      cases q with
      | none => exact ⟨(key h).1, (key h).2, fun x hx => (by cases hx)⟩
      | some q =>
        simp only at h
        split at h
        · rename_i hq
          refine ⟨(key h).1, (key h).2, fun x hx y hy => ?_⟩
          cases hx
          rcases List.mem_cons.1 hy with rfl | hy
          · exact hq
          · exact lt_trans hq ((scanP_ok l (some r) h).2.2 r rfl y hy)
        · exact absurd h (by decide)
    · rename_i hc
      exact absurd h hc
theorem listErr_ok {l : List Row} (h : listErr l = 0) : LOk l := by
  unfold listErr at h
  split at h
  · exact absurd h (by decide)
  · rename_i hl
    obtain ⟨h1, h2, _⟩ := scanP_ok l none h
    exact ⟨h2, by omega, h1⟩
theorem ngt_lt {a b : ByteArray} (h : (Op.bytesLess a.toList b.toList || a.toList == b.toList) = false) : lt b a = true := by
  rw [Bool.or_eq_false_iff] at h
  exact gt_of h.1 h.2
theorem ge_nlt {a b : ByteArray} (h : (Op.bytesLess a.toList b.toList || a.toList == b.toList) = true) : lt b a = false := by
  rw [Bool.or_eq_true] at h
  rcases h with h | h
  · exact lt_asymm h
  · exact ngt_of h
set_option maxHeartbeats 3200000 in
set_option maxRecDepth 100000 in
theorem refList_any {w : World} {A : Option Addr} {c : Nat} {l : List Row} (hcap : l.length ≤ c) (hC : kR.C w A l.length l) (hbig : l.length ≤ 1099511627776000) :
    Calls Try.prog 15 #[.slice A l.length c] w fun e w' => e = .returned (.int .i64 (listErr l)) ∧ Below w.heap.size w w' := by
  have HC := Lib.hid hC
  have hm := hC.2.1
  unfold listErr
  by_cases h3 : 1048576 < l.length
  · rw [if_pos h3]
    have p3 := eq_true (show (1048576 : Int) < (l.length : Int) by omega)
    clear HC hC hm hbig h3 hcap
    go_enter Try.func15, Try.ntmps15
    go_wp2
    go_ret
    exact ⟨rfl, Below.refl _ _⟩
  · rw [if_neg h3]
    have p3 : ((1048576 : Int) < (l.length : Int)) = False := _root_.eq_false (by omega)
    have hlb : l.length ≤ 1048576 := by omega
    have HLB := Lib.hid hlb
    generalize hE : scanP none l = E
    have HE := Lib.hid (show scanAt l 0 = E from hE)
    clear hE hC hbig h3 hlb hcap
    go_enter Try.func15, Try.ntmps15
    go_wp2_with fail
    clear p3
    go_loopg [11] l.length (fun kq v11 w' => ∃ (k : Nat), v11 = .int .i64 (k : Int) ∧ Hid (k + kq = l.length) ∧ Hid (scanAt l k = E) ∧ Hid (Below w.heap.size w w'))
    case atStart => exact ⟨0, rfl, (show _ + _ = _ by omega), HE, Lib.hid (Below.refl _ _)⟩
    case round =>
      clear HE
      obtain ⟨k, rfl, HK, HE, HB⟩ := hrel
      cases gk with
      | zero =>
        have hk : k = l.length := HK.out
        have c2 : decide (k < l.length) = false := by simp; omega
        have HZ := Lib.hid (show E = 0 by rw [← HE.out, scan_end (by omega)])
        clear hk
        go_wp2
        go_ret
        exact ⟨by rw [HZ.out]; rfl, HB.out⟩
      | succ k1 =>
        have hk : k < l.length := by have := HK.out; omega
        have hu := List.getElem?_eq_getElem hk
        generalize l[k] = r at *
        obtain ⟨ad, hA, x0, x1, x2⟩ := at_R HC.out hu
        have HU := Lib.hid hu
        have HA := Lib.hid hA
        cases hA
        have x0 := pw_cell_below (w1 := wr) HB.out x0
        have x1 := pw_cell_below (w1 := wr) HB.out x1
        have x2 := pw_cell_below (w1 := wr) HB.out x2
        have c2 : decide (k < l.length) = true := by simpa using hk
        have p1 := eq_true (show 0 ≤ (k : Int) by omega)
        have p2 := eq_true (show k < l.length by omega)
        have P4 := Lib.hid (blk_new wr (.cells #[Value.string r.key, .string r.value, .int .i64 r.version] tRow))
        have B4 := Lib.hid (below_alloc HB.out (.cells #[Value.string r.key, .string r.value, .int .i64 r.version] tRow))
        clear hu HB
        go_upto_region 6 with (fail)
        generalize wr.heap.size = q at *
        generalize (World.alloc wr _) = W4 at *
        clear x0 x1 x2
        have cp := blkc P4.out
        go_wp2_with fail
        clear cp
        refine (rCheck_any r.key r.value r.version W4).mono ?_
        rintro e w5 ⟨rfl, hb5⟩
        have P5 := Lib.hid (blk_below P4.out hb5)
        have B5 := Lib.hid (below_then B4.out B4.out.size hb5)
        clear hb5 P4 B4
        cases hc : (checkRow (r.key, r.value, r.version) != 0) with
        | true =>
          have HZ := Lib.hid (show E = checkRow (r.key, r.value, r.version) by rw [← HE.out, scan_bad HU.out (by simpa [Row.check] using hc)]; rfl)
          go_wp2
          go_ret
          exact ⟨by rw [HZ.out]; rfl, B5.out⟩
        | false =>
          have hc0 : r.check = 0 := by simpa [Row.check] using hc
          have HC0 := Lib.hid hc0
          clear hc0
          have PD := Lib.hid (blk_drew P5.out)
          have BD := Lib.hid B5.out.drew
          clear P5 B5
          cases k with
          | zero =>
            have HN := Lib.hid (show scanAt l 1 = E by rw [← HE.out, scan_first HU.out HC0.out])
            go_wp2_with fail
            clear c2 p1 p2
            refine start_ (n := 13) (S := fun w' => (∀ o, w'.cell? ⟨q, o, none⟩ = #[Value.string r.key, .string r.value, .int .i64 r.version][o]?)) (ds := []) #[false, false, false, false, false, false, false, false, false, false, false, false, false] (by kernel_rfl) rfl rfl ((blkc PD.out)) (fun hHeld => ?_)
            refine pure_ (i := 0) (N := some 21) (v := ?_) (a' := ?_) #[true, false, false, false, false, false, false, false, false, false, false, false, false] rfl rfl (by kernel_rfl) (fun _ _ _ h => h) (Or.inl ⟨by rfl, ?_⟩) ?_ ?_
            rotate_left
            · intro w'
              go_simp
              with_reducible rfl
            rotate_left
            · simp only [Act.put, List.setIfInBounds_toArray, List.set_cons_zero, List.set_cons_succ, i64_w, i32_w]
              rfl
            refine pure_ (i := 1) (N := some 22) (v := ?_) (a' := ?_) #[true, true, false, false, false, false, false, false, false, false, false, false, false] rfl rfl (by kernel_rfl) (fun _ _ _ h => h) (Or.inl ⟨by rfl, ?_⟩) ?_ ?_
            rotate_left
            · intro w'
              go_simp
              with_reducible rfl
            rotate_left
            · simp only [Act.put, List.setIfInBounds_toArray, List.set_cons_zero, List.set_cons_succ, i64_w, i32_w]
              rfl
            refine pure_ (i := 2) (N := some 23) (v := ?_) (a' := ?_) #[true, true, true, false, false, false, false, false, false, false, false, false, false] rfl rfl (by kernel_rfl) (fun _ _ _ h => h) (Or.inl ⟨by rfl, ?_⟩) ?_ ?_
            rotate_left
            · intro w'
              go_simp
              with_reducible rfl
            rotate_left
            · simp only [Act.put, List.setIfInBounds_toArray, List.set_cons_zero, List.set_cons_succ, i64_w, i32_w]
              rfl
            refine pure_ (i := 3) (N := some 24) (v := undef) (a' := ?_) #[true, true, true, true, false, false, false, false, false, false, false, false, false] rfl rfl (by kernel_rfl) (fun _ _ _ h => h) (Or.inr ⟨by rfl, rfl⟩) ?_ ?_
            rotate_left
            · simp only [Act.put, List.setIfInBounds_toArray, List.set_cons_zero, List.set_cons_succ, i64_w, i32_w]
              rfl
            refine pure_ (i := 4) (N := some 25) (v := undef) (a' := ?_) #[true, true, true, true, true, false, false, false, false, false, false, false, false] rfl rfl (by kernel_rfl) (fun _ _ _ h => h) (Or.inr ⟨by rfl, rfl⟩) ?_ ?_
            rotate_left
            · simp only [Act.put, List.setIfInBounds_toArray, List.set_cons_zero, List.set_cons_succ, i64_w, i32_w]
              rfl
            refine pure_ (i := 5) (N := some 26) (v := undef) (a' := ?_) #[true, true, true, true, true, true, false, false, false, false, false, false, false] rfl rfl (by kernel_rfl) (fun _ _ _ h => h) (Or.inr ⟨by rfl, rfl⟩) ?_ ?_
            rotate_left
            · simp only [Act.put, List.setIfInBounds_toArray, List.set_cons_zero, List.set_cons_succ, i64_w, i32_w]
              rfl
            refine pure_ (i := 6) (N := some 27) (v := undef) (a' := ?_) #[true, true, true, true, true, true, true, false, false, false, false, false, false] rfl rfl (by kernel_rfl) (fun _ _ _ h => h) (Or.inr ⟨by rfl, rfl⟩) ?_ ?_
            rotate_left
            · simp only [Act.put, List.setIfInBounds_toArray, List.set_cons_zero, List.set_cons_succ, i64_w, i32_w]
              rfl
            refine pure_ (i := 7) (N := some 28) (v := undef) (a' := ?_) #[true, true, true, true, true, true, true, true, false, false, false, false, false] rfl rfl (by kernel_rfl) (fun _ _ _ h => h) (Or.inr ⟨by rfl, rfl⟩) ?_ ?_
            rotate_left
            · simp only [Act.put, List.setIfInBounds_toArray, List.set_cons_zero, List.set_cons_succ, i64_w, i32_w]
              rfl
            refine pure_ (i := 8) (N := some 29) (v := undef) (a' := ?_) #[true, true, true, true, true, true, true, true, true, false, false, false, false] rfl rfl (by kernel_rfl) (fun _ _ _ h => h) (Or.inr ⟨by rfl, rfl⟩) ?_ ?_
            rotate_left
            · simp only [Act.put, List.setIfInBounds_toArray, List.set_cons_zero, List.set_cons_succ, i64_w, i32_w]
              rfl
            refine pure_ (i := 9) (N := some 30) (v := undef) (a' := ?_) #[true, true, true, true, true, true, true, true, true, true, false, false, false] rfl rfl (by kernel_rfl) (fun _ _ _ h => h) (Or.inr ⟨by rfl, rfl⟩) ?_ ?_
            rotate_left
            · simp only [Act.put, List.setIfInBounds_toArray, List.set_cons_zero, List.set_cons_succ, i64_w, i32_w]
              rfl
            refine pure_ (i := 10) (N := some 31) (v := undef) (a' := ?_) #[true, true, true, true, true, true, true, true, true, true, true, false, false] rfl rfl (by kernel_rfl) (fun _ _ _ h => h) (Or.inr ⟨by rfl, rfl⟩) ?_ ?_
            rotate_left
            · simp only [Act.put, List.setIfInBounds_toArray, List.set_cons_zero, List.set_cons_succ, i64_w, i32_w]
              rfl
            refine pure_ (i := 11) (N := some 32) (v := undef) (a' := ?_) #[true, true, true, true, true, true, true, true, true, true, true, true, false] rfl rfl (by kernel_rfl) (fun _ _ _ h => h) (Or.inr ⟨by rfl, rfl⟩) ?_ ?_
            rotate_left
            · simp only [Act.put, List.setIfInBounds_toArray, List.set_cons_zero, List.set_cons_succ, i64_w, i32_w]
              rfl
            refine pure_ (i := 12) (N := some 33) (v := ?_) (a' := ?_) #[true, true, true, true, true, true, true, true, true, true, true, true, true] rfl rfl (by kernel_rfl) (fun _ _ _ h => h) (Or.inl ⟨by rfl, ?_⟩) ?_ ?_
            rotate_left
            · intro w'
              go_simp
              with_reducible rfl
            rotate_left
            · simp only [Act.put, List.setIfInBounds_toArray, List.set_cons_zero, List.set_cons_succ, i64_w, i32_w]
              rfl
            refine done_ (by kernel_rfl) ?_
            go_wp2_with fail
            go_roundg k1
            case measure => exact Nat.lt_succ_self _
            case rel => exact ⟨1, rfl, Lib.hid (by have := HK.out; omega), HN, BD⟩
          | succ k =>
            have hk0 : k < l.length := by omega
            have hu0 := List.getElem?_eq_getElem hk0
            generalize l[k] = r0 at *
            obtain ⟨ad0, hA0, y0, _, _⟩ := at_R HC.out hu0
            cases hA0
            have HU0 := Lib.hid hu0
            have y0 := pw_cell_below (w1 := w5.drew) BD.out y0
            have hi1 : ((k + 1 : Nat) : Int) - 1 = (k : Int) := by omega
            have p5 := eq_true (show ((k + 1 : Nat) : Int) > 0 by omega)
            have p3 := eq_true (show 0 ≤ (k : Int) by omega)
            have p4 := eq_true (show k < l.length by omega)
            have p6 : wrap64 (k : Int) = (k : Int) := by rw [← i64_w]; exact IntWalk.i64_in _ (by have := HLB.out; omega)
            clear hu0 hk0
            go_wp2_with fail
            refine start_ (n := 13) (S := fun w' => (∀ o, w'.cell? ⟨q, o, none⟩ = #[Value.string r.key, .string r.value, .int .i64 r.version][o]?) ∧ w'.cell? (ad.add (k * 3)) = some (.string r0.key)) (ds := []) #[false, false, false, false, false, false, false, false, false, false, false, false, false] (by kernel_rfl) rfl rfl ⟨(blkc PD.out), y0⟩ (fun hHeld => ?_)
            refine pure_ (i := 0) (N := some 21) (v := ?_) (a' := ?_) #[true, false, false, false, false, false, false, false, false, false, false, false, false] rfl rfl (by kernel_rfl) (fun _ _ _ h => h) (Or.inl ⟨by rfl, ?_⟩) ?_ ?_
            rotate_left
            · intro w'
              go_simp
              with_reducible rfl
            rotate_left
            · simp only [Act.put, List.setIfInBounds_toArray, List.set_cons_zero, List.set_cons_succ, i64_w, i32_w]
              rfl
            refine pure_ (i := 1) (N := some 22) (v := ?_) (a' := ?_) #[true, true, false, false, false, false, false, false, false, false, false, false, false] rfl rfl (by kernel_rfl) (fun _ _ _ h => h) (Or.inl ⟨by rfl, ?_⟩) ?_ ?_
            rotate_left
            · intro w'
              go_simp
              with_reducible rfl
            rotate_left
            · simp only [Act.put, List.setIfInBounds_toArray, List.set_cons_zero, List.set_cons_succ, i64_w, i32_w]
              rfl
            refine pure_ (i := 2) (N := some 23) (v := ?_) (a' := ?_) #[true, true, true, false, false, false, false, false, false, false, false, false, false] rfl rfl (by kernel_rfl) (fun _ _ _ h => h) (Or.inl ⟨by rfl, ?_⟩) ?_ ?_
            rotate_left
            · intro w'
              go_simp
              with_reducible rfl
            rotate_left
            · simp only [Act.put, List.setIfInBounds_toArray, List.set_cons_zero, List.set_cons_succ, i64_w, i32_w]
              rfl
            refine pure_ (i := 3) (N := some 24) (v := ?_) (a' := ?_) #[true, true, true, true, false, false, false, false, false, false, false, false, false] rfl rfl (by kernel_rfl) (fun _ _ _ h => h) (Or.inl ⟨by rfl, ?_⟩) ?_ ?_
            rotate_left
            · intro w'
              go_simp
              with_reducible rfl
            rotate_left
            · simp only [Act.put, List.setIfInBounds_toArray, List.set_cons_zero, List.set_cons_succ, i64_w, i32_w]
              rfl
            refine pure_ (i := 5) (N := some 26) (v := ?_) (a' := ?_) #[true, true, true, true, false, true, false, false, false, false, false, false, false] rfl rfl (by kernel_rfl) (fun _ _ _ h => h) (Or.inl ⟨by rfl, ?_⟩) ?_ ?_
            rotate_left
            · intro w'
              go_simp
              with_reducible rfl
            rotate_left
            · simp only [Act.put, List.setIfInBounds_toArray, List.set_cons_zero, List.set_cons_succ, i64_w, i32_w]
              rfl
            refine pure_ (i := 6) (N := some 27) (v := ?_) (a' := ?_) #[true, true, true, true, false, true, true, false, false, false, false, false, false] rfl rfl (by kernel_rfl) (fun _ _ _ h => h) (Or.inl ⟨by rfl, ?_⟩) ?_ ?_
            rotate_left
            · intro w'
              go_simp
              with_reducible rfl
            rotate_left
            · simp only [Act.put, List.setIfInBounds_toArray, List.set_cons_zero, List.set_cons_succ, i64_w, i32_w]
              rfl
            refine pure_ (i := 7) (N := some 28) (v := ?_) (a' := ?_) #[true, true, true, true, false, true, true, true, false, false, false, false, false] rfl rfl (by kernel_rfl) (fun _ _ _ h => h) (Or.inl ⟨by rfl, ?_⟩) ?_ ?_
            rotate_left
            · intro w'
              go_simp
              with_reducible rfl
            rotate_left
            · simp only [Act.put, List.setIfInBounds_toArray, List.set_cons_zero, List.set_cons_succ, i64_w, i32_w]
              rfl
            refine pure_ (i := 8) (N := some 29) (v := ?_) (a' := ?_) #[true, true, true, true, false, true, true, true, true, false, false, false, false] rfl rfl (by kernel_rfl) (fun _ _ _ h => h) (Or.inl ⟨by rfl, ?_⟩) ?_ ?_
            rotate_left
            · intro w'
              go_simp
              with_reducible rfl
            rotate_left
            · simp only [Act.put, List.setIfInBounds_toArray, List.set_cons_zero, List.set_cons_succ, i64_w, i32_w]
              rfl
            refine pure_ (i := 9) (N := some 30) (v := ?_) (a' := ?_) #[true, true, true, true, false, true, true, true, true, true, false, false, false] rfl rfl (by kernel_rfl) (fun _ _ _ h => h) (Or.inl ⟨by rfl, ?_⟩) ?_ ?_
            rotate_left
            · intro w'
              go_simp
              with_reducible rfl
            rotate_left
            · simp only [Act.put, List.setIfInBounds_toArray, List.set_cons_zero, List.set_cons_succ, i64_w, i32_w]
              rfl
            refine take_ (i := 4) (N := some 25) (v := ?_) (a' := ?_) #[true, true, true, true, true, true, true, true, true, true, false, false, false] rfl rfl (by kernel_rfl) (fun _ _ _ h => h) (Or.inl ⟨by rfl, ?_⟩) hHeld ?_ ?_
            rotate_left
            · rintro w' ⟨s0, s1⟩
              go_simp
              with_reducible rfl
            rotate_left
            · simp only [Act.put, List.setIfInBounds_toArray, List.set_cons_zero, List.set_cons_succ, i64_w, i32_w]
              rfl
            refine take_ (i := 10) (N := some 31) (v := ?_) (a' := ?_) #[true, true, true, true, true, true, true, true, true, true, true, false, false] rfl rfl (by kernel_rfl) (fun _ _ _ h => h) (Or.inl ⟨by rfl, ?_⟩) hHeld ?_ ?_
            rotate_left
            · rintro w' ⟨s0, s1⟩
              go_simp
              with_reducible rfl
            rotate_left
            · simp only [Act.put, List.setIfInBounds_toArray, List.set_cons_zero, List.set_cons_succ, i64_w, i32_w]
              rfl
            refine pure_ (i := 11) (N := some 32) (v := ?_) (a' := ?_) #[true, true, true, true, true, true, true, true, true, true, true, true, false] rfl rfl (by kernel_rfl) (fun _ _ _ h => h) (Or.inl ⟨by rfl, ?_⟩) ?_ ?_
            rotate_left
            · intro w'
              go_simp
              with_reducible rfl
            rotate_left
            · simp only [Act.put, List.setIfInBounds_toArray, List.set_cons_zero, List.set_cons_succ, i64_w, i32_w]
              rfl
            refine pure_ (i := 12) (N := some 33) (v := ?_) (a' := ?_) #[true, true, true, true, true, true, true, true, true, true, true, true, true] rfl rfl (by kernel_rfl) (fun _ _ _ h => h) (Or.inl ⟨by rfl, ?_⟩) ?_ ?_
            rotate_left
            · intro w'
              go_simp
              with_reducible rfl
            rotate_left
            · simp only [Act.put, List.setIfInBounds_toArray, List.set_cons_zero, List.set_cons_succ, i64_w, i32_w]
              rfl
            refine done_ (by kernel_rfl) ?_
            have HUP := Lib.hid (show l[k + 1]? = some r from HU.out)
            cases hlt : (Op.bytesLess r.key.toList r0.key.toList || r.key.toList == r0.key.toList) with
            | true =>
              have HZ := Lib.hid (show E = 73 by rw [← HE.out, scan_down HU0.out HUP.out HC0.out (ge_nlt hlt)])
              go_wp2
              go_ret
              exact ⟨by rw [HZ.out]; rfl, BD.out⟩
            | false =>
              have HN := Lib.hid (show scanAt l (k + 1 + 1) = E by rw [← HE.out]; exact (scan_up HU0.out HUP.out HC0.out (ngt_lt hlt)).symm)
              go_wp2_with fail
              go_roundg k1
              case measure => exact Nat.lt_succ_self _
              case rel => exact ⟨k + 1 + 1, rfl, Lib.hid (by have := HK.out; omega), HN, BD⟩
end Go.Proofs.Ytjpalkggmefpfaa.Tab
