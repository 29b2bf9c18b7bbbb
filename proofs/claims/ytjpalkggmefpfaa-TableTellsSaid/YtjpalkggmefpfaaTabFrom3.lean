/- A table of rows that came in. -/
import Derived.Test.YtjpalkggmefpfaaTabFrom2
set_option linter.unusedVariables false
set_option linter.unusedSimpArgs false
namespace Go.Proofs.Ytjpalkggmefpfaa.Tab
open Go.RowKit Go.Proofs.Ytjpalkggmefpfaa.Mem Go.Proofs.YtjpalkggmefpfaaW.PrintWords Go.Proofs.YtjpalkggmefpfaaW.PrintLast Go.Deep Go.Proofs.Ytjpalkggmefpfaa.Opn
attribute [local go_sem ↓] execOp_call_tmp
attribute [local go_sem] callVal_func
theorem size_take {l : List Row} {k : Nat} {r : Row} (h : l[k]? = some r) : size (l.take (k + 1)) = size (l.take k) + r.bytes := by
  rw [List.take_add_one, h, size_append]
  simp [size]
set_option maxHeartbeats 6400000 in
set_option maxRecDepth 100000 in
theorem from_any {w : World} {A : Option Addr} {c : Nat} {l : List Row} (hcap : l.length ≤ c) (hC : kR.C w A l.length l) (hbig : l.length ≤ 1099511627776000) :
    Calls Try.prog 14 #[.slice A l.length c] w fun e w' => ((listErr l = 0 ∧ ∃ g, e = .returned (.tuple #[.pointer (some ⟨g, 0, none⟩), .int .i64 0]) ∧ w.heap.size ≤ g ∧ TabR w' g l) ∨ (listErr l ≠ 0 ∧ e = .returned (.tuple #[.pointer none, .int .i64 (listErr l)]))) ∧ Below w.heap.size w w' := by
  have HC := Lib.hid hC
  have hm := hC.2.1
  have X0 := Lib.hid (blk_new w (bx (.slice A l.length c) tRows))
  have B0 := Lib.hid (below_alloc (Below.refl w.heap.size w) (bx (.slice A l.length c) tRows))
  have hbl : ∀ x, listErr l = x → (x ≠ 0) → (∀ W, Below w.heap.size w W → ((listErr l = 0 ∧ ∃ g, Ending.returned (.tuple #[.pointer none, .int .i64 x]) = .returned (.tuple #[.pointer (some ⟨g, 0, none⟩), .int .i64 0]) ∧ w.heap.size ≤ g ∧ TabR W g l) ∨ (listErr l ≠ 0 ∧ Ending.returned (.tuple #[.pointer none, .int .i64 x]) = .returned (.tuple #[.pointer none, .int .i64 (listErr l)]))) ∧ Below w.heap.size w W) :=
    fun x hx hn W hW => ⟨.inr ⟨by rw [hx]; exact hn, by rw [hx]⟩, hW⟩
  have HBL := Lib.hid hbl
  clear hbl
  by_cases h3 : 1048576 < l.length
  · have hle : listErr l = 3 := by unfold listErr; rw [if_pos h3]
    have p3 := eq_true (show (1048576 : Int) < (l.length : Int) by omega)
    have HLE := Lib.hid hle
    clear hle HC hC hm hbig h3 hcap
    have cx := blk1 X0.out
    go_enter Try.func14, Try.ntmps14
    go_wp2
    exact bodyPost_ret (v := .tuple #[.pointer none, .int .i64 3]) (by simp [results, Try.results14, go_sem]) rfl (HBL.out 3 HLE.out (by decide) _ B0.out)
  · have p3 : ((1048576 : Int) < (l.length : Int)) = False := _root_.eq_false (by omega)
    have hlb : l.length ≤ 1048576 := by omega
    have HLB := Lib.hid hlb
    have hle : listErr l = scanP none l := by unfold listErr; rw [if_neg h3]
    generalize hE : scanP none l = E at hle
    have HLE := Lib.hid hle
    have HE := Lib.hid (show scanAt l 0 = E from hE)
    clear hE hC hbig h3 hlb hcap hle
    have cx := blk1 X0.out
    go_enter Try.func14, Try.ntmps14
    go_wp2_with fail
    clear cx p3
    generalize (World.alloc w _) = W0 at *
    refine (new_any W0).mono ?_
    rintro e w1 ⟨rfl, hT1, hb1⟩
    obtain ⟨_, root, hG1, _⟩ := hT1
    have hbg : w.heap.size ≠ W0.heap.size := by have := blk_lt X0.out; omega
    have hbg2 : w.heap.size ≤ W0.heap.size := by have := blk_lt X0.out; omega
    have G1 := Lib.hid hG1
    have X1 := Lib.hid (blk_below X0.out hb1)
    have B1 := Lib.hid (below_then B0.out (by have := B0.out.size; omega) hb1)
    clear hG1 hb1 X0 B0
    generalize W0.heap.size = g at *
    have cx := blk1 X1.out
    go_wp2_with fail
    clear cx
    go_loopg [14] l.length (fun kq v14 w' => ∃ (k : Nat), v14 = .int .i64 (k : Int) ∧ Hid (k + kq = l.length) ∧ Hid (scanAt l k = E) ∧ Hid (0 ≤ size (l.take k) ∧ size (l.take k) ≤ 66560 * (k : Int)) ∧ Hid (w'.heap[w.heap.size]? = some (bx (.slice A l.length c) tRows)) ∧ Hid (w'.heap[g]? = some (tabC root (size (l.take k)))) ∧ Hid (Below w.heap.size w w'))
    case atStart => exact ⟨0, rfl, (show _ + _ = _ by omega), HE, Lib.hid (by simp [size]), X1, G1, B1⟩
    case round =>
      clear HE X1 G1 B1
      obtain ⟨k, rfl, HK, HE, HS, X, G, B⟩ := hrel
      cases gk with
      | zero =>
        have hk : k = l.length := HK.out
        have c2 : decide (k < l.length) = false := by simp; omega
        have HZ := Lib.hid (show E = 0 by rw [← HE.out, scan_end (by omega)])
        have G2 : Hid (wr.heap[g]? = some (tabC root (size l))) := Lib.hid (by have := G.out; rwa [hk, List.take_length] at this)
        clear hk G HE HS
        have cx := blk1 X.out
        go_wp2_with fail
        clear cx c2
        have hCw : Hid (kR.C wr A l.length l) := Lib.hid (Kd.C_below HC.out (B.out))
        refine (built_any (by have := HLB.out; omega) trivial l.length l.length 0 wr (by omega) (by omega) (by omega) (by omega) X.out hCw.out).mono ?_
        rintro e w5 ⟨t, pt, rfl, hT5, hwf, hl5, hb5⟩
        have T5 := Lib.hid hT5
        have WF5 := Lib.hid (And.intro hwf (show t.list = l by rw [hl5]; simp))
        have G5 := Lib.hid (blk_below G2.out hb5)
        have B5 := Lib.hid (below_then B.out (by have := B.out.size; omega) hb5)
        clear hT5 hwf hl5 hb5 G2 X B hCw
        have z8 := blkz G5.out 0
        have c8 := blkc G5.out
        go_wp2
        refine bodyPost_ret (v := .tuple #[.pointer (some ⟨g, 0, none⟩), .int .i64 0]) (by simp [results, Try.results14, go_sem]) rfl ⟨.inl ⟨by rw [HLE.out, HZ.out], g, rfl, hbg2, t, pt, ?_, T5.out.set (j := 0) (v := .pointer pt) G5.out (show tN ≠ tTab by decide), WF5.out⟩, below_set (g := g) (j := 0) (v := .pointer pt) B5.out hbg2⟩
        have := blk_set G5.out 0 (.pointer pt)
        simpa using this
      | succ k1 =>
        have hk : k < l.length := by have := HK.out; omega
        have hu := List.getElem?_eq_getElem hk
        generalize l[k] = r at *
        obtain ⟨ad, hA, x0, x1, x2⟩ := at_R HC.out hu
        have HU := Lib.hid hu
        cases hA
        have x0 := pw_cell_below (w1 := wr) (B.out) x0
        have x1 := pw_cell_below (w1 := wr) (B.out) x1
        have x2 := pw_cell_below (w1 := wr) (B.out) x2
        have c2 : decide (k < l.length) = true := by simpa using hk
        have p1 := eq_true (show 0 ≤ (k : Int) by omega)
        have p2 := eq_true (show k < l.length by omega)
        have HA := Lib.hid (below_alloc (Below.refl wr.heap.size wr) (.cells #[Value.string r.key, .string r.value, .int .i64 r.version] tRow))
        have Q4 := Lib.hid (blk_new wr (.cells #[Value.string r.key, .string r.value, .int .i64 r.version] tRow))
        have X4 := Lib.hid (blk_below X.out HA.out)
        have G4 := Lib.hid (blk_below G.out HA.out)
        have B4 := Lib.hid (below_alloc B.out (.cells #[Value.string r.key, .string r.value, .int .i64 r.version] tRow))
        have hqb : w.heap.size ≠ wr.heap.size := by have := blk_lt X.out; omega
        have hqg : wr.heap.size ≠ g := by have := blk_lt G.out; omega
        clear hu X G B HA
        go_upto_region 7 with (fail)
        generalize wr.heap.size = q at *
        generalize (World.alloc wr _) = W4 at *
        clear x0 x1 x2
        have cp := blkc Q4.out
        go_wp2_with fail
        clear cp
        refine (check_any r.key r.value r.version W4).mono ?_
        rintro e w5 ⟨rfl, hb5⟩
        have Q5 := Lib.hid (blk_below Q4.out hb5)
        have X5 := Lib.hid (blk_below X4.out hb5)
        have G5 := Lib.hid (blk_below G4.out hb5)
        have B5 := Lib.hid (below_then B4.out (by have := B4.out.size; omega) hb5)
        clear hb5 Q4 X4 G4 B4
        cases hc : (checkRow (r.key, r.value, r.version) != 0) with
        | true =>
          have HZ := Lib.hid (show listErr l = checkRow (r.key, r.value, r.version) by rw [HLE.out, ← HE.out, scan_bad HU.out (by simpa [Row.check] using hc)]; rfl)
          go_wp2
          exact bodyPost_ret (v := .tuple #[.pointer none, .int .i64 (checkRow (r.key, r.value, r.version))]) (by simp [results, Try.results14, go_sem]) rfl (HBL.out _ HZ.out (by simpa using hc) _ B5.out)
        | false =>
          have hc0 : r.check = 0 := by simpa [Row.check] using hc
          have HC0 := Lib.hid hc0
          clear hc0
          have QD := Lib.hid (blk_drew Q5.out)
          have XD := Lib.hid (blk_drew X5.out)
          have GD := Lib.hid (blk_drew G5.out)
          have BD := Lib.hid B5.out.drew
          clear Q5 X5 G5 B5
          cases k with
          | zero =>
            have HN := Lib.hid (show scanAt l (0 + 1) = E by rw [← HE.out, scan_first HU.out HC0.out])
            go_wp2_with fail
            clear c2 p1 p2
            refine start_ (n := 13) (S := fun w' => (∀ o, w'.cell? ⟨q, o, none⟩ = #[Value.string r.key, .string r.value, .int .i64 r.version][o]?)) (ds := []) #[false, false, false, false, false, false, false, false, false, false, false, false, false] (by kernel_rfl) rfl rfl ((blkc QD.out)) (fun hHeld => ?_)
            refine pure_ (i := 0) (N := some 24) (v := ?_) (a' := ?_) #[true, false, false, false, false, false, false, false, false, false, false, false, false] rfl rfl (by kernel_rfl) (fun _ _ _ h => h) (Or.inl ⟨by rfl, ?_⟩) ?_ ?_
            rotate_left
            · intro w'
              go_simp
              with_reducible rfl
            rotate_left
            · simp only [Act.put, List.setIfInBounds_toArray, List.set_cons_zero, List.set_cons_succ, i64_w, i32_w]
              rfl
            refine pure_ (i := 1) (N := some 25) (v := ?_) (a' := ?_) #[true, true, false, false, false, false, false, false, false, false, false, false, false] rfl rfl (by kernel_rfl) (fun _ _ _ h => h) (Or.inl ⟨by rfl, ?_⟩) ?_ ?_
            rotate_left
            · intro w'
              go_simp
              with_reducible rfl
            rotate_left
            · simp only [Act.put, List.setIfInBounds_toArray, List.set_cons_zero, List.set_cons_succ, i64_w, i32_w]
              rfl
            refine pure_ (i := 2) (N := some 26) (v := ?_) (a' := ?_) #[true, true, true, false, false, false, false, false, false, false, false, false, false] rfl rfl (by kernel_rfl) (fun _ _ _ h => h) (Or.inl ⟨by rfl, ?_⟩) ?_ ?_
            rotate_left
            · intro w'
              go_simp
              with_reducible rfl
            rotate_left
            · simp only [Act.put, List.setIfInBounds_toArray, List.set_cons_zero, List.set_cons_succ, i64_w, i32_w]
              rfl
            refine pure_ (i := 3) (N := some 27) (v := undef) (a' := ?_) #[true, true, true, true, false, false, false, false, false, false, false, false, false] rfl rfl (by kernel_rfl) (fun _ _ _ h => h) (Or.inr ⟨by rfl, rfl⟩) ?_ ?_
            rotate_left
            · simp only [Act.put, List.setIfInBounds_toArray, List.set_cons_zero, List.set_cons_succ, i64_w, i32_w]
              rfl
            refine pure_ (i := 4) (N := some 28) (v := undef) (a' := ?_) #[true, true, true, true, true, false, false, false, false, false, false, false, false] rfl rfl (by kernel_rfl) (fun _ _ _ h => h) (Or.inr ⟨by rfl, rfl⟩) ?_ ?_
            rotate_left
            · simp only [Act.put, List.setIfInBounds_toArray, List.set_cons_zero, List.set_cons_succ, i64_w, i32_w]
              rfl
            refine pure_ (i := 5) (N := some 29) (v := undef) (a' := ?_) #[true, true, true, true, true, true, false, false, false, false, false, false, false] rfl rfl (by kernel_rfl) (fun _ _ _ h => h) (Or.inr ⟨by rfl, rfl⟩) ?_ ?_
            rotate_left
            · simp only [Act.put, List.setIfInBounds_toArray, List.set_cons_zero, List.set_cons_succ, i64_w, i32_w]
              rfl
            refine pure_ (i := 6) (N := some 30) (v := undef) (a' := ?_) #[true, true, true, true, true, true, true, false, false, false, false, false, false] rfl rfl (by kernel_rfl) (fun _ _ _ h => h) (Or.inr ⟨by rfl, rfl⟩) ?_ ?_
            rotate_left
            · simp only [Act.put, List.setIfInBounds_toArray, List.set_cons_zero, List.set_cons_succ, i64_w, i32_w]
              rfl
            refine pure_ (i := 7) (N := some 31) (v := undef) (a' := ?_) #[true, true, true, true, true, true, true, true, false, false, false, false, false] rfl rfl (by kernel_rfl) (fun _ _ _ h => h) (Or.inr ⟨by rfl, rfl⟩) ?_ ?_
            rotate_left
            · simp only [Act.put, List.setIfInBounds_toArray, List.set_cons_zero, List.set_cons_succ, i64_w, i32_w]
              rfl
            refine pure_ (i := 8) (N := some 32) (v := undef) (a' := ?_) #[true, true, true, true, true, true, true, true, true, false, false, false, false] rfl rfl (by kernel_rfl) (fun _ _ _ h => h) (Or.inr ⟨by rfl, rfl⟩) ?_ ?_
            rotate_left
            · simp only [Act.put, List.setIfInBounds_toArray, List.set_cons_zero, List.set_cons_succ, i64_w, i32_w]
              rfl
            refine pure_ (i := 9) (N := some 33) (v := undef) (a' := ?_) #[true, true, true, true, true, true, true, true, true, true, false, false, false] rfl rfl (by kernel_rfl) (fun _ _ _ h => h) (Or.inr ⟨by rfl, rfl⟩) ?_ ?_
            rotate_left
            · simp only [Act.put, List.setIfInBounds_toArray, List.set_cons_zero, List.set_cons_succ, i64_w, i32_w]
              rfl
            refine pure_ (i := 10) (N := some 34) (v := undef) (a' := ?_) #[true, true, true, true, true, true, true, true, true, true, true, false, false] rfl rfl (by kernel_rfl) (fun _ _ _ h => h) (Or.inr ⟨by rfl, rfl⟩) ?_ ?_
            rotate_left
            · simp only [Act.put, List.setIfInBounds_toArray, List.set_cons_zero, List.set_cons_succ, i64_w, i32_w]
              rfl
            refine pure_ (i := 11) (N := some 35) (v := undef) (a' := ?_) #[true, true, true, true, true, true, true, true, true, true, true, true, false] rfl rfl (by kernel_rfl) (fun _ _ _ h => h) (Or.inr ⟨by rfl, rfl⟩) ?_ ?_
            rotate_left
            · simp only [Act.put, List.setIfInBounds_toArray, List.set_cons_zero, List.set_cons_succ, i64_w, i32_w]
              rfl
            refine pure_ (i := 12) (N := some 36) (v := ?_) (a' := ?_) #[true, true, true, true, true, true, true, true, true, true, true, true, true] rfl rfl (by kernel_rfl) (fun _ _ _ h => h) (Or.inl ⟨by rfl, ?_⟩) ?_ ?_
            rotate_left
            · intro w'
              go_simp
              with_reducible rfl
            rotate_left
            · simp only [Act.put, List.setIfInBounds_toArray, List.set_cons_zero, List.set_cons_succ, i64_w, i32_w]
              rfl
            refine done_ (by kernel_rfl) ?_
            have hsz := HS.out
            have hrb := (show RowOk r from HC0.out).bytes
            have hkk := HLB.out
            have hsz : 0 ≤ size [] ∧ size [] ≤ 66560 * ((0 : Nat) : Int) := hsz
            have hst : size (l.take (0 + 1)) = size [] + r.bytes := size_take HU.out
            have GD : Hid (w5.drew.heap[g]? = some (tabC root (size []))) := GD
            have e1 : IntKind.i64.wrap (size [] + r.bytes) = size [] + r.bytes := IntWalk.i64_in _ (by omega)
            have f1 : wrap64 (size [] + r.bytes) = size [] + r.bytes := by rw [← i64_w]; exact e1
            have HST := Lib.hid hst
            have HSN := Lib.hid (show 0 ≤ size (l.take (0 + 1)) ∧ size (l.take (0 + 1)) ≤ 66560 * ((0 + 1 : Nat) : Int) by rw [hst]; omega)
            clear hsz hst
            go_wp2_with fail
            have QE := Lib.hid (blk_drew QD.out)
            have XE := Lib.hid (blk_drew XD.out)
            have GE := Lib.hid (blk_drew GD.out)
            have BE := Lib.hid BD.out.drew
            clear QD XD GD BD
            refine start_ (n := 10) (S := fun w' => (∀ o, w'.cell? ⟨q, o, none⟩ = #[Value.string r.key, .string r.value, .int .i64 r.version][o]?) ∧ (∀ o, w'.cell? ⟨g, o, none⟩ = #[Value.pointer root, .int .i64 (size []), .bool true][o]?)) (ds := [9]) #[false, false, false, false, false, false, false, false, false, false] (by kernel_rfl) rfl rfl ⟨(blkc QE.out), (blkc GE.out)⟩ (fun hHeld => ?_)
            refine pure_ (i := 0) (N := some 37) (v := ?_) (a' := ?_) #[true, false, false, false, false, false, false, false, false, false] rfl rfl (by kernel_rfl) (fun _ _ _ h => h) (Or.inl ⟨by rfl, ?_⟩) ?_ ?_
            rotate_left
            · intro w'
              go_simp
              with_reducible rfl
            rotate_left
            · simp only [Act.put, List.setIfInBounds_toArray, List.set_cons_zero, List.set_cons_succ, i64_w, i32_w]
              rfl
            refine pure_ (i := 1) (N := some 38) (v := ?_) (a' := ?_) #[true, true, false, false, false, false, false, false, false, false] rfl rfl (by kernel_rfl) (fun _ _ _ h => h) (Or.inl ⟨by rfl, ?_⟩) ?_ ?_
            rotate_left
            · intro w'
              go_simp
              with_reducible rfl
            rotate_left
            · simp only [Act.put, List.setIfInBounds_toArray, List.set_cons_zero, List.set_cons_succ, i64_w, i32_w]
              rfl
            refine pure_ (i := 2) (N := some 39) (v := ?_) (a' := ?_) #[true, true, true, false, false, false, false, false, false, false] rfl rfl (by kernel_rfl) (fun _ _ _ h => h) (Or.inl ⟨by rfl, ?_⟩) ?_ ?_
            rotate_left
            · intro w'
              go_simp
              with_reducible rfl
            rotate_left
            · simp only [Act.put, List.setIfInBounds_toArray, List.set_cons_zero, List.set_cons_succ, i64_w, i32_w]
              rfl
            refine take_ (i := 3) (N := some 40) (v := ?_) (a' := ?_) #[true, true, true, true, false, false, false, false, false, false] rfl rfl (by kernel_rfl) (fun _ _ _ h => h) (Or.inl ⟨by rfl, ?_⟩) hHeld ?_ ?_
            rotate_left
            · rintro w' ⟨s0, s1⟩
              go_simp
              with_reducible rfl
            rotate_left
            · simp only [Act.put, List.setIfInBounds_toArray, List.set_cons_zero, List.set_cons_succ, i64_w, i32_w]
              rfl
            refine take_ (i := 4) (N := some 41) (v := ?_) (a' := ?_) #[true, true, true, true, true, false, false, false, false, false] rfl rfl (by kernel_rfl) (fun _ _ _ h => h) (Or.inl ⟨by rfl, ?_⟩) hHeld ?_ ?_
            rotate_left
            · rintro w' ⟨s0, s1⟩
              go_simp
              with_reducible rfl
            rotate_left
            · simp only [Act.put, List.setIfInBounds_toArray, List.set_cons_zero, List.set_cons_succ, i64_w, i32_w]
              rfl
            refine one_ (i := 5) (N := some 42) #[true, true, true, true, true, true, false, false, false, false] rfl rfl (by kernel_rfl) (by decide) (fun K hK => ?_)
            refine goes_ Try.func40 (by kernel_rfl) rfl #[r.val] (by rfl) rfl rfl (by simp only [List.map_toArray, List.map_cons, List.map_nil]; rfl) ?_
            with_reducible refine (bytes_any r _ (by omega)).mono ?_
            rintro e w6 ⟨rfl, hb6⟩
            refine ⟨_, rfl, ?_⟩
            have Q6 := Lib.hid (blk_below QE.out hb6)
            have X6 := Lib.hid (blk_below XE.out hb6)
            have G6 := Lib.hid (blk_below GE.out hb6)
            have B6 := Lib.hid (below_then BE.out (by have := BE.out.size; omega) hb6)
            refine hK.out _ _ ⟨(blkc Q6.out), (blkc G6.out)⟩ (fun hHeld => ?_)
            clear hK K
            refine norm_ (a' := ?_) ?_ ?_
            rotate_left
            · show Act.put _ (some 42) _ = _
              simp only [Act.put, List.setIfInBounds_toArray, List.set_cons_zero, List.set_cons_succ, i64_w, i32_w]
              rfl
            refine pure_ (i := 6) (N := some 43) (v := ?_) (a' := ?_) #[true, true, true, true, true, true, true, false, false, false] rfl rfl (by kernel_rfl) (fun _ _ _ h => h) (Or.inl ⟨by rfl, ?_⟩) ?_ ?_
            rotate_left
            · intro w'
              go_simp
              with_reducible rfl
            rotate_left
            · simp only [Act.put, List.setIfInBounds_toArray, List.set_cons_zero, List.set_cons_succ, i64_w, i32_w]
              rfl
            refine pure_ (i := 7) (N := some 44) (v := ?_) (a' := ?_) #[true, true, true, true, true, true, true, true, false, false] rfl rfl (by kernel_rfl) (fun _ _ _ h => h) (Or.inl ⟨by rfl, ?_⟩) ?_ ?_
            rotate_left
            · intro w'
              go_simp
              with_reducible rfl
            rotate_left
            · simp only [Act.put, List.setIfInBounds_toArray, List.set_cons_zero, List.set_cons_succ, i64_w, i32_w]
              rfl
            refine pure_ (i := 8) (N := some 45) (v := ?_) (a' := ?_) #[true, true, true, true, true, true, true, true, true, false] rfl rfl (by kernel_rfl) (fun _ _ _ h => h) (Or.inl ⟨by rfl, ?_⟩) ?_ ?_
            rotate_left
            · intro w'
              go_simp
              with_reducible rfl
            rotate_left
            · simp only [Act.put, List.setIfInBounds_toArray, List.set_cons_zero, List.set_cons_succ, i64_w, i32_w]
              rfl
            refine last_ (i := 9) (N := none) #[true, true, true, true, true, true, true, true, true, true] rfl rfl (by kernel_rfl) (by decide) (fun K hK => ?_)
            have z8 := blkz G6.out 1
            have c8 := blkc G6.out 1
            refine skip_ (w1 := ?_) (by rfl) rfl ?_ ?_
            rotate_left
            · go_simp
              rfl
            refine hK.out _ _ ?_
            clear hK K
            refine done_ (by kernel_rfl) ?_
            have G7 : Hid ((World.setCell w6 ⟨g, 1, none⟩ (.int .i64 (size [] + r.bytes))).heap[g]? = some (tabC root (size (l.take (0 + 1))))) := Lib.hid (by rw [HST.out]; have := blk_set G6.out 1 (.int .i64 (size [] + r.bytes)); simpa using this)
            have X7 := Lib.hid (blk_far (p := ⟨g, 1, none⟩) X6.out hbg (.int .i64 (size [] + r.bytes)))
            have B7 := Lib.hid (below_set (g := g) (j := 1) (v := (.int .i64 (size [] + r.bytes))) B6.out hbg2)
            clear G6 X6 Q6 B6
            generalize (World.setCell _ _ _) = W7 at *
            go_wp2_with fail
            go_roundg k1
            case measure => exact Nat.lt_succ_self _
            case rel => exact ⟨0 + 1, rfl, Lib.hid (by have := HK.out; omega), HN, HSN, X7, G7, B7⟩
          | succ k =>
            have hk0 : k < l.length := by omega
            have hu0 := List.getElem?_eq_getElem hk0
            generalize l[k] = r0 at *
            obtain ⟨ad0, hA0, y0, _, _⟩ := at_R HC.out hu0
            cases hA0
            have HU0 := Lib.hid hu0
            have y0 := pw_cell_below (w1 := w5.drew) BD.out y0
            have hi1 : ((k + 1 : Nat) : Int) - 1 = (k : Int) := by omega
            have p5 := eq_true (show ((k + 1 : Nat) : Int) > 0 by omega)
            have p3 := eq_true (show 0 ≤ (k : Int) by omega)
            have p4 := eq_true (show k < l.length by omega)
            have p6 : wrap64 (k : Int) = (k : Int) := by rw [← i64_w]; exact IntWalk.i64_in _ (by have := HLB.out; omega)
            clear hu0 hk0
            go_wp2_with fail
            refine start_ (n := 13) (S := fun w' => (∀ o, w'.cell? ⟨q, o, none⟩ = #[Value.string r.key, .string r.value, .int .i64 r.version][o]?) ∧ w'.cell? ⟨w.heap.size, 0, none⟩ = some (.slice (some ad) l.length c) ∧ w'.cell? (ad.add (k * 3)) = some (.string r0.key)) (ds := []) #[false, false, false, false, false, false, false, false, false, false, false, false, false] (by kernel_rfl) rfl rfl ⟨(blkc QD.out), (blk1 XD.out), y0⟩ (fun hHeld => ?_)
            refine pure_ (i := 0) (N := some 24) (v := ?_) (a' := ?_) #[true, false, false, false, false, false, false, false, false, false, false, false, false] rfl rfl (by kernel_rfl) (fun _ _ _ h => h) (Or.inl ⟨by rfl, ?_⟩) ?_ ?_
            rotate_left
            · intro w'
              go_simp
              with_reducible rfl
            rotate_left
            · simp only [Act.put, List.setIfInBounds_toArray, List.set_cons_zero, List.set_cons_succ, i64_w, i32_w]
              rfl
            refine pure_ (i := 1) (N := some 25) (v := ?_) (a' := ?_) #[true, true, false, false, false, false, false, false, false, false, false, false, false] rfl rfl (by kernel_rfl) (fun _ _ _ h => h) (Or.inl ⟨by rfl, ?_⟩) ?_ ?_
            rotate_left
            · intro w'
              go_simp
              with_reducible rfl
            rotate_left
            · simp only [Act.put, List.setIfInBounds_toArray, List.set_cons_zero, List.set_cons_succ, i64_w, i32_w]
              rfl
            refine pure_ (i := 2) (N := some 26) (v := ?_) (a' := ?_) #[true, true, true, false, false, false, false, false, false, false, false, false, false] rfl rfl (by kernel_rfl) (fun _ _ _ h => h) (Or.inl ⟨by rfl, ?_⟩) ?_ ?_
            rotate_left
            · intro w'
              go_simp
              with_reducible rfl
            rotate_left
            · simp only [Act.put, List.setIfInBounds_toArray, List.set_cons_zero, List.set_cons_succ, i64_w, i32_w]
              rfl
            refine pure_ (i := 3) (N := some 27) (v := ?_) (a' := ?_) #[true, true, true, true, false, false, false, false, false, false, false, false, false] rfl rfl (by kernel_rfl) (fun _ _ _ h => h) (Or.inl ⟨by rfl, ?_⟩) ?_ ?_
            rotate_left
            · intro w'
              go_simp
              with_reducible rfl
            rotate_left
            · simp only [Act.put, List.setIfInBounds_toArray, List.set_cons_zero, List.set_cons_succ, i64_w, i32_w]
              rfl
            refine pure_ (i := 6) (N := some 30) (v := ?_) (a' := ?_) #[true, true, true, true, false, false, true, false, false, false, false, false, false] rfl rfl (by kernel_rfl) (fun _ _ _ h => h) (Or.inl ⟨by rfl, ?_⟩) ?_ ?_
            rotate_left
            · intro w'
              go_simp
              with_reducible rfl
            rotate_left
            · simp only [Act.put, List.setIfInBounds_toArray, List.set_cons_zero, List.set_cons_succ, i64_w, i32_w]
              rfl
            refine pure_ (i := 7) (N := some 31) (v := ?_) (a' := ?_) #[true, true, true, true, false, false, true, true, false, false, false, false, false] rfl rfl (by kernel_rfl) (fun _ _ _ h => h) (Or.inl ⟨by rfl, ?_⟩) ?_ ?_
            rotate_left
            · intro w'
              go_simp
              with_reducible rfl
            rotate_left
            · simp only [Act.put, List.setIfInBounds_toArray, List.set_cons_zero, List.set_cons_succ, i64_w, i32_w]
              rfl
            refine take_ (i := 4) (N := some 28) (v := ?_) (a' := ?_) #[true, true, true, true, true, false, true, true, false, false, false, false, false] rfl rfl (by kernel_rfl) (fun _ _ _ h => h) (Or.inl ⟨by rfl, ?_⟩) hHeld ?_ ?_
            rotate_left
            · rintro w' ⟨s0, s1, s2⟩
              go_simp
              with_reducible rfl
            rotate_left
            · simp only [Act.put, List.setIfInBounds_toArray, List.set_cons_zero, List.set_cons_succ, i64_w, i32_w]
              rfl
            refine take_ (i := 5) (N := some 29) (v := ?_) (a' := ?_) #[true, true, true, true, true, true, true, true, false, false, false, false, false] rfl rfl (by kernel_rfl) (fun _ _ _ h => h) (Or.inl ⟨by rfl, ?_⟩) hHeld ?_ ?_
            rotate_left
            · rintro w' ⟨s0, s1, s2⟩
              go_simp
              with_reducible rfl
            rotate_left
            · simp only [Act.put, List.setIfInBounds_toArray, List.set_cons_zero, List.set_cons_succ, i64_w, i32_w]
              rfl
            refine pure_ (i := 8) (N := some 32) (v := ?_) (a' := ?_) #[true, true, true, true, true, true, true, true, true, false, false, false, false] rfl rfl (by kernel_rfl) (fun _ _ _ h => h) (Or.inl ⟨by rfl, ?_⟩) ?_ ?_
            rotate_left
            · intro w'
              go_simp
              with_reducible rfl
            rotate_left
            · simp only [Act.put, List.setIfInBounds_toArray, List.set_cons_zero, List.set_cons_succ, i64_w, i32_w]
              rfl
            refine pure_ (i := 9) (N := some 33) (v := ?_) (a' := ?_) #[true, true, true, true, true, true, true, true, true, true, false, false, false] rfl rfl (by kernel_rfl) (fun _ _ _ h => h) (Or.inl ⟨by rfl, ?_⟩) ?_ ?_
            rotate_left
            · intro w'
              go_simp
              with_reducible rfl
            rotate_left
            · simp only [Act.put, List.setIfInBounds_toArray, List.set_cons_zero, List.set_cons_succ, i64_w, i32_w]
              rfl
            refine take_ (i := 10) (N := some 34) (v := ?_) (a' := ?_) #[true, true, true, true, true, true, true, true, true, true, true, false, false] rfl rfl (by kernel_rfl) (fun _ _ _ h => h) (Or.inl ⟨by rfl, ?_⟩) hHeld ?_ ?_
            rotate_left
            · rintro w' ⟨s0, s1, s2⟩
              go_simp
              with_reducible rfl
            rotate_left
            · simp only [Act.put, List.setIfInBounds_toArray, List.set_cons_zero, List.set_cons_succ, i64_w, i32_w]
              rfl
            refine pure_ (i := 11) (N := some 35) (v := ?_) (a' := ?_) #[true, true, true, true, true, true, true, true, true, true, true, true, false] rfl rfl (by kernel_rfl) (fun _ _ _ h => h) (Or.inl ⟨by rfl, ?_⟩) ?_ ?_
            rotate_left
            · intro w'
              go_simp
              with_reducible rfl
            rotate_left
            · simp only [Act.put, List.setIfInBounds_toArray, List.set_cons_zero, List.set_cons_succ, i64_w, i32_w]
              rfl
            refine pure_ (i := 12) (N := some 36) (v := ?_) (a' := ?_) #[true, true, true, true, true, true, true, true, true, true, true, true, true] rfl rfl (by kernel_rfl) (fun _ _ _ h => h) (Or.inl ⟨by rfl, ?_⟩) ?_ ?_
            rotate_left
            · intro w'
              go_simp
              with_reducible rfl
            rotate_left
            · simp only [Act.put, List.setIfInBounds_toArray, List.set_cons_zero, List.set_cons_succ, i64_w, i32_w]
              rfl
            refine done_ (by kernel_rfl) ?_
            have HUP := Lib.hid (show l[k + 1]? = some r from HU.out)
            clear p3 p4 p5 y0
            cases hlt : (Op.bytesLess r.key.toList r0.key.toList || r.key.toList == r0.key.toList) with
            | true =>
              have HZ := Lib.hid (show listErr l = 73 by rw [HLE.out, ← HE.out, scan_down HU0.out HUP.out HC0.out (ge_nlt hlt)])
              go_wp2
              exact bodyPost_ret (v := .tuple #[.pointer none, .int .i64 73]) (by simp [results, Try.results14, go_sem]) rfl (HBL.out _ HZ.out (by decide) _ BD.out)
            | false =>
              have HN := Lib.hid (show scanAt l (k + 1 + 1) = E by rw [← HE.out]; exact (scan_up HU0.out HUP.out HC0.out (ngt_lt hlt)).symm)
              have hsz := HS.out
              have hrb := (show RowOk r from HC0.out).bytes
              have hkk := HLB.out
              have hsz : 0 ≤ size (l.take (k + 1)) ∧ size (l.take (k + 1)) ≤ 66560 * ((k + 1 : Nat) : Int) := hsz
              have hst : size (l.take (k + 1 + 1)) = size (l.take (k + 1)) + r.bytes := size_take HU.out
              have GD : Hid (w5.drew.heap[g]? = some (tabC root (size (l.take (k + 1))))) := GD
              have e1 : IntKind.i64.wrap (size (l.take (k + 1)) + r.bytes) = size (l.take (k + 1)) + r.bytes := IntWalk.i64_in _ (by omega)
              have f1 : wrap64 (size (l.take (k + 1)) + r.bytes) = size (l.take (k + 1)) + r.bytes := by rw [← i64_w]; exact e1
              have HST := Lib.hid hst
              have HSN := Lib.hid (show 0 ≤ size (l.take (k + 1 + 1)) ∧ size (l.take (k + 1 + 1)) ≤ 66560 * ((k + 1 + 1 : Nat) : Int) by rw [hst]; omega)
              clear hsz hst
              go_wp2_with fail
              have QE := Lib.hid (blk_drew QD.out)
              have XE := Lib.hid (blk_drew XD.out)
              have GE := Lib.hid (blk_drew GD.out)
              have BE := Lib.hid BD.out.drew
              clear QD XD GD BD
              refine start_ (n := 10) (S := fun w' => (∀ o, w'.cell? ⟨q, o, none⟩ = #[Value.string r.key, .string r.value, .int .i64 r.version][o]?) ∧ (∀ o, w'.cell? ⟨g, o, none⟩ = #[Value.pointer root, .int .i64 (size (l.take (k + 1))), .bool true][o]?)) (ds := [9]) #[false, false, false, false, false, false, false, false, false, false] (by kernel_rfl) rfl rfl ⟨(blkc QE.out), (blkc GE.out)⟩ (fun hHeld => ?_)
              refine pure_ (i := 0) (N := some 37) (v := ?_) (a' := ?_) #[true, false, false, false, false, false, false, false, false, false] rfl rfl (by kernel_rfl) (fun _ _ _ h => h) (Or.inl ⟨by rfl, ?_⟩) ?_ ?_
              rotate_left
              · intro w'
                go_simp
                with_reducible rfl
              rotate_left
              · simp only [Act.put, List.setIfInBounds_toArray, List.set_cons_zero, List.set_cons_succ, i64_w, i32_w]
                rfl
              refine pure_ (i := 1) (N := some 38) (v := ?_) (a' := ?_) #[true, true, false, false, false, false, false, false, false, false] rfl rfl (by kernel_rfl) (fun _ _ _ h => h) (Or.inl ⟨by rfl, ?_⟩) ?_ ?_
              rotate_left
              · intro w'
                go_simp
                with_reducible rfl
              rotate_left
              · simp only [Act.put, List.setIfInBounds_toArray, List.set_cons_zero, List.set_cons_succ, i64_w, i32_w]
                rfl
              refine pure_ (i := 2) (N := some 39) (v := ?_) (a' := ?_) #[true, true, true, false, false, false, false, false, false, false] rfl rfl (by kernel_rfl) (fun _ _ _ h => h) (Or.inl ⟨by rfl, ?_⟩) ?_ ?_
              rotate_left
              · intro w'
                go_simp
                with_reducible rfl
              rotate_left
              · simp only [Act.put, List.setIfInBounds_toArray, List.set_cons_zero, List.set_cons_succ, i64_w, i32_w]
                rfl
              refine take_ (i := 3) (N := some 40) (v := ?_) (a' := ?_) #[true, true, true, true, false, false, false, false, false, false] rfl rfl (by kernel_rfl) (fun _ _ _ h => h) (Or.inl ⟨by rfl, ?_⟩) hHeld ?_ ?_
              rotate_left
              · rintro w' ⟨s0, s1⟩
                go_simp
                with_reducible rfl
              rotate_left
              · simp only [Act.put, List.setIfInBounds_toArray, List.set_cons_zero, List.set_cons_succ, i64_w, i32_w]
                rfl
              refine take_ (i := 4) (N := some 41) (v := ?_) (a' := ?_) #[true, true, true, true, true, false, false, false, false, false] rfl rfl (by kernel_rfl) (fun _ _ _ h => h) (Or.inl ⟨by rfl, ?_⟩) hHeld ?_ ?_
              rotate_left
              · rintro w' ⟨s0, s1⟩
                go_simp
                with_reducible rfl
              rotate_left
              · simp only [Act.put, List.setIfInBounds_toArray, List.set_cons_zero, List.set_cons_succ, i64_w, i32_w]
                rfl
              refine one_ (i := 5) (N := some 42) #[true, true, true, true, true, true, false, false, false, false] rfl rfl (by kernel_rfl) (by decide) (fun K hK => ?_)
              refine goes_ Try.func40 (by kernel_rfl) rfl #[r.val] (by rfl) rfl rfl (by simp only [List.map_toArray, List.map_cons, List.map_nil]; rfl) ?_
              with_reducible refine (bytes_any r _ (by omega)).mono ?_
              rintro e w6 ⟨rfl, hb6⟩
              refine ⟨_, rfl, ?_⟩
              have Q6 := Lib.hid (blk_below QE.out hb6)
              have X6 := Lib.hid (blk_below XE.out hb6)
              have G6 := Lib.hid (blk_below GE.out hb6)
              have B6 := Lib.hid (below_then BE.out (by have := BE.out.size; omega) hb6)
              refine hK.out _ _ ⟨(blkc Q6.out), (blkc G6.out)⟩ (fun hHeld => ?_)
              clear hK K
              refine norm_ (a' := ?_) ?_ ?_
              rotate_left
              · show Act.put _ (some 42) _ = _
                simp only [Act.put, List.setIfInBounds_toArray, List.set_cons_zero, List.set_cons_succ, i64_w, i32_w]
                rfl
              refine pure_ (i := 6) (N := some 43) (v := ?_) (a' := ?_) #[true, true, true, true, true, true, true, false, false, false] rfl rfl (by kernel_rfl) (fun _ _ _ h => h) (Or.inl ⟨by rfl, ?_⟩) ?_ ?_
              rotate_left
              · intro w'
                go_simp
                with_reducible rfl
              rotate_left
              · simp only [Act.put, List.setIfInBounds_toArray, List.set_cons_zero, List.set_cons_succ, i64_w, i32_w]
                rfl
              refine pure_ (i := 7) (N := some 44) (v := ?_) (a' := ?_) #[true, true, true, true, true, true, true, true, false, false] rfl rfl (by kernel_rfl) (fun _ _ _ h => h) (Or.inl ⟨by rfl, ?_⟩) ?_ ?_
              rotate_left
              · intro w'
                go_simp
                with_reducible rfl
              rotate_left
              · simp only [Act.put, List.setIfInBounds_toArray, List.set_cons_zero, List.set_cons_succ, i64_w, i32_w]
                rfl
              refine pure_ (i := 8) (N := some 45) (v := ?_) (a' := ?_) #[true, true, true, true, true, true, true, true, true, false] rfl rfl (by kernel_rfl) (fun _ _ _ h => h) (Or.inl ⟨by rfl, ?_⟩) ?_ ?_
              rotate_left
              · intro w'
                go_simp
                with_reducible rfl
              rotate_left
              · simp only [Act.put, List.setIfInBounds_toArray, List.set_cons_zero, List.set_cons_succ, i64_w, i32_w]
                rfl
              refine last_ (i := 9) (N := none) #[true, true, true, true, true, true, true, true, true, true] rfl rfl (by kernel_rfl) (by decide) (fun K hK => ?_)
              have z8 := blkz G6.out 1
              have c8 := blkc G6.out 1
              refine skip_ (w1 := ?_) (by rfl) rfl ?_ ?_
              rotate_left
              · go_simp
                rfl
              refine hK.out _ _ ?_
              clear hK K
              refine done_ (by kernel_rfl) ?_
              have G7 : Hid ((World.setCell w6 ⟨g, 1, none⟩ (.int .i64 (size (l.take (k + 1)) + r.bytes))).heap[g]? = some (tabC root (size (l.take (k + 1 + 1))))) := Lib.hid (by rw [HST.out]; have := blk_set G6.out 1 (.int .i64 (size (l.take (k + 1)) + r.bytes)); simpa using this)
              have X7 := Lib.hid (blk_far (p := ⟨g, 1, none⟩) X6.out hbg (.int .i64 (size (l.take (k + 1)) + r.bytes)))
              have B7 := Lib.hid (below_set (g := g) (j := 1) (v := (.int .i64 (size (l.take (k + 1)) + r.bytes))) B6.out hbg2)
              clear G6 X6 Q6 B6
              generalize (World.setCell _ _ _) = W7 at *
              go_wp2_with fail
              go_roundg k1
              case measure => exact Nat.lt_succ_self _
              case rel => exact ⟨k + 1 + 1, rfl, Lib.hid (by have := HK.out; omega), HN, HSN, X7, G7, B7⟩
end Go.Proofs.Ytjpalkggmefpfaa.Tab
