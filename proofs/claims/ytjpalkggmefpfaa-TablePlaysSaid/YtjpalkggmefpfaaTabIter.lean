/- Ranks, places, and the iterators of a table. -/
import Derived.Test.YtjpalkggmefpfaaTabEach
set_option linter.unusedVariables false
set_option linter.unusedSimpArgs false
namespace Go.Proofs.Ytjpalkggmefpfaa.Tab
open Go.RowKit Go.Proofs.Ytjpalkggmefpfaa.Mem Go.Proofs.YtjpalkggmefpfaaW.PrintWords Go.Proofs.YtjpalkggmefpfaaW.PrintLast Go.Deep
theorem below_left {t : T} (hn : t ≠ .nil) (wf : t.WF) (hu : Up t.list) {x : ByteArray} (h : (Op.bytesLess x.toList t.key.toList || x.toList == t.key.toList) = true) : (below x t.list).length = (below x t.left.list).length ∧ Up t.left.list := by
  have hk := WF.row wf hn
  rw [list_node hn] at hu ⊢
  obtain ⟨u1, u2, u3, u4⟩ := up_node hu
  rw [hk] at h
  have hv : lt t.row.key x = false := by
    rw [Bool.or_eq_true] at h
    rcases h with h | h
    · exact lt_asymm h
    · exact ngt_of h
  have hR : below x t.right.list = [] := below_none (fun y hy => by
    cases hyx : lt y.key x with
    | false => rfl
    | true => have := lt_trans (u4 y hy) hyx; rw [hv] at this; cases this)
  rw [below_app, hv, hR]
  exact ⟨by simp, u1⟩
theorem below_right {t : T} (hn : t ≠ .nil) (wf : t.WF) (hu : Up t.list) {x : ByteArray} (h : (Op.bytesLess x.toList t.key.toList || x.toList == t.key.toList) = false) : (below x t.list).length = t.left.list.length + 1 + (below x t.right.list).length ∧ Up t.right.list := by
  have hk := WF.row wf hn
  rw [list_node hn] at hu ⊢
  obtain ⟨u1, u2, u3, u4⟩ := up_node hu
  rw [hk, Bool.or_eq_false_iff] at h
  have hv : lt t.row.key x = true := gt_of h.1 h.2
  rw [below_app, hv, below_all (l := t.left.list) (fun y hy => lt_trans (u3 y hy) hv)]
  exact ⟨by simp; omega, u2⟩
set_option maxHeartbeats 800000 in
theorem rank_any {w : World} {t : T} {p : Option Addr} (h : TR w t p) (wf : t.WF) (hu : Up t.list) (hlen : t.list.length ≤ 1099511627776) (x : ByteArray) : Calls Try.prog 56 #[.pointer p, .string x] w fun e w' => e = .returned (.int .i64 ((below x t.list).length : Int)) ∧ w = w' := by
  have H := Lib.hid h
  have HW := Lib.hid (And.intro wf hu)
  have hbl : (below x t.list).length ≤ 1099511627776 := Nat.le_trans (List.length_filter_le ..) hlen
  generalize htot : (below x t.list).length = tot at *
  have HT := Lib.hid htot
  clear h wf hu htot hlen
  go_enter Try.func56, Try.ntmps56
  go_wp2_with fail
  go_loopg [0, 5] t.size (fun kq v0 v5 w' => ∃ (t' : T) (q : Option Addr) (k : Nat), v0 = .pointer q ∧ v5 = .int .i64 (k : Int) ∧ Hid (TR w t' q) ∧ Hid (t'.WF ∧ Up t'.list) ∧ Hid (k + (below x t'.list).length = tot) ∧ Hid (t'.size ≤ kq) ∧ w = w')
  case atStart => exact ⟨t, p, 0, rfl, rfl, H, HW, Lib.hid (by have := HT.out; omega), Lib.hid (Nat.le_refl _), rfl⟩
  case round =>
    clear H HW HT
    obtain ⟨t', q, k, rfl, rfl, H, HW, HK, HS, rfl⟩ := hrel
    by_cases hn : t' = .nil
    · subst hn
      have hq : q = none := H.out
      subst hq
      go_wp2
      go_ret
      exact ⟨by have := HK.out; show Ending.returned (Value.int .i64 (k : Int)) = _; rw [show k = tot from this], rfl⟩
    · obtain ⟨g, pl, pr, rfl, hg, hl, hr⟩ := H.out.node hn
      obtain ⟨k1, rfl⟩ : ∃ k1, gk = k1 + 1 := ⟨gk - 1, by have := size_node hn; have := HS.out; omega⟩
      have cg := blkc hg
      have HN := Lib.hid hn
      have HLf := Lib.hid hl
      have HR := Lib.hid hr
      clear hg hl hr hn
      cases h1 : (Op.bytesLess x.toList t'.key.toList || x.toList == t'.key.toList) with
      | true =>
        have HB := Lib.hid (below_left HN.out HW.out.1 HW.out.2 h1)
        go_wp2
        go_roundg k1
        case measure => exact Nat.lt_succ_self _
        case rel => exact ⟨t'.left, _, k, rfl, rfl, HLf, Lib.hid ⟨WF.left HW.out.1, HB.out.2⟩, Lib.hid (by have := HB.out.1; have := HK.out; omega), Lib.hid (by have := size_node HN.out; have := HS.out; omega), rfl⟩
      | false =>
        have HB := Lib.hid (below_right HN.out HW.out.1 HW.out.2 h1)
        have HC := Lib.hid (WF.count (WF.left HW.out.1))
        have hkb : k + (t'.left.list.length + 1) ≤ 1099511627776 := by have := HB.out.1; have := HK.out; omega
        go_wp2_with fail
        refine (count_any HLf.out).mono ?_
        rintro e w1 ⟨rfl, rfl⟩
        rw [HC.out]
        go_wp2
        go_roundg k1
        case measure => exact Nat.lt_succ_self _
        case rel => exact ⟨t'.right, _, k + (t'.left.list.length + 1), rfl, by go_num, HR, Lib.hid ⟨WF.right HW.out.1, HB.out.2⟩, Lib.hid (by have := HB.out.1; have := HK.out; omega), Lib.hid (by have := size_node HN.out; have := HS.out; omega), rfl⟩
theorem trank_any {w : World} {g : Nat} {l : List Row} (h : TabR w g l) (hl : LOk l) (x : ByteArray) : Calls Try.prog 32 #[.pointer (some ⟨g, 0, none⟩), .string x] w fun e w' => e = .returned (.int .i64 ((below x l).length : Int)) ∧ w = w' := by
  obtain ⟨t, root, h1, h2, h3, rfl⟩ := h
  have HU := Lib.hid hl.up
  have HLN := Lib.hid hl.len
  go_enter Try.func32, Try.ntmps32
  go_wp2_with fail
  refine (tree_any h1).mono ?_
  rintro e w1 ⟨rfl, rfl⟩
  go_wp2_with fail
  refine (rank_any h2 h3 HU.out (by have := HLN.out; omega) x).mono ?_
  rintro e w1 ⟨rfl, rfl⟩
  go_wp2
  go_ret
  exact ⟨rfl, rfl⟩
def upTo (l : List Row) (u : ByteArray) : Int := if u.size = 0 then l.length else (below u l).length
set_option maxHeartbeats 800000 in
theorem places_any {w : World} {g : Nat} {l : List Row} (h : TabR w g l) (hl : LOk l) (f u : ByteArray) : Calls Try.prog 67 #[.pointer (some ⟨g, 0, none⟩), .agg #[.string f, .string u]] w fun e w' => e = .returned (.tuple #[.int .i64 ((below f l).length : Int), .int .i64 (upTo l u)]) ∧ Below w.heap.size w w' := by
  have B0 := Lib.hid (below_alloc (Below.refl w.heap.size w) (.cells #[.string f, .string u] 39))
  have cp := blkc (blk_new w (.cells #[.string f, .string u] 39))
  have H := Lib.hid (h.below B0.out)
  clear h
  unfold upTo
  by_cases hu : u.size = 0
  · have hue : u.toList.isEmpty = true := by rw [isEmpty_size]; simpa using hu
    have huz : u.toList = [] := (toList_nil u).2 hu
    rw [if_pos hu]
    have HU := Lib.hid hu
    have HZ := Lib.hid huz
    clear hu huz
    have hz := HZ.out
    go_enter Try.func67, Try.ntmps67
    go_wp2_with fail
    refine (len_any H.out).mono ?_
    rintro e w1 ⟨rfl, rfl⟩
    go_wp2_with fail
    refine (trank_any H.out hl f).mono ?_
    rintro e w1 ⟨rfl, rfl⟩
    go_wp2
    go_ret2
    exact ⟨rfl, B0.out⟩
  · have hue : u.toList.isEmpty = false := by rw [isEmpty_size]; simpa using hu
    have huz : ¬ u.toList = [] := fun e => hu ((toList_nil u).1 e)
    rw [if_neg hu]
    have HU := Lib.hid hu
    clear hu
    go_enter Try.func67, Try.ntmps67
    go_wp2_with fail
    refine (len_any H.out).mono ?_
    rintro e w1 ⟨rfl, rfl⟩
    go_wp2_with fail
    refine (trank_any H.out hl u).mono ?_
    rintro e w1 ⟨rfl, rfl⟩
    go_wp2_with fail
    refine (trank_any H.out hl f).mono ?_
    rintro e w1 ⟨rfl, rfl⟩
    go_wp2
    go_ret2
    exact ⟨rfl, B0.out⟩
/-- What an iterator over a table has captured. -/
def IterR (w : World) (lb : Array Value) (down : Bool) (l : List Row) (a b : Int) : Prop := ∃ (b1 b2 b3 b4 : Nat) (root : Option Addr) (t : T), lb = #[.pointer (some ⟨b1, 0, none⟩), .pointer (some ⟨b2, 0, none⟩), .pointer (some ⟨b3, 0, none⟩), .pointer (some ⟨b4, 0, none⟩)] ∧
  w.heap[b1]? = some (bx (.pointer root) tPN) ∧ w.heap[b2]? = some (bx (.int .i64 a) tI) ∧ w.heap[b3]? = some (bx (.int .i64 b) tI) ∧ w.heap[b4]? = some (bx (.bool down) tB) ∧ TR w t root ∧ t.WF ∧ t.list = l
theorem IterR.below {w w1 : World} {lb : Array Value} {down : Bool} {l : List Row} {a b : Int} (h : IterR w lb down l a b) (hb : Below w.heap.size w w1) : IterR w1 lb down l a b := by
  obtain ⟨b1, b2, b3, b4, root, t, e, h1, h2, h3, h4, h5, h6⟩ := h
  exact ⟨b1, b2, b3, b4, root, t, e, blk_below h1 hb, blk_below h2 hb, blk_below h3 hb, blk_below h4 hb, h5.below hb, h6⟩
set_option maxHeartbeats 800000 in
set_option maxRecDepth 100000 in
theorem walk_any {w : World} {g : Nat} {l : List Row} (h : TabR w g l) (hl : LOk l) (f u : ByteArray) (down : Bool) : Calls Try.prog 49 #[.pointer (some ⟨g, 0, none⟩), .agg #[.string f, .string u], .bool down] w fun e w' => ∃ lb, e = .returned (.func (.func 68) #[] lb) ∧ IterR w' lb down l ((below f l).length : Int) (upTo l u) ∧ Below w.heap.size w w' := by
  have B0 := Lib.hid (below_alloc (Below.refl w.heap.size w) (.cells #[.string f, .string u] 39))
  have P0 := Lib.hid (blk_new w (.cells #[.string f, .string u] 39))
  have B1 := Lib.hid (below_alloc B0.out (bx (.bool down) tB))
  have P1 := Lib.hid (blk_below P0.out (below_alloc (Below.refl _ _) (bx (.bool down) tB)))
  have D1 := Lib.hid (blk_new (w.alloc (.cells #[.string f, .string u] 39)) (bx (.bool down) tB))
  have H1 := Lib.hid (h.below B1.out)
  clear h B0 P0
  go_enter Try.func49, Try.ntmps49
  go_wp2_with fail
  have hz := World.size_alloc w (.cells #[.string f, .string u] 39)
  rw [hz] at D1
  clear hz
  generalize (World.alloc (World.alloc w _) _) = W1 at *
  obtain ⟨t, root, h1, h2, h3, h4⟩ := H1.out
  have HB := Lib.hid h1
  have HT := Lib.hid h2
  have HWF := Lib.hid (And.intro h3 h4)
  clear h1 h2 h3 h4
  refine (tree_any HB.out).mono ?_
  rintro e w1 ⟨rfl, rfl⟩
  have BO := Lib.hid (below_alloc (Below.refl W1.heap.size W1) (bx (.pointer root) tPN))
  have R2 := Lib.hid (blk_new W1 (bx (.pointer root) tPN))
  have P2 := Lib.hid (blk_below P1.out BO.out)
  have D2 := Lib.hid (blk_below D1.out BO.out)
  have H2 := Lib.hid (H1.out.below BO.out)
  have T2 := Lib.hid (HT.out.below BO.out)
  have B2 := Lib.hid (below_then B1.out B1.out.size BO.out)
  clear B1 P1 D1 H1 HB HT BO
  have cp := blkc P2.out
  go_wp2_with fail
  clear cp
  generalize (World.alloc W1 _) = W2 at *
  generalize W1.heap.size = br at *
  refine (places_any H2.out hl f u).mono ?_
  rintro e W3 ⟨rfl, hb3⟩
  have R3 := Lib.hid (blk_below R2.out hb3)
  have D3 := Lib.hid (blk_below D2.out hb3)
  have T3 := Lib.hid (T2.out.below hb3)
  have B3 := Lib.hid (below_then B2.out B2.out.size hb3)
  clear R2 D2 T2 B2 H2 P2 hb3
  have BA := Lib.hid (below_alloc (Below.refl W3.heap.size W3) (bx (.int .i64 ((below f l).length : Int)) tI))
  have BB := Lib.hid (below_alloc (Below.refl (W3.alloc (bx (.int .i64 ((below f l).length : Int)) tI)).heap.size (W3.alloc (bx (.int .i64 ((below f l).length : Int)) tI))) (bx (.int .i64 (upTo l u)) tI))
  have A4 := Lib.hid (blk_below (blk_new W3 (bx (.int .i64 ((below f l).length : Int)) tI)) BB.out)
  have b4 := blk_new (W3.alloc (bx (.int .i64 ((below f l).length : Int)) tI)) (bx (.int .i64 (upTo l u)) tI)
  rw [World.size_alloc] at b4
  have BB4 := Lib.hid b4
  clear b4
  have BZ := Lib.hid (below_then BA.out BA.out.size BB.out)
  go_wp2
  go_ret
  exact ⟨_, rfl, ⟨_, _, _, _, root, t, rfl, blk_below R3.out BZ.out, A4.out, BB4.out, blk_below D3.out BZ.out, T3.out.below BZ.out, HWF.out⟩, below_then B3.out B3.out.size BZ.out⟩
set_option maxHeartbeats 800000 in
theorem rows_any {w : World} {g : Nat} {l : List Row} (h : TabR w g l) (hl : LOk l) (f u : ByteArray) : Calls Try.prog 25 #[.pointer (some ⟨g, 0, none⟩), .agg #[.string f, .string u]] w fun e w' => ∃ lb, e = .returned (.func (.func 68) #[] lb) ∧ IterR w' lb false l ((below f l).length : Int) (upTo l u) ∧ Below w.heap.size w w' := by
  have B0 := Lib.hid (below_alloc (Below.refl w.heap.size w) (.cells #[.string f, .string u] 39))
  have cp := blkc (blk_new w (.cells #[.string f, .string u] 39))
  have H := Lib.hid (h.below B0.out)
  clear h
  go_enter Try.func25, Try.ntmps25
  go_wp2_with fail
  refine (walk_any H.out hl f u false).mono ?_
  rintro e w1 ⟨lb, rfl, hi, hb⟩
  have HI := Lib.hid hi
  have HB := Lib.hid (below_then B0.out B0.out.size hb)
  clear hi hb
  go_wp2
  go_ret
  exact ⟨lb, rfl, HI.out, HB.out⟩
set_option maxHeartbeats 800000 in
theorem down_any {w : World} {g : Nat} {l : List Row} (h : TabR w g l) (hl : LOk l) (f u : ByteArray) : Calls Try.prog 26 #[.pointer (some ⟨g, 0, none⟩), .agg #[.string f, .string u]] w fun e w' => ∃ lb, e = .returned (.func (.func 68) #[] lb) ∧ IterR w' lb true l ((below f l).length : Int) (upTo l u) ∧ Below w.heap.size w w' := by
  have B0 := Lib.hid (below_alloc (Below.refl w.heap.size w) (.cells #[.string f, .string u] 39))
  have cp := blkc (blk_new w (.cells #[.string f, .string u] 39))
  have H := Lib.hid (h.below B0.out)
  clear h
  go_enter Try.func26, Try.ntmps26
  go_wp2_with fail
  refine (walk_any H.out hl f u true).mono ?_
  rintro e w1 ⟨lb, rfl, hi, hb⟩
  have HI := Lib.hid hi
  have HB := Lib.hid (below_then B0.out B0.out.size hb)
  clear hi hb
  go_wp2
  go_ret
  exact ⟨lb, rfl, HI.out, HB.out⟩
theorem Abide.of {B : Nat} {J : List Row → World → Prop} (h : AbidesFrom B J) : Abide J := fun s A W hs hb => h s A W none hs (grown_of_below hb none) (fun r e => by cases e)
set_option maxHeartbeats 800000 in
theorem walk1_any {l b0 N : Nat} {J Jx : List Row → World → Prop} (hY : Rounds l b0 N J Jx) (hA : Abide J) {W : World} {lb : Array Value} {down : Bool} {L : List Row} {a b : Int} (hI : IterR W lb down L a b) (hlen : L.length ≤ 1099511627776) (hJ : J [] W) (hb0 : b0 ≤ W.heap.size) (ha0 : 0 ≤ a) (ha1 : a ≤ 1152921504606846976) (hb1 : -1152921504606846976 ≤ b) (hb2 : b ≤ 1152921504606846976) (hN : (segD down L a b).length ≤ N) :
    Calls Try.prog 68 (#[.func (.yield l) #[] #[]] ++ lb) W fun e W' => (∃ v, e = .returned v) ∧ ((∃ xs, xs = segD down L a b ∧ J xs W') ∨ (∃ pre, pre <+: segD down L a b ∧ Jx pre W')) := by
  obtain ⟨b1, b2, b3, b4, root, t, rfl, h1, h2, h3, h4, h5, h6, rfl⟩ := hI
  have HC := Lib.hid (each_any hY hA down t h6 hlen a b root [] W h5 hJ hb0 ha0 ha1 hb1 hb2 (by simpa using hN))
  have c1 := blk1 h1
  have c2 := blk1 h2
  have c3 := blk1 h3
  have c4 := blk1 h4
  clear hY hA hJ h1 h2 h3 h4 h5 hN
  show Calls Try.prog 68 #[.func (.yield l) #[] #[], .pointer (some ⟨b1, 0, none⟩), .pointer (some ⟨b2, 0, none⟩), .pointer (some ⟨b3, 0, none⟩), .pointer (some ⟨b4, 0, none⟩)] W _
  go_enter Try.func68, Try.ntmps68
  go_wp2_with fail
  refine HC.out.mono ?_
  rintro e w1 ⟨bb, rfl, HE⟩
  have HE := Lib.hid HE
  go_wp2
  go_end0
  rcases HE.out with ⟨_, hj, _⟩ | ⟨_, q, hq, hx⟩
  · exact ⟨⟨_, rfl⟩, .inl ⟨_, rfl, by simpa using hj⟩⟩
  · exact ⟨⟨_, rfl⟩, .inr ⟨q, hq, by simpa using hx⟩⟩
/-- The iterator's contract, for whoever goes over it. -/
theorem walk1_stops {n b0 : Nat} {w : World} {lb : Array Value} {down : Bool} {L : List Row} {a b : Int} (hI : IterR w lb down L a b) (hlen : L.length ≤ 1099511627776) (hb0 : b0 ≤ w.heap.size) (ha0 : 0 ≤ a) (ha1 : a ≤ 1152921504606846976) (hb1 : -1152921504606846976 ≤ b) (hb2 : b ≤ 1152921504606846976) :
    SeqStopsK Fence.wide n Try.prog 68 lb (fun r : Row => #[r.val]) (KeepI b0) (fun xs => xs = segD down L a b) (fun pre => pre <+: segD down L a b) (segD down L a b).length w := by
  intro l J Jx W hW hJ hJx hY h0
  refine callsIn_wide.2 ?_
  exact walk1_any (N := (segD down L a b).length) (fun m pre x W1 hj hlt => YieldAt.anyDepth m (hY pre x W1 hj hlt)) (Abide.of hJ) (hI.below hW) hlen h0 (Nat.le_trans hb0 hW.size) ha0 ha1 hb1 hb2 (Nat.le_refl _)
end Go.Proofs.Ytjpalkggmefpfaa.Tab
