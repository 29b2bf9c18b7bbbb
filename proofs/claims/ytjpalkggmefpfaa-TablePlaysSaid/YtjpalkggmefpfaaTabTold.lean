/- told: what an iterator over rows tells, up to so many. -/
import Derived.Test.YtjpalkggmefpfaaTabIter
import Derived.Test.YtjpalkggmefpfaaTabKinds
import Derived.Maps.AppendAt
import Derived.LoopIn
set_option linter.unusedVariables false
set_option linter.unusedSimpArgs false
namespace Go.Proofs.Ytjpalkggmefpfaa.Tab
open Go.RowKit Go.Proofs.Ytjpalkggmefpfaa.Mem Go.Proofs.YtjpalkggmefpfaaW.PrintWords Go.Proofs.YtjpalkggmefpfaaW.PrintLast Go.Deep Go.Proofs.Ytjpalkggmefpfaa.Opn
attribute [local go_sem] Oper.semAt_some
abbrev tRows : TypeId := 29
theorem infoRow : (Try.prog.info? 25).map (fun i => (i.zero, i.size, i.bytes)) = some (some (.agg #[.string ⟨#[]⟩, .string ⟨#[]⟩, .int .i64 0]), 3, 40) := by kernel_rfl
theorem boxes3 (W : World) (o0 o1 o2 : Obj) {W3 : World} (e : W3 = ((W.alloc o0).alloc o1).alloc o2) :
    W3.heap[W.heap.size]? = some o0 ∧ W3.heap[W.heap.size + 1]? = some o1 ∧ W3.heap[W.heap.size + 2]? = some o2 ∧ Below W.heap.size W W3 ∧ W3.heap.size = W.heap.size + 3 := by
  subst e
  have s0 := blk_new W o0
  have s1 := blk_new (W.alloc o0) o1
  have s2 := blk_new ((W.alloc o0).alloc o1) o2
  have k (X : World) (o : Obj) : Below X.heap.size X (X.alloc o) := below_alloc (Below.refl _ _) o
  refine ⟨blk_below (blk_below s0 (k _ o1)) (k _ o2), ?_, ?_, below_alloc (below_alloc (below_alloc (Below.refl _ _) o0) o1) o2, by simp⟩
  · have := blk_below s1 (k _ o2)
    simpa using this
  · simpa using s2
def rowsC (l : List Row) : List Value := l.flatMap Row.cells
theorem rowsC_snoc (l : List Row) (r : Row) : rowsC (l ++ [r]) = rowsC l ++ r.cells := by simp [rowsC]
/-- The first so many. -/
def firstN (l : List Row) (most : Int) : List Row := if 0 ≤ most ∧ most < l.length then l.take most.toNat else l
theorem seq_nil (u : World) (f : Fn) (lb : Array Value) : (binOp .eql 52 (.func f #[] lb) .nilFunc).run Try.prog u = .ok (.bool false) u := by
  have h : ∀ d, (Op.equalIn (d + 1) 52 (.func f #[] lb) .nilFunc).run Try.prog u = .ok false u := fun d => by
    simp [Op.equalIn, run_underlying Try.underlying52]
  have h2 : (Op.equal 52 (.func f #[] lb) .nilFunc).run Try.prog u = .ok false u := h 9999
  simp only [binOp]
  simp [h2]
theorem news3 (W : World) (x : Row) : ∀ (j : Nat) (u : Value), x.cells[j]? = some u → (W.alloc (.cells #[.string x.key, .string x.value, .int .i64 x.version] tRow)).cell? ((⟨W.heap.size, 0, none⟩ : Addr).add j) = some u := by
  intro j u hj
  rw [add_plain, blkc (blk_new W (.cells #[.string x.key, .string x.value, .int .i64 x.version] tRow)) j]
  unfold Row.cells at hj
  rw [← hj]
  simp
theorem block_own {β : Type} (B k : Nat) (o : β → Obj) (ho : ∀ s, (o s).isCells = true) : OwnFrom B (fun s W => W.heap[k]? = some (o s)) := fun s X Y row hs hg hr => by
  refine (hg.block k (blk_lt hs) (fun e => ?_)).trans hs
  obtain ⟨_, o', h1, h2⟩ := hr k e.symm
  rw [hs] at h1
  cases h1
  rw [ho s] at h2
  cases h2
/-- What lies in the list that is told. -/
def ToldI (n0 bl bm : Nat) (most : Int) (w : World) (pre : List Row) (W : World) : Prop :=
  (∃ v, Boxed W bl tRows v ∧ W.ownsRow n0 tRow 3 v pre.length (rowsC pre) ∧ (0 ≤ most → (pre.length : Int) ≤ most)) ∧ W.heap[bm]? = some (bx (.int .i64 most) tI) ∧ Below n0 w W
theorem toldI_own (n0 bl bm : Nat) (most : Int) (w : World) (B : Nat) (h1 : n0 ≤ w.heap.size) (h2 : n0 ≤ B) : OwnFrom B (ToldI n0 bl bm most w) :=
  OwnFrom.and (Own.from (holdsRow_own n0 bl tRows tRow 3 (fun pre : List Row => pre.length) rowsC (fun pre _ => 0 ≤ most → (pre.length : Int) ≤ most)) _) (OwnFrom.and (block_own B bm (fun _ => bx (.int .i64 most) tI) (fun _ => rfl)) (ownFrom_below h1 h2))
def ToldX (n0 bl bm : Nat) (most : Int) (w : World) (c : Code) (pre : List Row) (W : World) : Prop := c = .exit 0 ∧ ∃ pre0 x, pre = pre0 ++ [x] ∧ (pre0.length : Int) = most ∧ ToldI n0 bl bm most w pre0 W
theorem toldX_own (n0 bl bm : Nat) (most : Int) (w : World) (B : Nat) (h1 : n0 ≤ w.heap.size) (h2 : n0 ≤ B) (c : Code) : OwnFrom B (ToldX n0 bl bm most w c) := by
  rintro s X Y row ⟨rfl, pre0, x, e, hm, hi⟩ hg hr
  exact ⟨rfl, pre0, x, e, hm, toldI_own n0 bl bm most w B h1 h2 pre0 X Y row hi hg hr⟩
theorem ToldI.below {n0 bl bm : Nat} {most : Int} {w : World} {pre : List Row} {A B : World} (h : ToldI n0 bl bm most w pre A) (hb : Below A.heap.size A B) (hn : n0 ≤ A.heap.size) : ToldI n0 bl bm most w pre B := by
  obtain ⟨⟨v, hv, hr, hm⟩, hb1, hb2⟩ := h
  exact ⟨⟨v, blk_below hv hb, pw_own_below hr hb, hm⟩, blk_below hb1 hb, hb2.trans (hb.mono hn)⟩
theorem firstN_all {l : List Row} {most : Int} (h : 0 ≤ most → (l.length : Int) ≤ most) : firstN l most = l := by
  unfold firstN
  rw [if_neg (by omega)]
theorem firstN_part {l pre : List Row} {x : Row} {most : Int} (h : (pre.length : Int) = most) (hp : pre ++ [x] <+: l) : firstN l most = pre := by
  obtain ⟨r, rfl⟩ := hp
  unfold firstN
  rw [if_pos (by simp; omega), show most.toNat = pre.length by omega]
  simp
theorem blk_appended {bl k k2 n0 : Nat} {W w1 : World} {v v' : Value} {xs : List Value} {tmp : Obj} {cs : Array Value} {t : TypeId} (hv : Boxed W bl tRows v) (hrow : W.ownsRow n0 tRow 3 v k2 xs) (hgrow : (W.alloc tmp).grownBy w1 v.ownBlock) (hk : W.heap[k]? = some (.cells cs t (0, 0))) (h1 : t ≠ tRow) (h2 : t ≠ tRows) : (w1.setCell ⟨bl, 0, none⟩ v').heap[k]? = some (.cells cs t (0, 0)) := by
  have hne : some k ≠ v.ownBlock := own_ne hrow hk (Ne.symm h1)
  have h3 : k ≠ bl := blk_ne hk hv h2
  exact blk_far (p := ⟨bl, 0, none⟩) (blk_grown (blk_below hk (below_alloc (Below.refl _ _) tmp)) hgrow hne) h3 v'
theorem keepI_appended {b0 bl k2 n0 : Nat} {W w1 : World} {v v' : Value} {xs : List Value} {tmp : Obj} (hv : Boxed W bl tRows v) (hrow : W.ownsRow n0 tRow 3 v k2 xs) (hgrow : (W.alloc tmp).grownBy w1 v.ownBlock) : KeepI b0 W (w1.setCell ⟨bl, 0, none⟩ v') :=
  ⟨by have := hgrow.size; simp at this ⊢; omega, fun k cs t hk ht => by
    have h12 : t ≠ tRow ∧ t ≠ tRows := by rcases ht with rfl | ⟨_, rfl | rfl | rfl | rfl⟩ <;> decide
    exact blk_appended hv hrow hgrow hk h12.1 h12.2⟩
set_option maxRecDepth 100000 in
set_option maxHeartbeats 4000000 in
theorem told_up {w : World} {g : Nat} {l : List Row} (h : TabR w g l) (hl : LOk l) (f u : ByteArray) (most : Int) :
    Calls Try.prog 18 #[.pointer (some ⟨g, 0, none⟩), .bool false, .agg #[.string f, .string u], .int .i64 most] w fun e w' => ∃ v, e = .returned v ∧ w'.ownsRow w.heap.size tRow 3 v (firstN (segD false l (below f l).length (upTo l u)) most).length (rowsC (firstN (segD false l (below f l).length (upTo l u)) most)) ∧ Below w.heap.size w w' := by
  obtain ⟨i0, hi, hz0, hz1, hz2⟩ := info_parts infoRow
  have hlen := hl.len
  have hbl : (below f l).length ≤ l.length := List.length_filter_le ..
  have hup : 0 ≤ upTo l u ∧ upTo l u ≤ l.length := by
    unfold upTo
    have : (below u l).length ≤ l.length := List.length_filter_le ..
    split <;> omega
  have hsl : (segD false l (below f l).length (upTo l u)).length ≤ l.length := by
    have : (seg l (below f l).length (upTo l u)).length ≤ l.length := by unfold seg; rw [List.length_drop, List.length_take]; omega
    unfold segD
    simpa using this
  have HLN := Lib.hid (And.intro hlen (And.intro hbl (And.intro hup hsl)))
  clear hlen hbl hup hsl
  refine (callsIn_wide (n := 5)).1 ?_
  refine callsIn_of_wp_marks Try.func18 rfl trivial ?_ rfl
  simp only [Try.ntmps18, List.size_toArray, List.length_cons, List.length_nil, Nat.reduceAdd, Nat.reduceSub, Array.replicate_succ, Array.replicate_zero, List.push_toArray, List.append_toArray, List.nil_append, List.cons_append]
  have hb5 := boxes3 w (.cells #[.string f, .string u] 39) (bx (.int .i64 most) tI) (bx (.slice none 0 0) tRows) rfl
  gi_wp2_with fail
  obtain ⟨x0, x1, x2, B0, hs0⟩ := hb5
  have X0 := Lib.hid x0
  have X1 := Lib.hid x1
  have X2 := Lib.hid x2
  have BB := Lib.hid B0
  have H0 := Lib.hid (h.below B0)
  clear x0 x1 x2 B0 h
  have cx := blkc X0.out
  generalize (World.alloc _ _) = W0 at *
  refine ⟨trivial, callsIn_wide.2 ?_⟩
  refine (rows_any H0.out hl f u).mono ?_
  rintro e W1 ⟨lb, rfl, hi1, hb1⟩
  have B1 := Lib.hid (below_then BB.out BB.out.size hb1)
  have HI := Lib.hid hi1
  have Y1 := Lib.hid (blk_below X1.out hb1)
  have Y2 := Lib.hid (blk_below X2.out hb1)
  clear hi1 hb1 cx
  have hq := fun u => seq_nil u (.func 68) lb
  gi_wp2_with fail
  clear hq
  have hn0 : w.heap.size ≤ W1.heap.size := B1.out.size
  have H00 : Hid (ToldI w.heap.size (w.heap.size + 1 + 1) (w.heap.size + 1) most w [] W1) := Lib.hid ⟨⟨_, Y2.out, World.ownsRow_nil _ _ _ _, fun h => h⟩, Y1.out, B1.out⟩
  refine wpIn_rangeFunc_ownH rfl (by omega) (gf := 68) (lb := lb) rfl trivial (enters_of Try.func68 (by kernel_rfl) rfl)
    (walk1_stops (b0 := W1.heap.size) HI.out (by have := HLN.out; omega) (Nat.le_refl _) (by omega) (by have := HLN.out; omega) (by have := HLN.out; omega) (by have := HLN.out; omega))
    (fun h k => KeepI.trans h k) (fun W k o o' _ h hc _ => KeepI.putObj W k o o' h hc) (Below.refl _ _) (fun _ => rfl)
    (ToldI w.heap.size (w.heap.size + 1 + 1) (w.heap.size + 1) most w) (ToldX w.heap.size (w.heap.size + 1 + 1) (w.heap.size + 1) most w)
    (toldI_own _ _ _ _ _ _ (Nat.le_refl _) hn0) (fun c => toldX_own _ _ _ _ _ _ (Nat.le_refl _) hn0 c) H00.out
    (fun x a' W => ∃ Bx, W.heap[Bx]? = some (.cells #[.string x.key, .string x.value, .int .i64 x.version] tRow (0, 0)) ∧ a' = { tmps := #[.pointer (some ⟨g, 0, none⟩), .bool false, .agg #[.string f, .string u], .int .i64 most, undef, undef, .pointer (some ⟨w.heap.size, 0, none⟩), .pointer (some ⟨w.heap.size + 1, 0, none⟩), .slice none 0 0, .pointer (some ⟨w.heap.size + 1 + 1, 0, none⟩), .func (.func 68) #[] lb, .pointer (some ⟨Bx, 0, none⟩), .pointer (some ⟨g, 0, none⟩), .agg #[.string f, .string u], .func (.func 68) #[] lb, .bool false, undef, undef, undef, .func (.func 68) #[] lb, .bool false, .func (.func 68) #[] lb, x.val, undef, undef, undef, undef, undef, undef, undef, undef, undef], defers := [] })
    (fun x a' => fun s X Y row hs hg hr => by obtain ⟨Bx, h1, h2⟩ := hs; exact ⟨Bx, block_own W1.heap.size Bx (fun _ : Unit => .cells #[.string x.key, .string x.value, .int .i64 x.version] tRow (0, 0)) (fun _ => rfl) () X Y row h1 hg hr, h2⟩) ?assign ?body ?done ?stop
  case assign =>
    intro lp pre x W K hI hK
    have hw : w.heap.size ≤ W.heap.size := hI.2.2.size
    have HB := below_alloc (Below.refl W.heap.size W) (.cells #[.string x.key, .string x.value, .int .i64 x.version] tRow)
    have HK := Lib.hid (hK _ _ ((KeepsOthers.alloc _ _).from _) (KeepI.of_below HB) (hI.below HB hw) ⟨W.heap.size, blk_new W (.cells #[.string x.key, .string x.value, .int .i64 x.version] tRow), rfl⟩)
    clear hK hI HB
    gi_wp2
    exact HK.out
  case body =>
    rintro lp pre x a' W hlp ⟨r, hr⟩ ⟨⟨v, hv, hrow, hm⟩, hbm, hbw⟩ ⟨Bx, hbx, rfl⟩ hlt
    have HM := Lib.hid hm
    have HBM := Lib.hid hbm
    have HBW := Lib.hid hbw
    have HBX := Lib.hid hbx
    have HROW := Lib.hid hrow
    have HV := Lib.hid hv
    obtain ⟨A, c, rfl⟩ := own_slice hrow
    have hpl : pre.length ≤ 1048576 := by have := HLN.out; omega
    have cv := hv.cell
    have cm := blk1 hbm
    have cx := blkc hbx
    have hsz := HBW.out.size
    clear hr hm hbm hbw hbx hrow hv hlt
    have HPL := Lib.hid hpl
    clear hpl
    by_cases he : (pre.length : Int) = most
    · have d1 : ((pre.length : Int) == most) = true := by simpa using he
      have HE := Lib.hid he
      clear he
      gi_wp2
      exact ⟨KeepsFrom.refl _ _, rfl, pre, x, rfl, HE.out, ⟨_, HV.out, HROW.out, HM.out⟩, HBM.out, HBW.out⟩
    · have d1 : ((pre.length : Int) == most) = false := by simpa using he
      have HE := Lib.hid he
      clear he
      gi_wp2_with (gi_at_builtin; refine wpListIn_append_own _ rfl _ _ tRows rfl w.heap.size tRow i0 (.agg #[.string ⟨#[]⟩, .string ⟨#[]⟩, .int .i64 0]) 3 40 Try.underlying29 hi hz0 hz1 hz2 rfl (by decide) _ _ _ rfl (HROW.out.alloc _) ⟨W.heap.size, 0, none⟩ 1 1 x.cells rfl rfl (news3 W x) (by simp [Row.cells, Value.oneCell']) (by have := HPL.out; unfold maxLen; omega) (by have := HPL.out; omega) (by simp; omega) ?_; intro v' w1 hown' hgrow _; obtain ⟨g', cap', rfl⟩ := ownsRow_succ hown'; obtain ⟨hv1, hv2, hr2, hk2, hb2⟩ := HV.out.appended (show tRows ≠ tRow by decide) HROW.out hsz (show w.heap.size ≤ w.heap.size + 1 + 1 by omega) hown' hgrow; have hc1 := hv1.cell; have hf1 := hv1.frozen)
      have HC := blk_appended HV.out HROW.out hgrow HBM.out (show tI ≠ tRow by decide) (show tI ≠ tRows by decide) (v' := .slice (some ⟨g', 0, none⟩) (pre.length + 1) cap')
      exact ⟨hk2.from _, keepI_appended HV.out HROW.out hgrow, ⟨_, hv2, by rw [rowsC_snoc, List.length_append]; exact hr2, by have := HM.out; have := HE.out; simp; omega⟩, HC, HBW.out.trans hb2⟩
  case done =>
    rintro D ys W hD rfl ⟨⟨v, hv, hrow, hm⟩, hbm, hbw⟩ hK
    have hc := hv.cell
    gi_wp2
    refine ⟨by simp, .inl ⟨_, _, rfl, run_takeDeferred hK, ?_⟩⟩
    exact ⟨_, results_tmp rfl _ _ _, v, rfl, by rw [firstN_all hm]; exact ownsRow_putObj hrow _ hK rfl, hbw.trans (belowK_b (w := w) (Nat.le_refl _) W D _ _ (by omega) hK rfl rfl)⟩
  case stop =>
    rintro D c pre W hD hp ⟨rfl, pre0, x, rfl, hm0, ⟨v, hv, hrow, hm⟩, hbm, hbw⟩ hK
    have hc := hv.cell
    gi_wp2
    refine ⟨by simp, .inl ⟨_, _, rfl, run_takeDeferred hK, ?_⟩⟩
    exact ⟨_, results_tmp rfl _ _ _, v, rfl, by rw [firstN_part hm0 hp]; exact ownsRow_putObj hrow _ hK rfl, hbw.trans (belowK_b (w := w) (Nat.le_refl _) W D _ _ (by omega) hK rfl rfl)⟩
set_option maxRecDepth 100000 in
set_option maxHeartbeats 4000000 in
theorem told_down {w : World} {g : Nat} {l : List Row} (h : TabR w g l) (hl : LOk l) (f u : ByteArray) (most : Int) :
    Calls Try.prog 18 #[.pointer (some ⟨g, 0, none⟩), .bool true, .agg #[.string f, .string u], .int .i64 most] w fun e w' => ∃ v, e = .returned v ∧ w'.ownsRow w.heap.size tRow 3 v (firstN (segD true l (below f l).length (upTo l u)) most).length (rowsC (firstN (segD true l (below f l).length (upTo l u)) most)) ∧ Below w.heap.size w w' := by
  obtain ⟨i0, hi, hz0, hz1, hz2⟩ := info_parts infoRow
  have hlen := hl.len
  have hbl : (below f l).length ≤ l.length := List.length_filter_le ..
  have hup : 0 ≤ upTo l u ∧ upTo l u ≤ l.length := by
    unfold upTo
    have : (below u l).length ≤ l.length := List.length_filter_le ..
    split <;> omega
  have hsl : (segD true l (below f l).length (upTo l u)).length ≤ l.length := by
    have : (seg l (below f l).length (upTo l u)).length ≤ l.length := by unfold seg; rw [List.length_drop, List.length_take]; omega
    unfold segD
    simpa using this
  have HLN := Lib.hid (And.intro hlen (And.intro hbl (And.intro hup hsl)))
  clear hlen hbl hup hsl
  refine (callsIn_wide (n := 5)).1 ?_
  refine callsIn_of_wp_marks Try.func18 rfl trivial ?_ rfl
  simp only [Try.ntmps18, List.size_toArray, List.length_cons, List.length_nil, Nat.reduceAdd, Nat.reduceSub, Array.replicate_succ, Array.replicate_zero, List.push_toArray, List.append_toArray, List.nil_append, List.cons_append]
  have hb5 := boxes3 w (.cells #[.string f, .string u] 39) (bx (.int .i64 most) tI) (bx (.slice none 0 0) tRows) rfl
  gi_wp2_with fail
  obtain ⟨x0, x1, x2, B0, hs0⟩ := hb5
  have X0 := Lib.hid x0
  have X1 := Lib.hid x1
  have X2 := Lib.hid x2
  have BB := Lib.hid B0
  have H0 := Lib.hid (h.below B0)
  clear x0 x1 x2 B0 h
  have cx := blkc X0.out
  generalize (World.alloc _ _) = W0 at *
  refine ⟨trivial, callsIn_wide.2 ?_⟩
  refine (rows_any H0.out hl f u).mono ?_
  rintro e W1 ⟨lb0, rfl, hi1, hb1⟩
  have B1 := Lib.hid (below_then BB.out BB.out.size hb1)
  have H1 := Lib.hid (H0.out.below hb1)
  have cx1 := blkc (blk_below X0.out hb1)
  have X1 := Lib.hid (blk_below X1.out hb1)
  have X2 := Lib.hid (blk_below X2.out hb1)
  clear hi1 hb1 cx
  gi_wp2_with fail
  refine ⟨trivial, callsIn_wide.2 ?_⟩
  refine (down_any H1.out hl f u).mono ?_
  rintro e W1 ⟨lb, rfl, hi1, hb1⟩
  have B1 := Lib.hid (below_then B1.out B1.out.size hb1)
  have HI := Lib.hid hi1
  have Y1 := Lib.hid (blk_below X1.out hb1)
  have Y2 := Lib.hid (blk_below X2.out hb1)
  clear hi1 hb1 cx1
  have hq := fun u => seq_nil u (.func 68) lb
  gi_wp2_with fail
  clear hq
  have hn0 : w.heap.size ≤ W1.heap.size := B1.out.size
  have H00 : Hid (ToldI w.heap.size (w.heap.size + 1 + 1) (w.heap.size + 1) most w [] W1) := Lib.hid ⟨⟨_, Y2.out, World.ownsRow_nil _ _ _ _, fun h => h⟩, Y1.out, B1.out⟩
  refine wpIn_rangeFunc_ownH rfl (by omega) (gf := 68) (lb := lb) rfl trivial (enters_of Try.func68 (by kernel_rfl) rfl)
    (walk1_stops (b0 := W1.heap.size) HI.out (by have := HLN.out; omega) (Nat.le_refl _) (by omega) (by have := HLN.out; omega) (by have := HLN.out; omega) (by have := HLN.out; omega))
    (fun h k => KeepI.trans h k) (fun W k o o' _ h hc _ => KeepI.putObj W k o o' h hc) (Below.refl _ _) (fun _ => rfl)
    (ToldI w.heap.size (w.heap.size + 1 + 1) (w.heap.size + 1) most w) (ToldX w.heap.size (w.heap.size + 1 + 1) (w.heap.size + 1) most w)
    (toldI_own _ _ _ _ _ _ (Nat.le_refl _) hn0) (fun c => toldX_own _ _ _ _ _ _ (Nat.le_refl _) hn0 c) H00.out
    (fun x a' W => ∃ Bx, W.heap[Bx]? = some (.cells #[.string x.key, .string x.value, .int .i64 x.version] tRow (0, 0)) ∧ a' = { tmps := #[.pointer (some ⟨g, 0, none⟩), .bool true, .agg #[.string f, .string u], .int .i64 most, undef, undef, .pointer (some ⟨w.heap.size, 0, none⟩), .pointer (some ⟨w.heap.size + 1, 0, none⟩), .slice none 0 0, .pointer (some ⟨w.heap.size + 1 + 1, 0, none⟩), .func (.func 68) #[] lb, .pointer (some ⟨Bx, 0, none⟩), .pointer (some ⟨g, 0, none⟩), .agg #[.string f, .string u], .func (.func 68) #[] lb0, .bool true, .pointer (some ⟨g, 0, none⟩), .agg #[.string f, .string u], .func (.func 68) #[] lb, .func (.func 68) #[] lb, .bool false, .func (.func 68) #[] lb, x.val, undef, undef, undef, undef, undef, undef, undef, undef, undef], defers := [] })
    (fun x a' => fun s X Y row hs hg hr => by obtain ⟨Bx, h1, h2⟩ := hs; exact ⟨Bx, block_own W1.heap.size Bx (fun _ : Unit => .cells #[.string x.key, .string x.value, .int .i64 x.version] tRow (0, 0)) (fun _ => rfl) () X Y row h1 hg hr, h2⟩) ?assign ?body ?done ?stop
  case assign =>
    intro lp pre x W K hI hK
    have hw : w.heap.size ≤ W.heap.size := hI.2.2.size
    have HB := below_alloc (Below.refl W.heap.size W) (.cells #[.string x.key, .string x.value, .int .i64 x.version] tRow)
    have HK := Lib.hid (hK _ _ ((KeepsOthers.alloc _ _).from _) (KeepI.of_below HB) (hI.below HB hw) ⟨W.heap.size, blk_new W (.cells #[.string x.key, .string x.value, .int .i64 x.version] tRow), rfl⟩)
    clear hK hI HB
    gi_wp2
    exact HK.out
  case body =>
    rintro lp pre x a' W hlp ⟨r, hr⟩ ⟨⟨v, hv, hrow, hm⟩, hbm, hbw⟩ ⟨Bx, hbx, rfl⟩ hlt
    have HM := Lib.hid hm
    have HBM := Lib.hid hbm
    have HBW := Lib.hid hbw
    have HBX := Lib.hid hbx
    have HROW := Lib.hid hrow
    have HV := Lib.hid hv
    obtain ⟨A, c, rfl⟩ := own_slice hrow
    have hpl : pre.length ≤ 1048576 := by have := HLN.out; omega
    have cv := hv.cell
    have cm := blk1 hbm
    have cx := blkc hbx
    have hsz := HBW.out.size
    clear hr hm hbm hbw hbx hrow hv hlt
    have HPL := Lib.hid hpl
    clear hpl
    by_cases he : (pre.length : Int) = most
    · have d1 : ((pre.length : Int) == most) = true := by simpa using he
      have HE := Lib.hid he
      clear he
      gi_wp2
      exact ⟨KeepsFrom.refl _ _, rfl, pre, x, rfl, HE.out, ⟨_, HV.out, HROW.out, HM.out⟩, HBM.out, HBW.out⟩
    · have d1 : ((pre.length : Int) == most) = false := by simpa using he
      have HE := Lib.hid he
      clear he
      gi_wp2_with (gi_at_builtin; refine wpListIn_append_own _ rfl _ _ tRows rfl w.heap.size tRow i0 (.agg #[.string ⟨#[]⟩, .string ⟨#[]⟩, .int .i64 0]) 3 40 Try.underlying29 hi hz0 hz1 hz2 rfl (by decide) _ _ _ rfl (HROW.out.alloc _) ⟨W.heap.size, 0, none⟩ 1 1 x.cells rfl rfl (news3 W x) (by simp [Row.cells, Value.oneCell']) (by have := HPL.out; unfold maxLen; omega) (by have := HPL.out; omega) (by simp; omega) ?_; intro v' w1 hown' hgrow _; obtain ⟨g', cap', rfl⟩ := ownsRow_succ hown'; obtain ⟨hv1, hv2, hr2, hk2, hb2⟩ := HV.out.appended (show tRows ≠ tRow by decide) HROW.out hsz (show w.heap.size ≤ w.heap.size + 1 + 1 by omega) hown' hgrow; have hc1 := hv1.cell; have hf1 := hv1.frozen)
      have HC := blk_appended HV.out HROW.out hgrow HBM.out (show tI ≠ tRow by decide) (show tI ≠ tRows by decide) (v' := .slice (some ⟨g', 0, none⟩) (pre.length + 1) cap')
      exact ⟨hk2.from _, keepI_appended HV.out HROW.out hgrow, ⟨_, hv2, by rw [rowsC_snoc, List.length_append]; exact hr2, by have := HM.out; have := HE.out; simp; omega⟩, HC, HBW.out.trans hb2⟩
  case done =>
    rintro D ys W hD rfl ⟨⟨v, hv, hrow, hm⟩, hbm, hbw⟩ hK
    have hc := hv.cell
    gi_wp2
    refine ⟨by simp, .inl ⟨_, _, rfl, run_takeDeferred hK, ?_⟩⟩
    exact ⟨_, results_tmp rfl _ _ _, v, rfl, by rw [firstN_all hm]; exact ownsRow_putObj hrow _ hK rfl, hbw.trans (belowK_b (w := w) (Nat.le_refl _) W D _ _ (by omega) hK rfl rfl)⟩
  case stop =>
    rintro D c pre W hD hp ⟨rfl, pre0, x, rfl, hm0, ⟨v, hv, hrow, hm⟩, hbm, hbw⟩ hK
    have hc := hv.cell
    gi_wp2
    refine ⟨by simp, .inl ⟨_, _, rfl, run_takeDeferred hK, ?_⟩⟩
    exact ⟨_, results_tmp rfl _ _ _, v, rfl, by rw [firstN_part hm0 hp]; exact ownsRow_putObj hrow _ hK rfl, hbw.trans (belowK_b (w := w) (Nat.le_refl _) W D _ _ (by omega) hK rfl rfl)⟩
end Go.Proofs.Ytjpalkggmefpfaa.Tab
