/- Replace, walked. -/
import Derived.Test.YtjpalkggmefpfaaTabRepPlain
import Derived.Test.YtjpalkggmefpfaaTable
import Derived.RangeFuncCalls
set_option linter.unusedVariables false
set_option linter.unusedSimpArgs false
namespace Go.Proofs.Ytjpalkggmefpfaa.Tab
open Go.RowKit Go.Proofs.Ytjpalkggmefpfaa.Mem Go.Proofs.YtjpalkggmefpfaaW.PrintWords Go.Proofs.YtjpalkggmefpfaaW.PrintLast Go.Deep Go.Proofs.Ytjpalkggmefpfaa.Opn
attribute [local go_sem ↓] execOp_call_tmp
attribute [local go_sem] callVal_func
attribute [local go_sem] Oper.semAt_some
/-- A body's end that may have a mark of a range over a function to take in; no panic. -/
def postM (F : Fence) (n : Nat) (P : Program) (fn : Func) (R : Ending → World → Prop) : Exit → Act → World → Prop
  | .normal, a, w | .ret, a, w => LeavesInM F n P fn a.tmps R a.defers .returning w
  | _, _, _ => False
theorem postM_le {F : Fence} {n : Nat} {P : Program} {fn : Func} {R : Ending → World → Prop} : ∀ (e : Exit) (a : Act) (w : World), postM F n P fn R e a w → bodyPostM F n P fn R e a w
  | .normal, _, _, h => h
  | .ret, _, _, h => h
  | .panic _, _, _, h => h.elim
  | .outgrown, _, _, h => h.elim
  | .exit _, _, _, h => h.elim
  | .goto _, _, _, h => h.elim
theorem postM_ret {F : Fence} {n : Nat} {P : Program} {fn : Func} {R : Ending → World → Prop} {a : Act} {w : World} {v : Value} (hr : (results fn a.tmps).run P w = .ok v w) (hd : a.defers = []) (hR : R (.returned v) w) : postM F n P fn R .ret a w := by
  show LeavesInM F n P fn a.tmps R a.defers .returning w
  rw [hd]
  exact ⟨v, hr, hR⟩
theorem postM_ret1 {F : Fence} {n D : Nat} {P : Program} {fn : Func} {R : Ending → World → Prop} {a : Act} {w : World} {v : Value} {args : Array Value} (hk : w.heap[D]? = some (.deferred (some []))) (hr : (results fn a.tmps).run P (w.putObj D (.deferred none)) = .ok v (w.putObj D (.deferred none))) (hd : a.defers = [{ target := .collected D, args := args }]) (hR : R (.returned v) (w.putObj D (.deferred none))) : postM F n P fn R .ret a w := by
  show LeavesInM F n P fn a.tmps R a.defers .returning w
  rw [hd]
  exact ⟨by simp, .inl ⟨D, _, rfl, run_takeDeferred hk, ⟨v, hr, hR⟩⟩⟩
abbrev tPT : TypeId := 32
theorem is_tab {w : World} {g : Nat} {l : List Row} (h : TabR w g l) : Calls Try.prog 45 #[.pointer (some ⟨g, 0, none⟩)] w fun e w' => e = .returned (.bool true) ∧ w = w' := by
  obtain ⟨t, root, h1, _⟩ := h
  exact is_any h1
theorem tabR_own {β : Type} (B g : Nat) (ls : β → List Row) : OwnFrom B (fun s W => TabR W g (ls s)) := fun s X Y row h hg hr => by
  obtain ⟨t, root, h1, h2, h3⟩ := h
  exact ⟨t, root, block_own B g (fun _ : Unit => tabC root (size (ls s))) (fun _ => rfl) () X Y row h1 hg hr, TR.imp (fun k _ _ _ hk => block_own B k (fun _ : Unit => .cells _ tN (0, 0)) (fun _ => rfl) () X Y row hk hg hr) h2, h3⟩
theorem kept_own {β : Type} {w : World} {B : Nat} {S : Nat → Prop} (hB : w.heap.size ≤ B) : OwnFrom B (fun (_ : β) W => Kept w W S) := fun s X Y row h hg hr => Kept.of_grown hg h (fun k e => .inr (by have := (hr k e).1; omega))
def delAll (l s : List Row) : List Row := s.foldl (fun l r => without r.key l) l
theorem delAll_snoc (l s : List Row) (x : Row) : delAll l (s ++ [x]) = without x.key (delAll l s) := by simp [delAll]
def putAll (l s : List Row) : List Row := s.foldl (fun l r => (putL l r).2) l
theorem putAll_snoc (l s : List Row) (x : Row) : putAll l (s ++ [x]) = (putL (putAll l s) x).2 := by simp [putAll]
def RepI (w0 w : World) (g b3 : Nat) (l : List Row) (pre : List Row) (W : World) : Prop :=
  TabR W g (delAll l pre) ∧ W.heap[b3]? = some (.cells #[.pointer (some ⟨g, 0, none⟩)] tPT (0, 0)) ∧ Kept w W (fun k => k = g) ∧ Below w0.heap.size w0 W
theorem repI_own (w0 w : World) (g b3 : Nat) (l : List Row) (B : Nat) (h0 : w0.heap.size ≤ w.heap.size) (h1 : w.heap.size ≤ B) : OwnFrom B (RepI w0 w g b3 l) :=
  OwnFrom.and (tabR_own B g (delAll l)) (OwnFrom.and (block_own B b3 (fun _ => (.cells #[.pointer (some ⟨g, 0, none⟩)] tPT (0, 0))) (fun _ => rfl)) (OwnFrom.and (kept_own h1) (ownFrom_below (Nat.le_refl _) (Nat.le_trans h0 h1))))
theorem RepI.below {w0 w : World} {g b3 : Nat} {l pre : List Row} {A B : World} (h : RepI w0 w g b3 l pre A) (hb : Below A.heap.size A B) : RepI w0 w g b3 l pre B :=
  ⟨h.1.below hb, blk_below h.2.1 hb, h.2.2.1.below hb, below_then h.2.2.2 h.2.2.2.size hb⟩
/-- What a call on a table keeps. -/
theorem keepI_kept {b0 : Nat} {W W' : World} {g : Nat} {l : List Row} (h : Kept W W' (fun k => k = g)) (hT : TabR W g l) : KeepI b0 W W' := by
  obtain ⟨t, root, h1, _⟩ := hT
  refine ⟨h.1, fun k cs t hk ht => blk_kept hk h (fun e => ?_)⟩
  have e2 : k = g := e
  subst e2
  rw [h1] at hk
  cases hk
  rcases ht with h | ⟨_, h | h | h | h⟩ <;> exact absurd h (by decide)
theorem others_kept {W W' : World} {g : Nat} {l : List Row} (h : Kept W W' (fun k => k = g)) (hT : TabR W g l) : KeepsOthers W W' := by
  obtain ⟨t, root, h1, _⟩ := hT
  refine ⟨h.1, fun k o hk ho => (h.2 k (Array.getElem?_eq_some_iff.1 hk).1 (fun e => ?_)).trans hk⟩
  have e2 : k = g := e
  subst e2
  rw [h1] at hk
  cases hk
  cases ho
set_option pp.deepTerms true in
set_option pp.maxSteps 1000000 in
set_option maxHeartbeats 12800000 in
set_option maxRecDepth 100000 in
theorem trep_any {w w0 : World} {g : Nat} {l : List Row} (h : TabR w g l) (hl : LOk l) (hg : w0.heap.size ≤ g) (HB : Below w0.heap.size w0 w) (f u : ByteArray) {rows : List Row} {A : Option Addr} {c : Nat} (hbig : rows.length ≤ 3518437208782) (hC : ∀ W, Kept w W (fun k => k = g) → Below w0.heap.size w0 W → kR.C W A rows.length rows) :
    Calls Try.prog 53 #[.pointer (some ⟨g, 0, none⟩), .agg #[.string f, .string u], .slice A rows.length c] w fun e w' => e = .returned (.int .i64 (replL l f u rows).1) ∧ TabR w' g (replL l f u rows).2 ∧ Kept w w' (fun k => k = g) ∧ Below w0.heap.size w0 w' := by
  have bb := below_alloc (below_alloc (Below.refl w.heap.size w) (bx (.pointer (some ⟨g, 0, none⟩)) tPT)) (.cells #[.string f, .string u] 39)
  have X3 := Lib.hid (blk_below (blk_new w (bx (.pointer (some ⟨g, 0, none⟩)) tPT)) (below_alloc (Below.refl _ _) (.cells #[.string f, .string u] 39)))
  have X4 := Lib.hid (show ((w.alloc (bx (.pointer (some ⟨g, 0, none⟩)) tPT)).alloc (.cells #[.string f, .string u] 39)).heap[w.heap.size + 1]? = some (.cells #[.string f, .string u] 39 (0, 0)) from by have := blk_new (w.alloc (bx (.pointer (some ⟨g, 0, none⟩)) tPT)) (.cells #[.string f, .string u] 39); simpa using this)
  have T0 := Lib.hid (h.below bb)
  have K0 := Lib.hid (Kept.of_below bb (fun k => k = g))
  have B0 := Lib.hid (below_then HB HB.size bb)
  have HCC := Lib.hid hC
  have HLO := Lib.hid hl
  have HBIG := Lib.hid hbig
  have hm := (hC w (Kept.refl _ _) HB).2.1
  have hw0 := HB.size
  have h3g : w.heap.size ≠ g := by have := h.lt; omega
  clear bb h hl HB hC
  have cx := blk1 X3.out
  refine (callsIn_wide (n := 5)).1 ?_
  refine callsIn_of_wp_marks Try.func53 rfl trivial ?_ rfl
  refine wpIn_wide.2 ?_
  refine Code.wp_mono (fun e a w h => postM_le e a w h) ?_
  simp only [Try.ntmps53, List.size_toArray, List.length_cons, List.length_nil, Nat.reduceAdd, Nat.reduceSub, Array.replicate_succ, Array.replicate_zero, List.push_toArray, List.append_toArray, List.nil_append, List.cons_append]
  go_wp2_with fail
  clear cx
  generalize (World.alloc _ _) = W0 at *
  refine (is_tab T0.out).mono ?_
  rintro e w1 ⟨rfl, rfl⟩
  generalize hE : repScan f u none rows = E
  have HE := Lib.hid (show repAt f u rows 0 = E from hE)
  have HEE := Lib.hid hE
  clear hE
  go_wp2_with fail
  go_loopg [20] rows.length (fun kq v20 w' => ∃ (k : Nat), v20 = .int .i64 (k : Int) ∧ Hid (k + kq = rows.length) ∧ Hid (repAt f u rows k = E) ∧ Hid (Below W0.heap.size W0 w'))
  case atStart => exact ⟨0, rfl, (show _ + _ = _ by omega), HE, Lib.hid (Below.refl _ _)⟩
  case round =>
    clear HE
    obtain ⟨k, rfl, HK, HE, HB⟩ := hrel
    cases gk with
    | zero =>
      have hk : k = rows.length := HK.out
      have c2 : decide (k < rows.length) = false := by simp; omega
      have HZ := Lib.hid (show E = 0 by rw [← HE.out, rep_end (by omega)])
      clear hk
      have X3 := Lib.hid (blk_below X3.out HB.out)
      have X4 := Lib.hid (blk_below X4.out HB.out)
      have T0 := Lib.hid (T0.out.below HB.out)
      have K0 := Lib.hid (K0.out.below HB.out)
      have B0 := Lib.hid (below_then B0.out B0.out.size HB.out)
      have cx := blk1 X3.out
      have cy := blkc X4.out
      clear HB cx cy
      have hlen := HLO.out.len
      have hbl : (below f l).length ≤ l.length := List.length_filter_le ..
      have hup : 0 ≤ upTo l u ∧ upTo l u ≤ l.length := by
        unfold upTo
        have : (below u l).length ≤ l.length := List.length_filter_le ..
        split <;> omega
      have HCUT := Lib.hid (show replL l f u rows = if (l.length : Int) - (max (upTo l u) (below f l).length - (below f l).length) + rows.length > 1048576 then (3, l) else (0, putAll (delAll l (segD false l (below f l).length (upTo l u))) rows) by unfold replL; rw [HEE.out, HZ.out, if_neg (by simp)]; rfl)
      have cx := blk1 X3.out
      have cy := blkc X4.out
      go_wp2_with fail
      refine (places_any T0.out HLO.out f u).mono ?_
      rintro e w5 ⟨rfl, hb5⟩
      have X3 := Lib.hid (blk_below X3.out hb5)
      have X4 := Lib.hid (blk_below X4.out hb5)
      have T5 := Lib.hid (T0.out.below hb5)
      have K5 := Lib.hid (K0.out.below hb5)
      have B5 := Lib.hid (below_then B0.out B0.out.size hb5)
      clear hb5 T0 K0 B0 cx cy HEE HZ HK HE
      generalize hfr : (below f l).length = fr at *
      generalize hto : upTo l u = tt at *
      have HFT := Lib.hid (And.intro hfr hto)
      have cx := blk1 X3.out
      have cy := blkc X4.out
      have hfl : fr ≤ l.length := hbl
      clear hfr hto hbl
      have z0 : wrap64 0 = 0 := by rw [← i64_w]; exact IntWalk.i64_in _ (by omega)
      have HZ0 := Lib.hid z0
      by_cases hmx : tt < (fr : Int)
      · have q1 := eq_true hmx
        have hmax : max tt (fr : Int) = fr := by omega
        have ht : (l.length : Int) - (max tt (fr : Int) - fr) + rows.length = (l.length : Int) + rows.length := by omega
        rw [ht] at HCUT
        have f1 : wrap64 (l.length : Int) = (l.length : Int) := by rw [← i64_w]; exact IntWalk.i64_in _ (by omega)
        have f2 : wrap64 ((l.length : Int) + rows.length) = (l.length : Int) + rows.length := by rw [← i64_w]; exact IntWalk.i64_in _ (by omega)
        have hmx2 := Lib.hid hmx
        clear hmx hmax ht
        go_wp2_with fail
        refine (len_any T5.out).mono ?_
        rintro e w6 ⟨rfl, rfl⟩
        by_cases hbt : (l.length : Int) + rows.length > 1048576
        · have q3 := eq_true (show (1048576 : Int) < (l.length : Int) + rows.length by omega)
          have HCUT := Lib.hid (HCUT.out.trans (if_pos hbt))
          clear hbt
          go_wp2
          (try simp only [Exit.inBlock, Exit.then]); refine postM_ret (results_tmp rfl _ _ _) rfl ?_
          rw [HCUT.out]
          exact ⟨rfl, T5.out, K5.out, B5.out⟩
        · have q3 : ((1048576 : Int) < (l.length : Int) + rows.length) = False := _root_.eq_false (by omega)
          have HCUT := Lib.hid (HCUT.out.trans (if_neg hbt))
          clear hbt
          go_wp2_with fail
          refine (rows_any T5.out HLO.out f u).mono ?_
          rintro e W1 ⟨lb, rfl, hi1, hb1⟩
          rw [HFT.out.1, HFT.out.2] at hi1
          have HI := Lib.hid hi1
          have X3 := Lib.hid (blk_below X3.out hb1)
          have T6 := Lib.hid (T5.out.below hb1)
          have K6 := Lib.hid (K5.out.below hb1)
          have B6 := Lib.hid (below_then B5.out B5.out.size hb1)
          have HFL := Lib.hid (And.intro hlen (And.intro hup hfl))
          clear hi1 hb1 T5 K5 B5 X4 cx cy hlen hup hfl
          go_wp2_with fail
          clear q1 q3 hm hbig
          have HW1 : w.heap.size ≤ W1.heap.size := K6.out.1
          have H00 : Hid (RepI w0 w g w.heap.size l [] W1) := Lib.hid ⟨T6.out, X3.out, K6.out, B6.out⟩
          have hseg : (segD false l fr tt).length ≤ l.length := by
            have : (seg l fr tt).length ≤ l.length := by unfold seg; rw [List.length_drop, List.length_take]; omega
            unfold segD
            simpa using this
          clear hseg T6 X3 K6 B6
          refine (wpIn_wide (n := 5)).1 ?_
          refine wpIn_rangeFunc_ownH rfl (by omega) (gf := 68) (lb := lb) rfl trivial (enters_of Try.func68 (by kernel_rfl) rfl)
            (walk1_stops (b0 := W1.heap.size) HI.out (by have := HFL.out; omega) (Nat.le_refl _) (by omega) (by have := HFL.out; omega) (by have := HFL.out; omega) (by have := HFL.out; omega))
            (fun h k => KeepI.trans h k) (fun W k o o' _ h hc _ => KeepI.putObj W k o o' h hc) (Below.refl _ _) (fun _ => rfl)
            (RepI w0 w g w.heap.size l) (fun _ _ _ => False) (repI_own w0 w g w.heap.size l _ hw0 HW1) (fun c => fun _ _ _ _ h _ _ => h.elim) H00.out
            (fun x a' W => ∃ Bx, W.heap[Bx]? = some (.cells #[.string x.key, .string x.value, .int .i64 x.version] tRow (0, 0)) ∧ a' = { tmps := #[.pointer (some ⟨g, 0, none⟩), .agg #[.string f, .string u], .slice A rows.length c, .pointer (some ⟨w.heap.size, 0, none⟩), .pointer (some ⟨w.heap.size + 1, 0, none⟩), undef, u6, u7, u8, u9, .int .i64 fr, .int .i64 fr, .pointer (some ⟨Bx, 0, none⟩), undef, undef, .pointer (some ⟨g, 0, none⟩), .bool true, .bool false, .slice A rows.length c, .int .i64 rows.length, .int .i64 k, .bool false, u22, u23, u24, u25, u26, u27, u28, u29, u30, u31, u32, u33, u34, u35, u36, u37, u38, u39, u40, u41, u42, u43, u44, u45, u46, u47, u48, u49, u50, u51, .tuple #[.int .i64 fr, .int .i64 tt], .pointer (some ⟨g, 0, none⟩), .agg #[.string f, .string u], .tuple #[.int .i64 fr, .int .i64 tt], .int .i64 fr, .int .i64 tt, .int .i64 tt, .int .i64 fr, .int .i64 fr, .pointer (some ⟨g, 0, none⟩), .int .i64 l.length, .int .i64 fr, .int .i64 fr, .int .i64 (0), .int .i64 (l.length), .slice A rows.length c, .int .i64 rows.length, .int .i64 ((l.length : Int) + rows.length), .bool false, .pointer (some ⟨g, 0, none⟩), .agg #[.string f, .string u], .func (.func 68) #[] lb, x.val, undef, undef, undef, undef, undef, undef, undef, undef, undef, undef, undef, undef, undef, undef], defers := [] })
            (fun x a' => fun s X Y row hs hg hr => by obtain ⟨Bx, h1, h2⟩ := hs; exact ⟨Bx, block_own W1.heap.size Bx (fun _ : Unit => .cells #[.string x.key, .string x.value, .int .i64 x.version] tRow (0, 0)) (fun _ => rfl) () X Y row h1 hg hr, h2⟩) ?assign ?body ?done ?stop
          case assign =>
            intro lp pre x W K hI hK
            have HB := below_alloc (Below.refl W.heap.size W) (.cells #[.string x.key, .string x.value, .int .i64 x.version] tRow)
            have HK := Lib.hid (hK _ _ ((KeepsOthers.alloc _ _).from _) (KeepI.of_below HB) (hI.below HB) ⟨W.heap.size, blk_new W (.cells #[.string x.key, .string x.value, .int .i64 x.version] tRow), rfl⟩)
            clear hK hI HB
            gi_wp2
            exact HK.out
          case body =>
            rintro lp pre x a' W hlp ⟨r, hr⟩ ⟨hT, hX, hK, hB⟩ ⟨Bx, hbx, rfl⟩ hlt
            have T := Lib.hid hT
            have X := Lib.hid hX
            have K := Lib.hid hK
            have B := Lib.hid hB
            have c3 := blk1 hX
            have cx := blkc hbx
            clear hT hX hK hB hbx hr hlt
            gi_wp2_with fail
            refine ⟨trivial, CallsIn.inRound lp (callsIn_wide.2 ?_)⟩
            refine (tdel_any x.key T.out (LOk.foldDel HLO.out pre) hg B.out).mono ?_
            rintro e W' ⟨rfl, hT', hK', hB'⟩
            have HP : Hid (KeepsFrom W1.heap.size W W' ∧ KeepI W1.heap.size W W' ∧ RepI w0 w g w.heap.size l (pre ++ [x]) W') := Lib.hid ⟨(others_kept hK' T.out).from _, keepI_kept hK' T.out, by rw [delAll_snoc]; exact hT', blk_kept X.out hK' h3g, Kept.then_ K.out hK' (fun k hk => .inl hk), hB'⟩
            clear hT' hK' hB'
            gi_wp2
            exact HP.out
          case stop =>
            rintro D c pre W hD hp ⟨⟩
          case done =>
            rintro D ys W hD rfl ⟨hT, hX, hK, hB⟩ hKD
            have T := Lib.hid hT
            have X := Lib.hid hX
            have K := Lib.hid hK
            have B := Lib.hid hB
            have DD := Lib.hid hKD
            clear hT hX hK hB hKD
            have cx := blk1 X.out
            go_wp2_with fail
            clear cx
            have HL1 := Lib.hid (show LOk (delAll l (segD false l fr tt)) from LOk.foldDel HLO.out _)
            generalize delAll l (segD false l fr tt) = l1 at *
            go_loopg [81] rows.length (fun kq v81 w' => ∃ (j : Nat), v81 = .int .i64 (j : Int) ∧ Hid (j + kq = rows.length) ∧ Hid (TabR w' g (putAll l1 (rows.take j))) ∧ Hid (w'.heap[w.heap.size]? = some (.cells #[.pointer (some ⟨g, 0, none⟩)] tPT (0, 0))) ∧ Hid (w'.heap[D]? = some (.deferred (some []))) ∧ Hid (Kept w w' (fun k => k = g)) ∧ Hid (Below w0.heap.size w0 w'))
            case atStart => exact ⟨0, rfl, (show _ + _ = _ by omega), T, X, DD, K, B⟩
            case round =>
              clear T X DD K B
              obtain ⟨j, rfl, HJ, T, X, DD, K, B⟩ := hrel
              cases gk with
              | zero =>
                have hj : j = rows.length := HJ.out
                have c4 : decide (j < rows.length) = false := by simp; omega
                have T2 : Hid (TabR wr g (putAll l1 rows)) := Lib.hid (by have := T.out; rwa [hj, List.take_length] at this)
                clear hj T
                have hDw : w.heap.size ≤ D := Nat.le_trans HW1 hD
                have TF : Hid (TabR (wr.putObj D (.deferred none)) g (putAll l1 rows)) := Lib.hid ((tabR_own 0 g (fun _ : Unit => putAll l1 rows)).putObj (s := ()) (.deferred none) T2.out (Nat.zero_le _) DD.out rfl)
                have KF : Hid (Kept w (wr.putObj D (.deferred none)) (fun k => k = g)) := Lib.hid ((kept_own (β := Unit) (w := w) (B := w.heap.size) (Nat.le_refl _)).putObj (s := ()) (.deferred none) K.out hDw DD.out rfl)
                have BF : Hid (Below w0.heap.size w0 (wr.putObj D (.deferred none))) := Lib.hid (B.out.trans (belowK_b (w := w) hw0 wr D _ _ hDw DD.out rfl rfl))
                go_wp2_with fail
                (try simp only [Exit.inBlock, Exit.then])
                refine postM_ret1 DD.out (results_tmp rfl _ _ _) rfl ?_
                rw [HCUT.out]
                exact ⟨rfl, TF.out, KF.out, BF.out⟩
              | succ k2 =>
                have hj : j < rows.length := by have := HJ.out; omega
                have hu := List.getElem?_eq_getElem hj
                generalize rows[j] = r at *
                have HC := Lib.hid (HCC.out wr K.out B.out)
                obtain ⟨ad, hA, x0, x1, x2⟩ := at_R HC.out hu
                have HU := Lib.hid hu
                cases hA
                have c4 : decide (j < rows.length) = true := by simpa using hj
                have p1 := eq_true (show 0 ≤ (j : Int) by omega)
                have p2 := eq_true (show j < rows.length by omega)
                have HW := Lib.hid (below_alloc (Below.refl wr.heap.size wr) (.cells #[Value.string r.key, .string r.value, .int .i64 r.version] tRow))
                have Q4 := Lib.hid (blk_new wr (.cells #[Value.string r.key, .string r.value, .int .i64 r.version] tRow))
                have T4 := Lib.hid (T.out.below HW.out)
                have X4 := Lib.hid (blk_below X.out HW.out)
                have D4 := Lib.hid ((HW.out.block D (blk_lt DD.out)).trans DD.out)
                have K4 := Lib.hid (K.out.below HW.out)
                have B4 := Lib.hid (below_then B.out B.out.size HW.out)
                have HF1 := Lib.hid (show wrap64 ((j : Int) + 1) = ((j + 1 : Nat) : Int) from by rw [← i64_w, IntWalk.i64_in _ (by have := HBIG.out; omega)]; omega)
                have HDG : D ≠ g := fun e => by obtain ⟨_, _, hq, _⟩ := T.out; have h2 := DD.out; rw [e, hq] at h2; cases h2
                clear hu T X DD K B HC HW
                go_upto_region 24 with (fail)
                generalize wr.heap.size = q at *
                generalize (World.alloc wr _) = W4 at *
                clear x0 x1 x2
                have cp := blkc Q4.out
                have cx := blk1 X4.out
                go_wp2_with fail
                clear cp cx
                refine (tput_any r T4.out (LOk.foldPut HL1.out (rows.take j)) hg B4.out).mono ?_
                rintro e w5 ⟨rfl, hT5, hK5, hB5⟩
                have T5 : Hid (TabR w5 g (putAll l1 (rows.take (j + 1)))) := Lib.hid (by rw [List.take_add_one, HU.out]; exact (putAll_snoc l1 (rows.take j) r) ▸ hT5)
                have X5 := Lib.hid (blk_kept X4.out hK5 h3g)
                have D5 := Lib.hid ((hK5.2 D (blk_lt D4.out) HDG).trans D4.out)
                have K5 := Lib.hid (Kept.then_ K4.out hK5 (fun k hk => .inl hk))
                have B5 := Lib.hid hB5
                clear hT5 hK5 hB5 T4 X4 D4 K4 B4 Q4
                go_wp2_with fail
                go_roundg k2
                case measure => exact Nat.lt_succ_self _
                case rel => exact ⟨j + 1, by rw [HF1.out], Lib.hid (by have := HJ.out; omega), T5, X5, D5, K5, B5⟩
      · have q1 : (tt < (fr : Int)) = False := _root_.eq_false hmx
        have hmax : max tt (fr : Int) = tt := by omega
        rw [hmax] at HCUT
        have f0 : wrap64 (tt - fr) = tt - fr := by rw [← i64_w]; exact IntWalk.i64_in _ (by omega)
        have f1 : wrap64 ((l.length : Int) - (tt - fr)) = (l.length : Int) - (tt - fr) := by rw [← i64_w]; exact IntWalk.i64_in _ (by omega)
        have f2 : wrap64 ((l.length : Int) - (tt - fr) + rows.length) = (l.length : Int) - (tt - fr) + rows.length := by rw [← i64_w]; exact IntWalk.i64_in _ (by omega)
        clear hmx hmax
        go_wp2_with fail
        refine (len_any T5.out).mono ?_
        rintro e w6 ⟨rfl, rfl⟩
        by_cases hbt : (l.length : Int) - (tt - fr) + rows.length > 1048576
        · have q3 := eq_true (show (1048576 : Int) < (l.length : Int) - (tt - fr) + rows.length by omega)
          have HCUT := Lib.hid (HCUT.out.trans (if_pos hbt))
          clear hbt
          go_wp2
          (try simp only [Exit.inBlock, Exit.then]); refine postM_ret (results_tmp rfl _ _ _) rfl ?_
          rw [HCUT.out]
          exact ⟨rfl, T5.out, K5.out, B5.out⟩
        · have q3 : ((1048576 : Int) < (l.length : Int) - (tt - fr) + rows.length) = False := _root_.eq_false (by omega)
          have HCUT := Lib.hid (HCUT.out.trans (if_neg hbt))
          clear hbt
          go_wp2_with fail
          refine (rows_any T5.out HLO.out f u).mono ?_
          rintro e W1 ⟨lb, rfl, hi1, hb1⟩
          rw [HFT.out.1, HFT.out.2] at hi1
          have HI := Lib.hid hi1
          have X3 := Lib.hid (blk_below X3.out hb1)
          have T6 := Lib.hid (T5.out.below hb1)
          have K6 := Lib.hid (K5.out.below hb1)
          have B6 := Lib.hid (below_then B5.out B5.out.size hb1)
          have HFL := Lib.hid (And.intro hlen (And.intro hup hfl))
          clear hi1 hb1 T5 K5 B5 X4 cx cy hlen hup hfl
          go_wp2_with fail
          clear q1 q3 hm hbig
          have HW1 : w.heap.size ≤ W1.heap.size := K6.out.1
          have H00 : Hid (RepI w0 w g w.heap.size l [] W1) := Lib.hid ⟨T6.out, X3.out, K6.out, B6.out⟩
          have hseg : (segD false l fr tt).length ≤ l.length := by
            have : (seg l fr tt).length ≤ l.length := by unfold seg; rw [List.length_drop, List.length_take]; omega
            unfold segD
            simpa using this
          clear hseg T6 X3 K6 B6
          refine (wpIn_wide (n := 5)).1 ?_
          refine wpIn_rangeFunc_ownH rfl (by omega) (gf := 68) (lb := lb) rfl trivial (enters_of Try.func68 (by kernel_rfl) rfl)
            (walk1_stops (b0 := W1.heap.size) HI.out (by have := HFL.out; omega) (Nat.le_refl _) (by omega) (by have := HFL.out; omega) (by have := HFL.out; omega) (by have := HFL.out; omega))
            (fun h k => KeepI.trans h k) (fun W k o o' _ h hc _ => KeepI.putObj W k o o' h hc) (Below.refl _ _) (fun _ => rfl)
            (RepI w0 w g w.heap.size l) (fun _ _ _ => False) (repI_own w0 w g w.heap.size l _ hw0 HW1) (fun c => fun _ _ _ _ h _ _ => h.elim) H00.out
            (fun x a' W => ∃ Bx, W.heap[Bx]? = some (.cells #[.string x.key, .string x.value, .int .i64 x.version] tRow (0, 0)) ∧ a' = { tmps := #[.pointer (some ⟨g, 0, none⟩), .agg #[.string f, .string u], .slice A rows.length c, .pointer (some ⟨w.heap.size, 0, none⟩), .pointer (some ⟨w.heap.size + 1, 0, none⟩), undef, u6, u7, u8, u9, .int .i64 fr, .int .i64 tt, .pointer (some ⟨Bx, 0, none⟩), undef, undef, .pointer (some ⟨g, 0, none⟩), .bool true, .bool false, .slice A rows.length c, .int .i64 rows.length, .int .i64 k, .bool false, u22, u23, u24, u25, u26, u27, u28, u29, u30, u31, u32, u33, u34, u35, u36, u37, u38, u39, u40, u41, u42, u43, u44, u45, u46, u47, u48, u49, u50, u51, .tuple #[.int .i64 fr, .int .i64 tt], .pointer (some ⟨g, 0, none⟩), .agg #[.string f, .string u], .tuple #[.int .i64 fr, .int .i64 tt], .int .i64 fr, .int .i64 tt, .int .i64 tt, .int .i64 fr, .int .i64 tt, .pointer (some ⟨g, 0, none⟩), .int .i64 l.length, .int .i64 tt, .int .i64 fr, .int .i64 (tt - fr), .int .i64 ((l.length : Int) - (tt - fr)), .slice A rows.length c, .int .i64 rows.length, .int .i64 ((l.length : Int) - (tt - fr) + rows.length), .bool false, .pointer (some ⟨g, 0, none⟩), .agg #[.string f, .string u], .func (.func 68) #[] lb, x.val, undef, undef, undef, undef, undef, undef, undef, undef, undef, undef, undef, undef, undef, undef], defers := [] })
            (fun x a' => fun s X Y row hs hg hr => by obtain ⟨Bx, h1, h2⟩ := hs; exact ⟨Bx, block_own W1.heap.size Bx (fun _ : Unit => .cells #[.string x.key, .string x.value, .int .i64 x.version] tRow (0, 0)) (fun _ => rfl) () X Y row h1 hg hr, h2⟩) ?assign ?body ?done ?stop
          case assign =>
            intro lp pre x W K hI hK
            have HB := below_alloc (Below.refl W.heap.size W) (.cells #[.string x.key, .string x.value, .int .i64 x.version] tRow)
            have HK := Lib.hid (hK _ _ ((KeepsOthers.alloc _ _).from _) (KeepI.of_below HB) (hI.below HB) ⟨W.heap.size, blk_new W (.cells #[.string x.key, .string x.value, .int .i64 x.version] tRow), rfl⟩)
            clear hK hI HB
            gi_wp2
            exact HK.out
          case body =>
            rintro lp pre x a' W hlp ⟨r, hr⟩ ⟨hT, hX, hK, hB⟩ ⟨Bx, hbx, rfl⟩ hlt
            have T := Lib.hid hT
            have X := Lib.hid hX
            have K := Lib.hid hK
            have B := Lib.hid hB
            have c3 := blk1 hX
            have cx := blkc hbx
            clear hT hX hK hB hbx hr hlt
            gi_wp2_with fail
            refine ⟨trivial, CallsIn.inRound lp (callsIn_wide.2 ?_)⟩
            refine (tdel_any x.key T.out (LOk.foldDel HLO.out pre) hg B.out).mono ?_
            rintro e W' ⟨rfl, hT', hK', hB'⟩
            have HP : Hid (KeepsFrom W1.heap.size W W' ∧ KeepI W1.heap.size W W' ∧ RepI w0 w g w.heap.size l (pre ++ [x]) W') := Lib.hid ⟨(others_kept hK' T.out).from _, keepI_kept hK' T.out, by rw [delAll_snoc]; exact hT', blk_kept X.out hK' h3g, Kept.then_ K.out hK' (fun k hk => .inl hk), hB'⟩
            clear hT' hK' hB'
            gi_wp2
            exact HP.out
          case stop =>
            rintro D c pre W hD hp ⟨⟩
          case done =>
            rintro D ys W hD rfl ⟨hT, hX, hK, hB⟩ hKD
            have T := Lib.hid hT
            have X := Lib.hid hX
            have K := Lib.hid hK
            have B := Lib.hid hB
            have DD := Lib.hid hKD
            clear hT hX hK hB hKD
            have cx := blk1 X.out
            go_wp2_with fail
            clear cx
            have HL1 := Lib.hid (show LOk (delAll l (segD false l fr tt)) from LOk.foldDel HLO.out _)
            generalize delAll l (segD false l fr tt) = l1 at *
            go_loopg [81] rows.length (fun kq v81 w' => ∃ (j : Nat), v81 = .int .i64 (j : Int) ∧ Hid (j + kq = rows.length) ∧ Hid (TabR w' g (putAll l1 (rows.take j))) ∧ Hid (w'.heap[w.heap.size]? = some (.cells #[.pointer (some ⟨g, 0, none⟩)] tPT (0, 0))) ∧ Hid (w'.heap[D]? = some (.deferred (some []))) ∧ Hid (Kept w w' (fun k => k = g)) ∧ Hid (Below w0.heap.size w0 w'))
            case atStart => exact ⟨0, rfl, (show _ + _ = _ by omega), T, X, DD, K, B⟩
            case round =>
              clear T X DD K B
              obtain ⟨j, rfl, HJ, T, X, DD, K, B⟩ := hrel
              cases gk with
              | zero =>
                have hj : j = rows.length := HJ.out
                have c4 : decide (j < rows.length) = false := by simp; omega
                have T2 : Hid (TabR wr g (putAll l1 rows)) := Lib.hid (by have := T.out; rwa [hj, List.take_length] at this)
                clear hj T
                have hDw : w.heap.size ≤ D := Nat.le_trans HW1 hD
                have TF : Hid (TabR (wr.putObj D (.deferred none)) g (putAll l1 rows)) := Lib.hid ((tabR_own 0 g (fun _ : Unit => putAll l1 rows)).putObj (s := ()) (.deferred none) T2.out (Nat.zero_le _) DD.out rfl)
                have KF : Hid (Kept w (wr.putObj D (.deferred none)) (fun k => k = g)) := Lib.hid ((kept_own (β := Unit) (w := w) (B := w.heap.size) (Nat.le_refl _)).putObj (s := ()) (.deferred none) K.out hDw DD.out rfl)
                have BF : Hid (Below w0.heap.size w0 (wr.putObj D (.deferred none))) := Lib.hid (B.out.trans (belowK_b (w := w) hw0 wr D _ _ hDw DD.out rfl rfl))
                go_wp2_with fail
                (try simp only [Exit.inBlock, Exit.then])
                refine postM_ret1 DD.out (results_tmp rfl _ _ _) rfl ?_
                rw [HCUT.out]
                exact ⟨rfl, TF.out, KF.out, BF.out⟩
              | succ k2 =>
                have hj : j < rows.length := by have := HJ.out; omega
                have hu := List.getElem?_eq_getElem hj
                generalize rows[j] = r at *
                have HC := Lib.hid (HCC.out wr K.out B.out)
                obtain ⟨ad, hA, x0, x1, x2⟩ := at_R HC.out hu
                have HU := Lib.hid hu
                cases hA
                have c4 : decide (j < rows.length) = true := by simpa using hj
                have p1 := eq_true (show 0 ≤ (j : Int) by omega)
                have p2 := eq_true (show j < rows.length by omega)
                have HW := Lib.hid (below_alloc (Below.refl wr.heap.size wr) (.cells #[Value.string r.key, .string r.value, .int .i64 r.version] tRow))
                have Q4 := Lib.hid (blk_new wr (.cells #[Value.string r.key, .string r.value, .int .i64 r.version] tRow))
                have T4 := Lib.hid (T.out.below HW.out)
                have X4 := Lib.hid (blk_below X.out HW.out)
                have D4 := Lib.hid ((HW.out.block D (blk_lt DD.out)).trans DD.out)
                have K4 := Lib.hid (K.out.below HW.out)
                have B4 := Lib.hid (below_then B.out B.out.size HW.out)
                have HF1 := Lib.hid (show wrap64 ((j : Int) + 1) = ((j + 1 : Nat) : Int) from by rw [← i64_w, IntWalk.i64_in _ (by have := HBIG.out; omega)]; omega)
                have HDG : D ≠ g := fun e => by obtain ⟨_, _, hq, _⟩ := T.out; have h2 := DD.out; rw [e, hq] at h2; cases h2
                clear hu T X DD K B HC HW
                go_upto_region 24 with (fail)
                generalize wr.heap.size = q at *
                generalize (World.alloc wr _) = W4 at *
                clear x0 x1 x2
                have cp := blkc Q4.out
                have cx := blk1 X4.out
                go_wp2_with fail
                clear cp cx
                refine (tput_any r T4.out (LOk.foldPut HL1.out (rows.take j)) hg B4.out).mono ?_
                rintro e w5 ⟨rfl, hT5, hK5, hB5⟩
                have T5 : Hid (TabR w5 g (putAll l1 (rows.take (j + 1)))) := Lib.hid (by rw [List.take_add_one, HU.out]; exact (putAll_snoc l1 (rows.take j) r) ▸ hT5)
                have X5 := Lib.hid (blk_kept X4.out hK5 h3g)
                have D5 := Lib.hid ((hK5.2 D (blk_lt D4.out) HDG).trans D4.out)
                have K5 := Lib.hid (Kept.then_ K4.out hK5 (fun k hk => .inl hk))
                have B5 := Lib.hid hB5
                clear hT5 hK5 hB5 T4 X4 D4 K4 B4 Q4
                go_wp2_with fail
                go_roundg k2
                case measure => exact Nat.lt_succ_self _
                case rel => exact ⟨j + 1, by rw [HF1.out], Lib.hid (by have := HJ.out; omega), T5, X5, D5, K5, B5⟩
    | succ k1 =>
      have hk : k < rows.length := by have := HK.out; omega
      have hu := List.getElem?_eq_getElem hk
      generalize rows[k] = r at *
      have HC := Lib.hid (HCC.out wr (K0.out.below HB.out) (below_then B0.out B0.out.size HB.out))
      obtain ⟨ad, hA, x0, x1, x2⟩ := at_R HC.out hu
      have HU := Lib.hid hu
      have HA := Lib.hid hA
      cases hA
      have c2 : decide (k < rows.length) = true := by simpa using hk
      have p1 := eq_true (show 0 ≤ (k : Int) by omega)
      have p2 := eq_true (show k < rows.length by omega)
      have Q4 := Lib.hid (blk_new wr (.cells #[Value.string r.key, .string r.value, .int .i64 r.version] tRow))
      have HB4 := Lib.hid (below_alloc HB.out (.cells #[Value.string r.key, .string r.value, .int .i64 r.version] tRow))
      clear hu
      go_upto_region 6 with (fail)
      have HCr := Lib.hid (below_alloc (Below.refl wr.heap.size wr) (.cells #[Value.string r.key, .string r.value, .int .i64 r.version] tRow))
      have HC := Lib.hid (Kd.C_below HC.out HCr.out)
      generalize wr.heap.size = q at *
      generalize (World.alloc wr _) = W4 at *
      clear x0 x1 x2 HB HCr
      have cp := blkc Q4.out
      go_wp2_with fail
      clear cp
      refine (check_any r.key r.value r.version W4).mono ?_
      rintro e w5 ⟨rfl, hb5⟩
      have Q5 := Lib.hid (blk_below Q4.out hb5)
      have HC := Lib.hid (Kd.C_below HC.out hb5)
      have HB5 := Lib.hid (below_then HB4.out HB4.out.size hb5)
      clear hb5 Q4 HB4
      have HERR : Hid (∀ (x : Int), E = x → x ≠ 0 → ∀ W, Below W0.heap.size W0 W → x = (replL l f u rows).1 ∧ TabR W g (replL l f u rows).2 ∧ Kept w W (fun k => k = g) ∧ Below w0.heap.size w0 W) := Lib.hid (fun x hx hn W hW => by
        have e1 : replL l f u rows = (x, l) := by unfold replL; rw [HEE.out, if_pos (by rw [hx]; exact hn), hx]
        rw [e1]
        exact ⟨rfl, T0.out.below hW, K0.out.below hW, below_then B0.out B0.out.size hW⟩)
      cases hc : (checkRow (r.key, r.value, r.version) != 0) with
      | true =>
        have HZ := Lib.hid (show E = checkRow (r.key, r.value, r.version) by rw [← HE.out, rep_bad HU.out (by simpa [Row.check] using hc)]; rfl)
        have HNE := Lib.hid (show checkRow (r.key, r.value, r.version) ≠ 0 by simpa using hc)
        go_wp2
        (try simp only [Exit.inBlock, Exit.then]); refine postM_ret (results_tmp rfl _ _ _) rfl ?_
        obtain ⟨e1, e2⟩ := HERR.out _ HZ.out HNE.out _ HB5.out
        exact ⟨by rw [← e1]; rfl, e2⟩
      | false =>
        have hc0 : r.check = 0 := by simpa [Row.check] using hc
        have HC0 := Lib.hid hc0
        clear hc0
        have cp := blkc Q5.out
        have cy := blkc (blk_below X4.out HB5.out)
        go_wp2_with fail
        clear cp cy
        refine (lies_any f u r.key w5).mono ?_
        rintro e w6 ⟨rfl, hb6⟩
        have Q6 := Lib.hid (blk_below Q5.out hb6)
        have HC := Lib.hid (Kd.C_below HC.out hb6)
        have HB6 := Lib.hid (below_then HB5.out HB5.out.size hb6)
        clear hb6 Q5 HB5
        cases ho : lies f u r.key with
        | false =>
          have HZ := Lib.hid (show E = 75 by rw [← HE.out, rep_out HU.out HC0.out ho])
          go_wp2
          (try simp only [Exit.inBlock, Exit.then]); refine postM_ret (results_tmp rfl _ _ _) rfl ?_
          obtain ⟨e1, e2⟩ := HERR.out _ HZ.out (by decide) _ HB6.out
          exact ⟨by rw [← e1]; rfl, e2⟩
        | true =>
          have HO := Lib.hid ho
          clear ho
          have QD := Lib.hid (blk_drew Q6.out)
          have HCD := Lib.hid (Kd.C_drew HC.out)
          have BD := Lib.hid HB6.out.drew
          clear Q6 HB6 HC
          cases k with
          | zero =>
            have HN := Lib.hid (show repAt f u rows (0 + 1) = E by rw [← HE.out, rep_first HU.out HC0.out HO.out])
            clear HERR
            go_wp2_with fail
            clear c2 p1 p2
            refine start_ (n := 14) (S := fun w' => (∀ o, w'.cell? ⟨q, o, none⟩ = #[Value.string r.key, .string r.value, .int .i64 r.version][o]?)) (ds := []) #[false, false, false, false, false, false, false, false, false, false, false, false, false, false] (by kernel_rfl) rfl rfl ((blkc QD.out)) (fun hHeld => ?_)
            refine pure_ (i := 0) (N := some 38) (v := ?_) (a' := ?_) #[true, false, false, false, false, false, false, false, false, false, false, false, false, false] rfl rfl (by kernel_rfl) (fun _ _ _ h => h) (Or.inl ⟨by rfl, ?_⟩) ?_ ?_
            rotate_left
            · intro w'
              go_simp
              with_reducible rfl
            rotate_left
            · simp only [Act.put, List.setIfInBounds_toArray, List.set_cons_zero, List.set_cons_succ, i64_w, i32_w]
              rfl
            refine pure_ (i := 1) (N := some 39) (v := ?_) (a' := ?_) #[true, true, false, false, false, false, false, false, false, false, false, false, false, false] rfl rfl (by kernel_rfl) (fun _ _ _ h => h) (Or.inl ⟨by rfl, ?_⟩) ?_ ?_
            rotate_left
            · intro w'
              go_simp
              with_reducible rfl
            rotate_left
            · simp only [Act.put, List.setIfInBounds_toArray, List.set_cons_zero, List.set_cons_succ, i64_w, i32_w]
              rfl
            refine pure_ (i := 2) (N := some 40) (v := ?_) (a' := ?_) #[true, true, true, false, false, false, false, false, false, false, false, false, false, false] rfl rfl (by kernel_rfl) (fun _ _ _ h => h) (Or.inl ⟨by rfl, ?_⟩) ?_ ?_
            rotate_left
            · intro w'
              go_simp
              with_reducible rfl
            rotate_left
            · simp only [Act.put, List.setIfInBounds_toArray, List.set_cons_zero, List.set_cons_succ, i64_w, i32_w]
              rfl
            refine pure_ (i := 3) (N := some 41) (v := undef) (a' := ?_) #[true, true, true, true, false, false, false, false, false, false, false, false, false, false] rfl rfl (by kernel_rfl) (fun _ _ _ h => h) (Or.inr ⟨by rfl, rfl⟩) ?_ ?_
            rotate_left
            · simp only [Act.put, List.setIfInBounds_toArray, List.set_cons_zero, List.set_cons_succ, i64_w, i32_w]
              rfl
            refine pure_ (i := 4) (N := some 42) (v := undef) (a' := ?_) #[true, true, true, true, true, false, false, false, false, false, false, false, false, false] rfl rfl (by kernel_rfl) (fun _ _ _ h => h) (Or.inr ⟨by rfl, rfl⟩) ?_ ?_
            rotate_left
            · simp only [Act.put, List.setIfInBounds_toArray, List.set_cons_zero, List.set_cons_succ, i64_w, i32_w]
              rfl
            refine pure_ (i := 5) (N := some 43) (v := undef) (a' := ?_) #[true, true, true, true, true, true, false, false, false, false, false, false, false, false] rfl rfl (by kernel_rfl) (fun _ _ _ h => h) (Or.inr ⟨by rfl, rfl⟩) ?_ ?_
            rotate_left
            · simp only [Act.put, List.setIfInBounds_toArray, List.set_cons_zero, List.set_cons_succ, i64_w, i32_w]
              rfl
            refine pure_ (i := 6) (N := some 44) (v := undef) (a' := ?_) #[true, true, true, true, true, true, true, false, false, false, false, false, false, false] rfl rfl (by kernel_rfl) (fun _ _ _ h => h) (Or.inr ⟨by rfl, rfl⟩) ?_ ?_
            rotate_left
            · simp only [Act.put, List.setIfInBounds_toArray, List.set_cons_zero, List.set_cons_succ, i64_w, i32_w]
              rfl
            refine pure_ (i := 7) (N := some 45) (v := undef) (a' := ?_) #[true, true, true, true, true, true, true, true, false, false, false, false, false, false] rfl rfl (by kernel_rfl) (fun _ _ _ h => h) (Or.inr ⟨by rfl, rfl⟩) ?_ ?_
            rotate_left
            · simp only [Act.put, List.setIfInBounds_toArray, List.set_cons_zero, List.set_cons_succ, i64_w, i32_w]
              rfl
            refine pure_ (i := 8) (N := some 46) (v := undef) (a' := ?_) #[true, true, true, true, true, true, true, true, true, false, false, false, false, false] rfl rfl (by kernel_rfl) (fun _ _ _ h => h) (Or.inr ⟨by rfl, rfl⟩) ?_ ?_
            rotate_left
            · simp only [Act.put, List.setIfInBounds_toArray, List.set_cons_zero, List.set_cons_succ, i64_w, i32_w]
              rfl
            refine pure_ (i := 9) (N := some 47) (v := undef) (a' := ?_) #[true, true, true, true, true, true, true, true, true, true, false, false, false, false] rfl rfl (by kernel_rfl) (fun _ _ _ h => h) (Or.inr ⟨by rfl, rfl⟩) ?_ ?_
            rotate_left
            · simp only [Act.put, List.setIfInBounds_toArray, List.set_cons_zero, List.set_cons_succ, i64_w, i32_w]
              rfl
            refine pure_ (i := 10) (N := some 48) (v := undef) (a' := ?_) #[true, true, true, true, true, true, true, true, true, true, true, false, false, false] rfl rfl (by kernel_rfl) (fun _ _ _ h => h) (Or.inr ⟨by rfl, rfl⟩) ?_ ?_
            rotate_left
            · simp only [Act.put, List.setIfInBounds_toArray, List.set_cons_zero, List.set_cons_succ, i64_w, i32_w]
              rfl
            refine pure_ (i := 11) (N := some 49) (v := undef) (a' := ?_) #[true, true, true, true, true, true, true, true, true, true, true, true, false, false] rfl rfl (by kernel_rfl) (fun _ _ _ h => h) (Or.inr ⟨by rfl, rfl⟩) ?_ ?_
            rotate_left
            · simp only [Act.put, List.setIfInBounds_toArray, List.set_cons_zero, List.set_cons_succ, i64_w, i32_w]
              rfl
            refine pure_ (i := 12) (N := some 50) (v := ?_) (a' := ?_) #[true, true, true, true, true, true, true, true, true, true, true, true, true, false] rfl rfl (by kernel_rfl) (fun _ _ _ h => h) (Or.inl ⟨by rfl, ?_⟩) ?_ ?_
            rotate_left
            · intro w'
              go_simp
              with_reducible rfl
            rotate_left
            · simp only [Act.put, List.setIfInBounds_toArray, List.set_cons_zero, List.set_cons_succ, i64_w, i32_w]
              rfl
            refine pure_ (i := 13) (N := some 37) (v := ?_) (a' := ?_) #[true, true, true, true, true, true, true, true, true, true, true, true, true, true] rfl rfl (by kernel_rfl) (fun _ _ _ h => h) (Or.inl ⟨by rfl, ?_⟩) ?_ ?_
            rotate_left
            · intro w'
              go_simp
              with_reducible rfl
            rotate_left
            · simp only [Act.put, List.setIfInBounds_toArray, List.set_cons_zero, List.set_cons_succ, i64_w, i32_w]
              rfl
            refine done_ (by kernel_rfl) ?_
            go_wp2_with fail
            go_roundg k1
            case measure => exact Nat.lt_succ_self _
            case rel => exact ⟨0 + 1, rfl, Lib.hid (by have := HK.out; omega), HN, BD⟩
          | succ k =>
            have hk0 : k < rows.length := by omega
            have hu0 := List.getElem?_eq_getElem hk0
            generalize rows[k] = r0 at *
            obtain ⟨ad0, hA0, y0, _, _⟩ := at_R HCD.out hu0
            cases hA0
            have HU0 := Lib.hid hu0
            have hi1 : ((k + 1 : Nat) : Int) - 1 = (k : Int) := by omega
            have p5 := eq_true (show ((k + 1 : Nat) : Int) > 0 by omega)
            have p3 := eq_true (show 0 ≤ (k : Int) by omega)
            have p4 := eq_true (show k < rows.length by omega)
            have p6 : wrap64 (k : Int) = (k : Int) := by rw [← i64_w]; exact IntWalk.i64_in _ (by have := HBIG.out; omega)
            clear hu0 hk0
            go_wp2_with fail
            refine start_ (n := 14) (S := fun w' => (∀ o, w'.cell? ⟨q, o, none⟩ = #[Value.string r.key, .string r.value, .int .i64 r.version][o]?) ∧ w'.cell? (ad.add (k * 3)) = some (.string r0.key)) (ds := []) #[false, false, false, false, false, false, false, false, false, false, false, false, false, false] (by kernel_rfl) rfl rfl ⟨(blkc QD.out), y0⟩ (fun hHeld => ?_)
            refine pure_ (i := 0) (N := some 38) (v := ?_) (a' := ?_) #[true, false, false, false, false, false, false, false, false, false, false, false, false, false] rfl rfl (by kernel_rfl) (fun _ _ _ h => h) (Or.inl ⟨by rfl, ?_⟩) ?_ ?_
            rotate_left
            · intro w'
              go_simp
              with_reducible rfl
            rotate_left
            · simp only [Act.put, List.setIfInBounds_toArray, List.set_cons_zero, List.set_cons_succ, i64_w, i32_w]
              rfl
            refine pure_ (i := 1) (N := some 39) (v := ?_) (a' := ?_) #[true, true, false, false, false, false, false, false, false, false, false, false, false, false] rfl rfl (by kernel_rfl) (fun _ _ _ h => h) (Or.inl ⟨by rfl, ?_⟩) ?_ ?_
            rotate_left
            · intro w'
              go_simp
              with_reducible rfl
            rotate_left
            · simp only [Act.put, List.setIfInBounds_toArray, List.set_cons_zero, List.set_cons_succ, i64_w, i32_w]
              rfl
            refine pure_ (i := 2) (N := some 40) (v := ?_) (a' := ?_) #[true, true, true, false, false, false, false, false, false, false, false, false, false, false] rfl rfl (by kernel_rfl) (fun _ _ _ h => h) (Or.inl ⟨by rfl, ?_⟩) ?_ ?_
            rotate_left
            · intro w'
              go_simp
              with_reducible rfl
            rotate_left
            · simp only [Act.put, List.setIfInBounds_toArray, List.set_cons_zero, List.set_cons_succ, i64_w, i32_w]
              rfl
            refine pure_ (i := 3) (N := some 41) (v := ?_) (a' := ?_) #[true, true, true, true, false, false, false, false, false, false, false, false, false, false] rfl rfl (by kernel_rfl) (fun _ _ _ h => h) (Or.inl ⟨by rfl, ?_⟩) ?_ ?_
            rotate_left
            · intro w'
              go_simp
              with_reducible rfl
            rotate_left
            · simp only [Act.put, List.setIfInBounds_toArray, List.set_cons_zero, List.set_cons_succ, i64_w, i32_w]
              rfl
            refine pure_ (i := 5) (N := some 43) (v := ?_) (a' := ?_) #[true, true, true, true, false, true, false, false, false, false, false, false, false, false] rfl rfl (by kernel_rfl) (fun _ _ _ h => h) (Or.inl ⟨by rfl, ?_⟩) ?_ ?_
            rotate_left
            · intro w'
              go_simp
              with_reducible rfl
            rotate_left
            · simp only [Act.put, List.setIfInBounds_toArray, List.set_cons_zero, List.set_cons_succ, i64_w, i32_w]
              rfl
            refine pure_ (i := 6) (N := some 44) (v := ?_) (a' := ?_) #[true, true, true, true, false, true, true, false, false, false, false, false, false, false] rfl rfl (by kernel_rfl) (fun _ _ _ h => h) (Or.inl ⟨by rfl, ?_⟩) ?_ ?_
            rotate_left
            · intro w'
              go_simp
              with_reducible rfl
            rotate_left
            · simp only [Act.put, List.setIfInBounds_toArray, List.set_cons_zero, List.set_cons_succ, i64_w, i32_w]
              rfl
            refine pure_ (i := 7) (N := some 45) (v := ?_) (a' := ?_) #[true, true, true, true, false, true, true, true, false, false, false, false, false, false] rfl rfl (by kernel_rfl) (fun _ _ _ h => h) (Or.inl ⟨by rfl, ?_⟩) ?_ ?_
            rotate_left
            · intro w'
              go_simp
              with_reducible rfl
            rotate_left
            · simp only [Act.put, List.setIfInBounds_toArray, List.set_cons_zero, List.set_cons_succ, i64_w, i32_w]
              rfl
            refine pure_ (i := 8) (N := some 46) (v := ?_) (a' := ?_) #[true, true, true, true, false, true, true, true, true, false, false, false, false, false] rfl rfl (by kernel_rfl) (fun _ _ _ h => h) (Or.inl ⟨by rfl, ?_⟩) ?_ ?_
            rotate_left
            · intro w'
              go_simp
              with_reducible rfl
            rotate_left
            · simp only [Act.put, List.setIfInBounds_toArray, List.set_cons_zero, List.set_cons_succ, i64_w, i32_w]
              rfl
            refine pure_ (i := 9) (N := some 47) (v := ?_) (a' := ?_) #[true, true, true, true, false, true, true, true, true, true, false, false, false, false] rfl rfl (by kernel_rfl) (fun _ _ _ h => h) (Or.inl ⟨by rfl, ?_⟩) ?_ ?_
            rotate_left
            · intro w'
              go_simp
              with_reducible rfl
            rotate_left
            · simp only [Act.put, List.setIfInBounds_toArray, List.set_cons_zero, List.set_cons_succ, i64_w, i32_w]
              rfl
            refine take_ (i := 4) (N := some 42) (v := ?_) (a' := ?_) #[true, true, true, true, true, true, true, true, true, true, false, false, false, false] rfl rfl (by kernel_rfl) (fun _ _ _ h => h) (Or.inl ⟨by rfl, ?_⟩) hHeld ?_ ?_
            rotate_left
            · rintro w' ⟨s0, s1⟩
              go_simp
              with_reducible rfl
            rotate_left
            · simp only [Act.put, List.setIfInBounds_toArray, List.set_cons_zero, List.set_cons_succ, i64_w, i32_w]
              rfl
            refine take_ (i := 10) (N := some 48) (v := ?_) (a' := ?_) #[true, true, true, true, true, true, true, true, true, true, true, false, false, false] rfl rfl (by kernel_rfl) (fun _ _ _ h => h) (Or.inl ⟨by rfl, ?_⟩) hHeld ?_ ?_
            rotate_left
            · rintro w' ⟨s0, s1⟩
              go_simp
              with_reducible rfl
            rotate_left
            · simp only [Act.put, List.setIfInBounds_toArray, List.set_cons_zero, List.set_cons_succ, i64_w, i32_w]
              rfl
            refine pure_ (i := 11) (N := some 49) (v := ?_) (a' := ?_) #[true, true, true, true, true, true, true, true, true, true, true, true, false, false] rfl rfl (by kernel_rfl) (fun _ _ _ h => h) (Or.inl ⟨by rfl, ?_⟩) ?_ ?_
            rotate_left
            · intro w'
              go_simp
              with_reducible rfl
            rotate_left
            · simp only [Act.put, List.setIfInBounds_toArray, List.set_cons_zero, List.set_cons_succ, i64_w, i32_w]
              rfl
            refine pure_ (i := 12) (N := some 50) (v := ?_) (a' := ?_) #[true, true, true, true, true, true, true, true, true, true, true, true, true, false] rfl rfl (by kernel_rfl) (fun _ _ _ h => h) (Or.inl ⟨by rfl, ?_⟩) ?_ ?_
            rotate_left
            · intro w'
              go_simp
              with_reducible rfl
            rotate_left
            · simp only [Act.put, List.setIfInBounds_toArray, List.set_cons_zero, List.set_cons_succ, i64_w, i32_w]
              rfl
            refine pure_ (i := 13) (N := some 37) (v := ?_) (a' := ?_) #[true, true, true, true, true, true, true, true, true, true, true, true, true, true] rfl rfl (by kernel_rfl) (fun _ _ _ h => h) (Or.inl ⟨by rfl, ?_⟩) ?_ ?_
            rotate_left
            · intro w'
              go_simp
              with_reducible rfl
            rotate_left
            · simp only [Act.put, List.setIfInBounds_toArray, List.set_cons_zero, List.set_cons_succ, i64_w, i32_w]
              rfl
            refine done_ (by kernel_rfl) ?_
            have HUP := Lib.hid (show rows[k + 1]? = some r from HU.out)
            clear p3 p4 p5 y0
            cases hlt : (Op.bytesLess r.key.toList r0.key.toList || r.key.toList == r0.key.toList) with
            | true =>
              have HZ := Lib.hid (show E = 73 by rw [← HE.out, rep_down HU0.out HUP.out HC0.out HO.out (ge_nlt hlt)])
              go_wp2
              (try simp only [Exit.inBlock, Exit.then]); refine postM_ret (results_tmp rfl _ _ _) rfl ?_
              obtain ⟨e1, e2⟩ := HERR.out _ HZ.out (by decide) _ BD.out
              exact ⟨by rw [← e1]; rfl, e2⟩
            | false =>
              have HN := Lib.hid (show repAt f u rows (k + 1 + 1) = E by rw [← HE.out]; exact (rep_up HU0.out HUP.out HC0.out HO.out (ngt_lt hlt)).symm)
              clear HERR
              go_wp2_with fail
              go_roundg k1
              case measure => exact Nat.lt_succ_self _
              case rel => exact ⟨k + 1 + 1, by simp; done, Lib.hid (by have := HK.out; omega), HN, BD⟩
end Go.Proofs.Ytjpalkggmefpfaa.Tab
