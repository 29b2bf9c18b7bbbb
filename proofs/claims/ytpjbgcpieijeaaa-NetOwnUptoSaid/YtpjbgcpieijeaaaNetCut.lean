/- Cut: all that goes to an address, or comes from it, is lost. -/
import Derived.Test.YtpjbgcpieijeaaaNetRound
import Derived.RangeFuncBox
set_option linter.unusedVariables false
set_option linter.unusedSimpArgs false
namespace Go.Proofs.Ytpjbgcpieijeaaa.Net
open Go.RowKit Go.Proofs.Ytpjbgcpieijeaaa.Mem Go.Proofs.YtpjbgcpieijeaaaW.PrintWords Go.Proofs.YtpjbgcpieijeaaaW.PrintLast Go.Proofs.Ytpjbgcpieijeaaa.Byt Go.Proofs.Ytpjbgcpieijeaaa.Opn Go.Deep Go.ChangeMaps
attribute [local go_sem] Oper.semAt_some
theorem apart_iff (fls : List Fl) : Apart fls ↔ (∀ f ∈ fls, ∀ f' ∈ fls, ∀ k, f.nv.ownBlock = some k → f'.sv.ownBlock ≠ some k) ∧ fls.Pairwise (fun f f' => ∀ k, f.nv.ownBlock = some k → f'.nv.ownBlock ≠ some k) := by
  constructor
  · intro h
    refine ⟨fun f hf f' hf' k hk => ?_, ?_⟩
    · obtain ⟨i, hi⟩ := List.getElem?_of_mem hf
      obtain ⟨j, hj⟩ := List.getElem?_of_mem hf'
      exact (h i j f f' hi hj k hk).1
    · rw [List.pairwise_iff_getElem]
      intro i j hi hj hij k hk
      exact (h i j _ _ (List.getElem?_eq_getElem hi) (List.getElem?_eq_getElem hj) k hk).2 (by omega)
  · rintro ⟨h1, h2⟩ i j f f' hi hj k hk
    refine ⟨h1 f (List.mem_of_getElem? hi) f' (List.mem_of_getElem? hj) k hk, fun hij => ?_⟩
    rw [List.pairwise_iff_getElem] at h2
    obtain ⟨hi1, rfl⟩ := List.getElem?_eq_some_iff.1 hi
    obtain ⟨hj1, rfl⟩ := List.getElem?_eq_some_iff.1 hj
    rcases Nat.lt_or_gt_of_ne hij with hl | hl
    · exact h2 i j hi1 hj1 hl k hk
    · exact fun e => h2 j i hj1 hi1 hl k e hk
theorem Apart.filter {fls : List Fl} (h : Apart fls) (p : Fl → Bool) : Apart (fls.filter p) := by
  rw [apart_iff] at h ⊢
  exact ⟨fun f hf f' hf' => h.1 f (List.mem_filter.1 hf).1 f' (List.mem_filter.1 hf').1, h.2.sublist List.filter_sublist⟩
/-- Does it stay, where an address is cut off? -/
def stays (x : Int) (f : Fl) : Bool := f.src != x && f.dst != x
/-- Those of the first so many that stay. -/
def kl (fls : List Fl) (x : Int) (n : Nat) : List Fl := (fls.take n).filter (stays x)
theorem kl_succ {fls : List Fl} {x : Int} {n : Nat} {f : Fl} (h : fls[n]? = some f) : kl fls x (n + 1) = if stays x f then kl fls x n ++ [f] else kl fls x n := by
  unfold kl
  rw [List.take_add_one, h, List.filter_append]
  cases hs : stays x f <;> simp [hs]
theorem kl_len (fls : List Fl) (x : Int) (n : Nat) : (kl fls x n).length ≤ fls.length := by
  have h1 := List.length_filter_le (stays x) (fls.take n)
  have h2 : (fls.take n).length ≤ fls.length := by rw [List.length_take]; omega
  unfold kl
  omega
abbrev tNp : TypeId := 24
/-- What stays while the law goes on. -/
def CutI (w : World) (g bl : Nat) (x : Int) (fls : List Fl) (pre : List ElT) (W : World) : Prop :=
  W.heap[w.heap.size]? = some (.cells #[.pointer (some ⟨g, 0, none⟩)] tNp (0, 0)) ∧ W.heap[w.heap.size + 1]? = some (.cells #[.int .i64 x] tI (0, 0)) ∧ (∃ v, Boxed W bl tFls v ∧ W.ownsRow w.heap.size tFl 4 v (kl fls x pre.length).length (cellsOf (kl fls x pre.length)) ∧ True) ∧ Below w.heap.size w W
def CutA (fls : List Fl) (FR : Nat → Nat → Value → Act) (pre : List ElT) (x : ElT) (a' : Act) (W : World) : Prop := ∃ (Bx : Nat) (f : Fl), W.heap[Bx]? = some (.cells #[.int .i64 f.src, .int .i64 f.dst, x.2.sv] tPk (0, 0)) ∧ fls[pre.length]? = some f ∧ a' = FR Bx pre.length (.agg #[.int .i64 f.src, .int .i64 f.dst, x.2.sv])
theorem cell_below {w w1 : World} {p : Addr} {u : Value} (h : w.cell? p = some u) (hb : Below w.heap.size w w1) : w1.cell? p = some u := (hb.cell (World.block_lt_of_cell? _ _ h)).trans h
theorem kept_own {β : Type} {w : World} {B : Nat} {S : Nat → Prop} (hB : w.heap.size ≤ B) : OwnFrom B (fun (_ : β) W => Kept w W S) := fun s X Y row h hg hr => Kept.of_grown hg h (fun k e => .inr (by have := (hr k e).1; omega))
theorem postM_ret1 {F : Fence} {n D : Nat} {P : Program} {fn : Func} {R : Ending → World → Prop} {a : Act} {w : World} {v : Value} {args : Array Value} (hk : w.heap[D]? = some (.deferred (some []))) (hr : (results fn a.tmps).run P (w.putObj D (.deferred none)) = .ok v (w.putObj D (.deferred none))) (hd : a.defers = [{ target := .collected D, args := args }]) (hR : R (.returned v) (w.putObj D (.deferred none))) : postM F n P fn R .ret a w := by
  show LeavesInM F n P fn a.tmps R a.defers .returning w
  rw [hd]
  exact ⟨by simp, .inl ⟨D, _, rfl, run_takeDeferred hk, ⟨v, hr, hR⟩⟩⟩
/-- One more has come behind those that stay: what of the rest holds still. -/
theorem left_more {w W w5 : World} {bl : Nat} {As v5 : Value} {k1 k2 : Nat} {xs ys : List Value} (hw : w.heap.size ≤ W.heap.size) (hbl : w.heap.size ≤ bl) (hL : W.heap[bl]? = some (.cells #[As] tFls (0, 0))) (hR : W.ownsRow w.heap.size tFl 4 As k1 xs) (ho : w5.ownsRow w.heap.size tFl 4 v5 k2 ys) (hg : W.grownBy w5 As.ownBlock) :
    w5.heap[bl]? = some (.cells #[As] tFls (0, 0)) ∧ (w5.setCell ⟨bl, 0, none⟩ v5).heap[bl]? = some (.cells #[v5] tFls (0, 0)) ∧ (w5.setCell ⟨bl, 0, none⟩ v5).ownsRow w.heap.size tFl 4 v5 k2 ys ∧ KeepsOthers W (w5.setCell ⟨bl, 0, none⟩ v5) ∧ KeepT W (w5.setCell ⟨bl, 0, none⟩ v5) ∧
      (∀ (k : Nat) (cs : Array Value) (t : TypeId), W.heap[k]? = some (.cells cs t (0, 0)) → t ≠ tFls → t ≠ tFl → (w5.setCell ⟨bl, 0, none⟩ v5).heap[k]? = some (.cells cs t (0, 0))) ∧ Below w.heap.size W (w5.setCell ⟨bl, 0, none⟩ v5) := by
  have far : ∀ k, k ≠ bl → (w5.setCell ⟨bl, 0, none⟩ v5).heap[k]? = w5.heap[k]? := fun k hk => Below.heap_setCell w5 ⟨bl, 0, none⟩ v5 k hk
  have ne : ∀ {k t : Nat} {cs : Array Value}, W.heap[k]? = some (.cells cs t (0, 0)) → t ≠ tFl → As.ownBlock ≠ some k := fun {k t cs} hk ht e => by
    obtain ⟨cells, hc⟩ := own_typed hR k e
    rw [hk] at hc
    injection hc with hc
    injection hc with _ hc _
    exact ht hc
  have hb : w5.heap[bl]? = some (.cells #[As] tFls (0, 0)) := (hg.block bl (blk_lt hL) (fun e => ne hL (by decide) e.symm)).trans hL
  have hty : ∀ (k : Nat) (cs : Array Value) (t : TypeId), W.heap[k]? = some (.cells cs t (0, 0)) → t ≠ tFls → t ≠ tFl → (w5.setCell ⟨bl, 0, none⟩ v5).heap[k]? = some (.cells cs t (0, 0)) := fun k cs t hk h1 h2 => by
    rw [far k (fun e => by rw [e, hL] at hk; injection hk with hk; injection hk with _ hk _; exact h1 hk.symm)]
    exact (hg.block k (blk_lt hk) (fun e => ne hk h2 e.symm)).trans hk
  refine ⟨hb, by have := blk_set hb 0 v5; simpa using this, own_move ho (fun k hk => far k (fun e => by
      obtain ⟨cells, hc⟩ := own_typed ho k hk
      rw [e, hb] at hc
      injection hc with hc
      injection hc with _ hc _
      exact absurd hc (by decide))), (KeepsOthers.of_grownBy hg fun j o ej hj => ?_).trans (KeepsOthers.setCell _ _ _), ⟨by have := hg.size; simpa using this, fun k cs t hk ht => hty k cs t hk (by rcases ht with rfl | rfl | rfl <;> decide) (by rcases ht with rfl | rfl | rfl <;> decide)⟩, hty, ((Below.refl w.heap.size W).grown hg hw fun j ej => own_base hR j ej).setCell (p := ⟨bl, 0, none⟩) hbl v5⟩
  obtain ⟨cells, hc⟩ := own_typed hR j ej
  rw [hj] at hc
  cases hc
  rfl
section
variable {w w0 : World} {base g m : Nat} {O : Nat → Prop} {nd cl : Int} {v : Value} {fls : List Fl} {sent : List LtT}
theorem cutI_own {bl : Nat} {x : Int} {B : Nat} (hB : w.heap.size ≤ B) : OwnFrom B (CutI w g bl x fls) :=
  OwnFrom.and (block_own B _ (fun _ => .cells #[.pointer (some ⟨g, 0, none⟩)] tNp) (fun _ => rfl)) (OwnFrom.and (block_own B _ (fun _ => .cells #[.int .i64 x] tI) (fun _ => rfl)) (OwnFrom.and (Own.from (holdsRow_own w.heap.size bl tFls tFl 4 (fun pre : List ElT => (kl fls x pre.length).length) (fun pre => cellsOf (kl fls x pre.length)) (fun _ _ => True)) _) (ownFrom_below (Nat.le_refl _) hB)))
theorem cutA_own {FR : Nat → Nat → Value → Act} {B : Nat} (pre : List ElT) (x : ElT) (a' : Act) : OwnFrom B (fun (_ : Unit) W => CutA fls FR pre x a' W) := fun s X Y row hs hg hr => by
  obtain ⟨Bx, f, h1, h2, h3⟩ := hs
  exact ⟨Bx, f, block_own B Bx (fun _ : Unit => .cells #[.int .i64 f.src, .int .i64 f.dst, x.2.sv] tPk) (fun _ => rfl) () X Y row h1 hg hr, h2, h3⟩
theorem CutI.below {bl : Nat} {x : Int} {pre : List ElT} {W W1 : World} (h : CutI w g bl x fls pre W) (hb : Below W.heap.size W W1) : CutI w g bl x fls pre W1 := by
  obtain ⟨h1, h2, ⟨v, h3, h4, _⟩, h5⟩ := h
  exact ⟨blk_below h1 hb, blk_below h2 hb, ⟨v, blk_below h3 hb, pw_own_below h4 hb, trivial⟩, below_then h5 h5.size hb⟩
set_option maxHeartbeats 6400000 in
set_option maxRecDepth 100000 in
theorem cut_net (h : NetR w base O g m nd cl v fls sent) (x : Int) (hfl : fls.length ≤ 2199023255552) (HB : Below w0.heap.size w0 w) (hbs : base = w0.heap.size) :
    Calls Try.prog 29 #[.pointer (some ⟨g, 0, none⟩), .int .i64 x] w fun e w' => e = .returned (.int .i64 ((fls.length : Int) - ((fls.filter (stays x)).length : Int))) ∧ (∃ v', NetR w' base (fun k => O k ∨ w.heap.size ≤ k) g m nd cl v' (fls.filter (stays x)) sent) ∧ Kept w w' O ∧ Below w0.heap.size w0 w' := by
  have BA := below_alloc (Below.refl w.heap.size w) (.cells #[.pointer (some ⟨g, 0, none⟩)] tNp)
  have BS := Lib.hid (below_then BA BA.size (below_alloc (Below.refl _ _) (.cells #[.int .i64 x] tI)))
  have PP := Lib.hid (blk_below (blk_new w (.cells #[.pointer (some ⟨g, 0, none⟩)] tNp)) (below_alloc (Below.refl _ _) (.cells #[.int .i64 x] tI)))
  have PX : Hid (((w.alloc (.cells #[.pointer (some ⟨g, 0, none⟩)] tNp)).alloc (.cells #[.int .i64 x] tI)).heap[w.heap.size + 1]? = some (.cells #[.int .i64 x] tI (0, 0))) := by
    have := blk_new (w.alloc (.cells #[.pointer (some ⟨g, 0, none⟩)] tNp)) (.cells #[.int .i64 x] tI)
    rw [World.size_alloc] at this
    exact Lib.hid this
  have HN0 := Lib.hid h.bound
  have HN := Lib.hid (h.bound.below BS.out)
  have HOB := Lib.hid h.ob
  have HFL := Lib.hid hfl
  have HBW := Lib.hid HB
  have HBB := Lib.hid (show base ≤ w.heap.size by rw [hbs]; exact HB.size)
  have HBS := Lib.hid hbs
  clear BA h hfl HB hbs
  refine (callsIn_wide (n := 5)).1 ?_
  refine callsIn_of_wp_marks Try.func29 rfl trivial ?_ rfl
  refine wpIn_wide.2 ?_
  refine Code.wp_mono (fun e a w h => postM_le e a w h) ?_
  simp only [Try.ntmps29, List.size_toArray, List.length_cons, List.length_nil, Nat.reduceAdd, Nat.reduceSub, Array.replicate_succ, Array.replicate_zero, List.push_toArray, List.append_toArray, List.nil_append, List.cons_append]
  go_wp2_with fail
  generalize (World.alloc (World.alloc w _) _) = W at *
  refine (made_any HN.out.net).mono ?_
  rintro e w1 ⟨rfl, rfl⟩
  have cp := blk1 PP.out
  go_upto_region 4 with (fail)
  clear cp
  have BL := below_alloc (Below.refl W.heap.size W) (.cells #[.slice none 0 0] tFls)
  have PL := Lib.hid (blk_new W (.cells #[.slice none 0 0] tFls))
  have P2 := Lib.hid (blk_below PP.out BL)
  have X2 := Lib.hid (blk_below PX.out BL)
  have N2 := Lib.hid (HN.out.below BL)
  have B2 := Lib.hid (below_then BS.out BS.out.size BL)
  have HWS := Lib.hid BS.out.size
  clear BL PP PX HN BS
  generalize (World.alloc W _) = W2 at *
  have HBLE := Lib.hid (show w.heap.size ≤ W.heap.size from HWS.out)
  generalize W.heap.size = bl at *
  have cp := blk1 P2.out
  go_wp2_with fail
  refine (all_net N2.out HFL.out).mono ?_
  rintro e V ⟨b, sv, ps, rfl, hAR, hps, hbV⟩
  clear cp
  have AR := Lib.hid hAR
  have HPS := Lib.hid hps
  have I0 : Hid (CutI w g bl x fls [] V) := Lib.hid ⟨blk_below P2.out hbV, blk_below X2.out hbV, ⟨.slice none 0 0, blk_below PL.out hbV, own_nil _ _ _ _, trivial⟩, below_then B2.out B2.out.size hbV⟩
  have NV := Lib.hid (N2.out.below hbV)
  have HLP := Lib.hid (show ps.length = fls.length by have := congrArg List.length hps; simpa using this)
  clear hAR hps hbV P2 X2 PL N2 B2
  go_wp2_with fail
  refine (wpIn_wide (n := 5)).1 ?_
  refine range_tells rfl (by omega) (gf := 37) (lb := #[.pointer (some ⟨b, 0, none⟩)]) rfl trivial (enters_of Try.func37 (by kernel_rfl) rfl)
    (iter_tells AR.out (by rw [HLP.out]; exact HFL.out)) KeepT.trans KeepT.putObj (Below.refl _ _) (fun _ => rfl)
    (CutI w g bl x fls) (fun _ _ _ => False) (cutI_own I0.out.2.2.2.size) (fun c => fun s X Y row hs _ _ => hs.elim) I0.out
    (CutA fls (fun Bx j val => { tmps := #[.pointer (some ⟨g, 0, none⟩), .int .i64 x, .pointer (some ⟨w.heap.size, 0, none⟩), .pointer (some ⟨w.heap.size + 1, 0, none⟩), .int .i64 0, .pointer (some ⟨bl, 0, none⟩), .int .i64 (j : Nat), .pointer (some ⟨Bx, 0, none⟩), undef, .pointer (some ⟨g, 0, none⟩), .bool true, .bool false, .pointer (some ⟨g, 0, none⟩), .func (Fn.func 37) #[] #[.pointer (some ⟨b, 0, none⟩)], .int .i64 (j : Nat), val, undef, undef, undef, undef, undef, undef, undef, undef, undef, undef, undef, undef, undef, undef, undef, undef, undef, undef, undef, undef, undef, undef, undef, undef, undef, undef, undef, undef, undef, undef, undef, undef, undef], defers := [] })) cutA_own ?assign ?body ?done ?stop
  case assign =>
    rintro lp pre ⟨xi, xp⟩ Wb W K hIb hI hbw ⟨hx1, ⟨p0, hp0, hpl⟩, hxo⟩ hK
    simp only at hx1 hp0 hpl hxo
    subst hx1
    obtain ⟨f, hf, hfp⟩ : ∃ f, fls[pre.length]? = some f ∧ p0.plain = f.pk := by
      have h1 := congrArg (fun l => l[pre.length]?) HPS.out
      simp only [List.getElem?_map, hp0, Option.map_some] at h1
      cases hf : fls[pre.length]? with
      | none => rw [hf] at h1; cases h1
      | some f => rw [hf] at h1; exact ⟨f, rfl, Option.some.inj h1⟩
    obtain ⟨xs, xd, xv, xb⟩ := xp
    have he : ((xs, xd, xb) : PkT) = (f.src, f.dst, f.nb) := hpl.trans hfp
    simp only [Prod.mk.injEq] at he
    obtain ⟨rfl, rfl, rfl⟩ := he
    replace hxo : Ow W Wb.heap.size xv f.nb := hxo
    obtain ⟨A9, c9, rfl⟩ := own_slice hxo
    have HB := below_alloc (Below.refl W.heap.size W) (.cells #[.int .i64 f.src, .int .i64 f.dst, .slice A9 f.nb.length c9] tPk)
    have HK := Lib.hid (hK _ _ ((KeepsOthers.alloc _ _).from _) (KeepT.of_below HB) (hI.below HB) ⟨W.heap.size, f, blk_new W (.cells #[.int .i64 f.src, .int .i64 f.dst, .slice A9 f.nb.length c9] tPk), hf, rfl⟩)
    clear hK hI HB hIb hbw hp0 hpl hxo hf hfp
    simp only [elV]
    gi_wp2
    exact HK.out
  case body =>
    rintro lp pre x9 a' W ⟨hP, hX, ⟨vl, hL, hR, _⟩, hB⟩ ⟨Bx, f, hbx, hf, rfl⟩
    obtain ⟨As, cs, rfl⟩ := own_slice hR
    have HP := Lib.hid hP
    have HX := Lib.hid hX
    have HL := Lib.hid hL
    have HR := Lib.hid hR
    have HB := Lib.hid hB
    have HF := Lib.hid hf
    have HBX := Lib.hid hbx
    have cx := blkc hbx
    have ca := blk1 hX
    have KB := Lib.hid (kl_succ (x := x) hf)
    clear hP hX hL hR hB hbx hf
    by_cases h1 : f.src = x
    · have d1 : (f.src != x) = false := by simp [h1]
      have HS := Lib.hid (show stays x f = false by simp [stays, h1])
      clear h1
      have HIN := Lib.hid (show CutI w g bl x fls (pre ++ [x9]) W from ⟨HP.out, HX.out, ⟨_, HL.out, by rw [List.length_append, List.length_singleton, KB.out, if_neg (by rw [HS.out]; decide)]; exact HR.out, trivial⟩, HB.out⟩)
      gi_wp2
      exact ⟨KeepsFrom.refl _ _, KeepT.of_below (Below.refl _ _), HIN.out⟩
    · have d1 : (f.src != x) = true := by simpa using h1
      by_cases h2 : f.dst = x
      · have d2 : (f.dst != x) = false := by simp [h2]
        have HS := Lib.hid (show stays x f = false by simp [stays, h2])
        clear h1 h2
        have HIN := Lib.hid (show CutI w g bl x fls (pre ++ [x9]) W from ⟨HP.out, HX.out, ⟨_, HL.out, by rw [List.length_append, List.length_singleton, KB.out, if_neg (by rw [HS.out]; decide)]; exact HR.out, trivial⟩, HB.out⟩)
        gi_wp2
        exact ⟨KeepsFrom.refl _ _, KeepT.of_below (Below.refl _ _), HIN.out⟩
      · have d2 : (f.dst != x) = true := by simpa using h2
        have HS := Lib.hid (show stays x f = true by simp [stays, h1, h2])
        clear h1 h2
        gi_wp2
        clear cx ca
        have NW := Lib.hid (HN0.out.below HB.out)
        have PD := Lib.hid (blk_drew HP.out)
        have LD := Lib.hid (blk_drew HL.out)
        have ND := Lib.hid (NW.out.move (w1 := W.drew) (fun _ _ _ => rfl))
        have RD := Lib.hid (show W.drew.ownsRow w.heap.size tFl 4 (.slice As (kl fls x pre.length).length cs) (kl fls x pre.length).length (cellsOf (kl fls x pre.length)) from HR.out)
        have BD := Lib.hid HB.out.drew
        obtain ⟨ad, c9, hv9, hc9, hob, y0, y1, y2, y3⟩ := ND.out.way.at HF.out
        have FR := ND.out.fl f (List.mem_of_getElem? HF.out)
        obtain ⟨A1, c1, hv1, _, _⟩ := FR.s.reads
        obtain ⟨A2, c2, hv2, _, _⟩ := FR.n.reads
        rw [hv1] at y2
        rw [hv2] at y3
        subst hv9
        have HV := Lib.hid (And.intro hv1 hv2)
        have HY := Lib.hid (And.intro y0 (And.intro y1 (And.intro y2 y3)))
        have BX := Lib.hid (below_alloc (Below.refl W.drew.heap.size W.drew) (.cells #[.int .i64 f.src, .int .i64 f.dst, .slice A1 f.sb.length c1, .slice A2 f.nb.length c2] tFl))
        have p0 := eq_true (show 0 ≤ (pre.length : Int) by omega)
        have p1 := eq_true (List.getElem?_eq_some_iff.1 HF.out).1
        have HKL := Lib.hid (show ((kl fls x pre.length).length + 1) * 64 ≤ 140737488355328 by
          have h1 := kl_len fls x (pre.length + 1)
          rw [KB.out, if_pos HS.out, List.length_append, List.length_singleton] at h1
          have := HFL.out
          omega)
        have HWB := Lib.hid (show w.heap.size ≤ W.drew.heap.size from HB.out.size)
        have HBL := Lib.hid HBLE.out
        clear hc9 hob y0 y1 y2 y3 hv1 hv2 FR
        refine startIn_ (n := 11) (S := fun w' => w'.cell? ⟨bl, 0, none⟩ = some (.slice As (kl fls x pre.length).length cs) ∧ w'.cell? ⟨w.heap.size, 0, none⟩ = some (.pointer (some ⟨g, 0, none⟩)) ∧ (∀ o, w'.cell? ⟨g, o, none⟩ = #[Value.int .i64 nd, .int .i64 cl, .slice (some ad) fls.length c9, .map (some m)][o]?) ∧ w'.cell? (ad.add (pre.length * 4)) = some (.int .i64 f.src) ∧ w'.cell? ⟨(ad.add (pre.length * 4)).block, (ad.add (pre.length * 4)).off + 1, none⟩ = some (.int .i64 f.dst) ∧ w'.cell? ⟨(ad.add (pre.length * 4)).block, (ad.add (pre.length * 4)).off + 2, none⟩ = some (.slice A1 f.sb.length c1) ∧ w'.cell? ⟨(ad.add (pre.length * 4)).block, (ad.add (pre.length * 4)).off + 3, none⟩ = some (.slice A2 f.nb.length c2)) (ds := [9, 10]) #[false, false, false, false, false, false, false, false, false, false, false] (by kernel_rfl) rfl rfl ⟨(blk1 LD.out), (blk1 PD.out), (blkc ND.out.net), HY.out.1, HY.out.2.1, HY.out.2.2.1, HY.out.2.2.2⟩ (fun hHeld => ?_)
        refine pure_ (i := 5) (N := some 31) (v := ?_) (a' := ?_) #[false, false, false, false, false, true, false, false, false, false, false] rfl rfl (by kernel_rfl) (fun _ _ _ h => h) (Or.inl ⟨by rfl, ?_⟩) ?_ ?_
        rotate_left
        · intro w'
          go_simp
          with_reducible rfl
        rotate_left
        · simp only [Act.put, List.setIfInBounds_toArray, List.set_cons_zero, List.set_cons_succ, i64_w, i32_w]
          rfl
        refine take_ (i := 0) (N := some 26) (v := ?_) (a' := ?_) #[true, false, false, false, false, true, false, false, false, false, false] rfl rfl (by kernel_rfl) (fun _ _ _ h => h) (Or.inl ⟨by rfl, ?_⟩) hHeld ?_ ?_
        rotate_left
        · rintro w' ⟨s0, s1, s2, s3, s4, s5, s6⟩
          go_simp
          with_reducible rfl
        rotate_left
        · simp only [Act.put, List.setIfInBounds_toArray, List.set_cons_zero, List.set_cons_succ, i64_w, i32_w]
          rfl
        refine take_ (i := 1) (N := some 27) (v := ?_) (a' := ?_) #[true, true, false, false, false, true, false, false, false, false, false] rfl rfl (by kernel_rfl) (fun _ _ _ h => h) (Or.inl ⟨by rfl, ?_⟩) hHeld ?_ ?_
        rotate_left
        · rintro w' ⟨s0, s1, s2, s3, s4, s5, s6⟩
          go_simp
          with_reducible rfl
        rotate_left
        · simp only [Act.put, List.setIfInBounds_toArray, List.set_cons_zero, List.set_cons_succ, i64_w, i32_w]
          rfl
        refine pure_ (i := 2) (N := some 28) (v := ?_) (a' := ?_) #[true, true, true, false, false, true, false, false, false, false, false] rfl rfl (by kernel_rfl) (fun _ _ _ h => h) (Or.inl ⟨by rfl, ?_⟩) ?_ ?_
        rotate_left
        · intro w'
          go_simp
          with_reducible rfl
        rotate_left
        · simp only [Act.put, List.setIfInBounds_toArray, List.set_cons_zero, List.set_cons_succ, i64_w, i32_w]
          rfl
        refine pure_ (i := 3) (N := some 29) (v := ?_) (a' := ?_) #[true, true, true, true, false, true, false, false, false, false, false] rfl rfl (by kernel_rfl) (fun _ _ _ h => h) (Or.inl ⟨by rfl, ?_⟩) ?_ ?_
        rotate_left
        · intro w'
          go_simp
          with_reducible rfl
        rotate_left
        · simp only [Act.put, List.setIfInBounds_toArray, List.set_cons_zero, List.set_cons_succ, i64_w, i32_w]
          rfl
        refine take_ (i := 4) (N := some 30) (v := ?_) (a' := ?_) #[true, true, true, true, true, true, false, false, false, false, false] rfl rfl (by kernel_rfl) (fun _ _ _ h => h) (Or.inl ⟨by rfl, ?_⟩) hHeld ?_ ?_
        rotate_left
        · rintro w' ⟨s0, s1, s2, s3, s4, s5, s6⟩
          go_simp
          with_reducible rfl
        rotate_left
        · simp only [Act.put, List.setIfInBounds_toArray, List.set_cons_zero, List.set_cons_succ, i64_w, i32_w]
          rfl
        refine pure_ (i := 6) (N := some 32) (v := ?_) (a' := ?_) #[true, true, true, true, true, true, true, false, false, false, false] rfl rfl (by kernel_rfl) (fun _ _ _ h => h) (Or.inl ⟨by rfl, ?_⟩) ?_ ?_
        rotate_left
        · intro w'
          go_simp
          with_reducible rfl
        rotate_left
        · simp only [Act.put, List.setIfInBounds_toArray, List.set_cons_zero, List.set_cons_succ, i64_w, i32_w]
          rfl
        refine take_ (i := 7) (N := some 33) (v := ?_) (a' := ?_) #[true, true, true, true, true, true, true, true, false, false, false] rfl rfl (by kernel_rfl) (fun _ _ _ h => h) (Or.inl ⟨by rfl, ?_⟩) hHeld ?_ ?_
        rotate_left
        · rintro w' ⟨s0, s1, s2, s3, s4, s5, s6⟩
          go_simp
          with_reducible rfl
        rotate_left
        · simp only [Act.put, List.setIfInBounds_toArray, List.set_cons_zero, List.set_cons_succ, i64_w, i32_w]
          rfl
        refine one_ (i := 8) (N := some 34) #[true, true, true, true, true, true, true, true, true, false, false] rfl rfl (by kernel_rfl) (by decide) (fun K hK => ?_)
        refine value_ (w1 := ?_) (v := ?_) (by rfl) rfl ?_ ?_
        rotate_left 2
        · go_simp
          constructor
          · rfl
          · rfl
        refine hK.out _ _ ⟨(blk1 (blk_below LD.out BX.out)), (blk1 (blk_below PD.out BX.out)), (blkc (ND.out.below BX.out).net), (cell_below HY.out.1 BX.out), (cell_below HY.out.2.1 BX.out), (cell_below HY.out.2.2.1 BX.out), (cell_below HY.out.2.2.2 BX.out)⟩ (fun hHeld => ?_)
        clear hK K
        refine norm_ (a' := ?_) ?_ ?_
        rotate_left
        · show Act.put _ (some 34) _ = _
          simp only [Act.put, List.setIfInBounds_toArray, List.set_cons_zero, List.set_cons_succ, i64_w, i32_w]
          rfl
        refine last_ (i := 9) (N := some 35) #[true, true, true, true, true, true, true, true, true, true, false] rfl rfl (by kernel_rfl) (by decide) (fun K hK => ?_)
        refine step_append_cells (w0 := w) w.heap.size (by rfl) (.tmp 26) (.tmp 34) tFls tFl (.agg #[.int .i64 0, .int .i64 0, .slice none 0 0, .slice none 0 0]) 4 64 rfl Try.underlying68 infoFl rfl (by decide) (by decide) (.slice As (kl fls x pre.length).length cs) (kl fls x pre.length).length (cellsOf (kl fls x pre.length)) [.int .i64 f.src, .int .i64 f.dst, .slice A1 f.sb.length c1, .slice A2 f.nb.length c2] rfl rfl rfl (by intro u hu; simp only [List.mem_cons, List.not_mem_nil, or_false] at hu; rcases hu with rfl | rfl | rfl | rfl <;> rfl) RD.out BD.out HWB.out HKL.out ?_
        intro v5 w5 ho5 hb5 hg5 hat5
        obtain ⟨A5, c5, rfl⟩ := own_slice ho5
        have LM := Lib.hid (left_more HWB.out HBL.out LD.out RD.out ho5 hg5)
        clear ho5 hb5 hg5 hat5
        refine hK.out _ _ ?_
        clear hK K
        refine norm_ (a' := ?_) ?_ ?_
        rotate_left
        · show Act.put _ (some 35) _ = _
          simp only [Act.put, List.setIfInBounds_toArray, List.set_cons_zero, List.set_cons_succ, i64_w, i32_w]
          rfl
        refine last_ (i := 10) (N := none) #[true, true, true, true, true, true, true, true, true, true, true] rfl rfl (by kernel_rfl) (by decide) (fun K hK => ?_)
        have zx := blkz LM.out.1
        have cx5 := blk1 LM.out.1
        refine skip_ (w1 := ?_) (by rfl) rfl ?_ ?_
        rotate_left
        · go_simp
          rfl
        refine hK.out _ _ ?_
        clear hK K
        refine done_ (by kernel_rfl) ?_
        have HIN := Lib.hid (show CutI w g bl x fls (pre ++ [x9]) (w5.setCell ⟨bl, 0, none⟩ (.slice A5 ((kl fls x pre.length).length + 1) c5)) from ⟨LM.out.2.2.2.2.2.1 _ _ _ PD.out (by decide) (by decide), LM.out.2.2.2.2.2.1 _ _ _ (blk_drew HX.out) (by decide) (by decide), ⟨_, LM.out.2.1, by rw [List.length_append, List.length_singleton, KB.out, if_pos HS.out, List.length_append, List.length_singleton, cellsOf_append, cellsOf_one]; unfold Fl.cells; rw [HV.out.1, HV.out.2]; exact LM.out.2.2.1, trivial⟩, BD.out.trans LM.out.2.2.2.2.2.2⟩)
        exact ⟨((KeepsOthers.drew W).trans LM.out.2.2.2.1).from _, KeepT.trans (KeepT.of_below (Below.refl W.heap.size W).drew) LM.out.2.2.2.2.1, HIN.out⟩
  case done =>
    rintro D xs W hD hS ⟨hP, hX, ⟨vl, hL, hR, _⟩, hB⟩ hK
    have hlen : xs.length = fls.length := by rw [hS.1, HLP.out]
    have hkl : kl fls x xs.length = fls.filter (stays x) := by unfold kl; rw [hlen, List.take_length]
    have hle : (fls.filter (stays x)).length ≤ fls.length := List.length_filter_le _ _
    rw [hkl] at hR
    obtain ⟨n, hn⟩ : ∃ n, (fls.filter (stays x)).length = n := ⟨_, rfl⟩
    rw [hn] at hR hle
    obtain ⟨As, cs, rfl⟩ := own_slice hR
    have HP := Lib.hid hP
    have HL := Lib.hid hL
    have HR := Lib.hid hR
    have HB := Lib.hid hB
    have HN := Lib.hid hn
    have DD := Lib.hid hK
    have HDW := Lib.hid (Nat.le_trans I0.out.2.2.2.size hD)
    have HW3 := Lib.hid (show wrap64 ((fls.length : Int) - (n : Int)) = (fls.length : Int) - (n : Int) by have := HFL.out; unfold wrap64; omega)
    have NW := Lib.hid (HN0.out.below hB)
    obtain ⟨A0, c0, hv0, _⟩ := NW.out.way.slice
    subst hv0
    have cn := blkc NW.out.net
    have cp := blk1 HP.out
    have cl := hL.cell
    clear hP hX hL hR hB hS hK hD hlen hkl hn I0 AR HPS NV
    go_upto_region 9 with (fail)
    go_quiet (fail)
    clear cn cp cl
    have ND := Lib.hid (NW.out.move (w1 := W.drewN nq) (fun _ _ _ => rfl))
    have cn := blkc ND.out.net
    have zn := blkz ND.out.net
    have cp := blk1 (show (W.drewN nq).heap[w.heap.size]? = _ from HP.out)
    have cl := blk1 (show (W.drewN nq).heap[bl]? = _ from HL.out)
    have hgw : g < w.heap.size := ND.out.og.2
    have hov : ∀ k, (Value.slice As n cs).ownBlock = some k → w.heap.size ≤ k ∧ ∃ cells, W.heap[k]? = some (.cells cells tFl (0, 0)) := fun k hk => ⟨own_base HR.out k hk, own_typed HR.out k hk⟩
    have F1 := Lib.hid (netR_way (O := fun k => (O k ∧ k < w.heap.size) ∨ (Value.slice As n cs).ownBlock = some k) (v' := .slice As n cs) (fls' := fls.filter (stays x)) ND.out.net ND.out.mp (.inl ND.out.og) (.inl ND.out.om) (fun k hk => hk.elim (fun h => HOB.out k h.1) (fun h => Nat.le_trans HBB.out (hov k h).1)) ND.out.nn ND.out.nc
      (.inl (by rw [HN.out]; exact own_weaken (show (W.drewN nq).ownsRow w.heap.size tFl 4 _ _ _ from HR.out) HBB.out)) (fun f hf => (ND.out.fl f (List.mem_filter.1 hf).1).mono (fun k hk => .inl hk)) (ND.out.sep.filter _) (fun k hk => .inr hk))
    have KD := Lib.hid (show ((W.drewN nq).setCell ⟨g, 2, none⟩ (.slice As n cs)).heap[D]? = some (.deferred (some [])) from (Below.heap_setCell (W.drewN nq) ⟨g, 2, none⟩ _ D (by have := HDW.out; show D ≠ g; omega)).trans DD.out)
    have hne : ∀ k, ((O k ∧ k < w.heap.size) ∨ (Value.slice As n cs).ownBlock = some k) → k ≠ D := fun k hk e => by
      rcases hk with h | h
      · have := HDW.out; omega
      · obtain ⟨_, cells, hc⟩ := hov k h
        rw [e, DD.out] at hc
        cases hc
    have F2 := Lib.hid ((F1.out.move (w1 := ((W.drewN nq).setCell ⟨g, 2, none⟩ (.slice As n cs)).putObj D (.deferred none)) (fun k hk _ => World.putObj_heap_other (hne k hk))).mono (O' := fun k => O k ∨ w.heap.size ≤ k) (fun k hk => hk.elim (fun h => .inl h.1) (fun h => .inr (hov k h).1)) (fun k hk => hk.elim (HOB.out k) (fun h => Nat.le_trans HBB.out h)))
    have KF := Lib.hid ((kept_own (β := Unit) (w := w) (S := O) (B := w.heap.size) (Nat.le_refl _)).putObj (s := ()) (.deferred none) ((Kept.of_below (show Below w.heap.size w (W.drewN nq) from (pw_below_drewN HB.out nq)) O).setCell (p := ⟨g, 2, none⟩) (.inl ND.out.og.1) (.slice As n cs)) HDW.out KD.out rfl)
    have BF := Lib.hid (((below_then HBW.out HBW.out.size (pw_below_drewN HB.out nq)).setCell (p := ⟨g, 2, none⟩) (show w0.heap.size ≤ g by rw [← HBS.out]; exact HOB.out g ND.out.og.1) (.slice As n cs)).trans (belowK_b (w := w) HBW.out.size _ D _ (.deferred none) HDW.out KD.out rfl rfl))
    clear hov hne hgw ND NW HN0 HOB
    generalize W.drewN nq = W9 at *
    have hw3 := HW3.out
    go_wp2_with fail
    (try simp only [Exit.inBlock, Exit.then])
    refine postM_ret1 KD.out (results_tmp rfl _ _ _) rfl ?_
    rw [HN.out]
    exact ⟨congrArg (fun t => Ending.returned (Value.int .i64 t)) hw3, ⟨_, F2.out⟩, KF.out, BF.out⟩
  case stop =>
    rintro D c pre W hD hp
    exact hp.elim
end
end Go.Proofs.Ytpjbgcpieijeaaa.Net
