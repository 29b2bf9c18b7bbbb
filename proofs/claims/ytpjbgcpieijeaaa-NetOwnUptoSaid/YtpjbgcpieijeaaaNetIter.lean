/- All's iterator: what it tells each round. -/
import Derived.Test.YtpjbgcpieijeaaaNetAll
import Derived.Shelf.RegionOpen
import Derived.OwnWalkIn
import Derived.TacticsInMore
import Derived.Stop.RegionWithIn
set_option linter.unusedVariables false
set_option linter.unusedSimpArgs false
namespace Go.Proofs.Ytpjbgcpieijeaaa.Net
open Go.RowKit Go.Proofs.Ytpjbgcpieijeaaa.Mem Go.Proofs.YtpjbgcpieijeaaaW.PrintWords Go.Proofs.YtpjbgcpieijeaaaW.PrintLast Go.Proofs.Ytpjbgcpieijeaaa.Byt Go.Proofs.Ytpjbgcpieijeaaa.Opn Go.Deep
theorem room_wide_all (k : Nat) : Fence.wide.room k := fun d h => by cases h
theorem roundIn_anyDepth {m m' : Nat} {P : Program} {l : Nat} {f : FuncId} {tmps : Array Value} {assign body : Code} {w : World} {R : Ending → World → Prop}
    (h : RoundIn Fence.wide m P l f tmps assign body w R) : RoundIn Fence.wide m' P l f tmps assign body w R := ⟨h.1, fun c cs _ => h.2 c cs (room_wide_all _)⟩
theorem yieldAt_anyDepth {m : Nat} (m' : Nat) {P : Program} {l : Nat} {args : Array Value} {W : World} {R : Ending → World → Prop} (h : YieldAt Fence.wide m P l args W R) : YieldAt Fence.wide m' P l args W R := by
  obtain ⟨fn, tmps, assign, body, hy, hR⟩ := h
  exact ⟨fn, tmps, assign, body, hy, roundIn_anyDepth hR⟩
/-- What a round must leave as it lies: packets, lists of them, bytes. -/
def KeepT (W W' : World) : Prop := W.heap.size ≤ W'.heap.size ∧ ∀ (k : Nat) (cs : Array Value) (t : TypeId), W.heap[k]? = some (.cells cs t (0, 0)) → (t = tPk ∨ t = tPks ∨ t = tU8) → W'.heap[k]? = some (.cells cs t (0, 0))
theorem KeepT.trans {A B C : World} (h : KeepT A B) (k : KeepT B C) : KeepT A C := ⟨Nat.le_trans h.1 k.1, fun i cs t hi ht => k.2 i cs t (h.2 i cs t hi ht) ht⟩
theorem KeepT.of_below {A B : World} (h : Below A.heap.size A B) : KeepT A B := ⟨h.size, fun i cs t hi _ => blk_below hi h⟩
theorem KeepT.putObj (W : World) (l : Nat) (o o' : Obj) (h : W.heap[l]? = some o) (hc : o.isCells = false) : KeepT W (W.putObj l o') :=
  ⟨by simp, fun k cs t hk _ => by
    have hne : k ≠ l := fun e => by subst e; rw [h] at hk; cases hk; cases hc
    exact (World.putObj_heap_other hne).trans hk⟩
theorem AllR.keepT {w w1 : World} {base b : Nat} {sv : Value} {ps : List Pv} (h : AllR w base b sv ps) (hk : KeepT w w1) : AllR w1 base b sv ps :=
  ⟨hk.2 b _ _ h.box (.inr (.inl rfl)), h.bb, own_move h.row (fun k hk2 => by obtain ⟨cs, hc⟩ := own_typed h.row k hk2; rw [hk.2 k _ _ hc (.inl rfl), hc]), fun p hp => ⟨(h.own p hp).1.move (fun k hk2 => by obtain ⟨cs, hc⟩ := (h.own p hp).1.typed hk2; rw [hk.2 k _ _ hc (.inr (.inr rfl)), hc]), (h.own p hp).2⟩⟩
/-- An element as it is yielded: its number, and a packet with bytes of its own. -/
abbrev ElT := Nat × Pv
def elV (x : ElT) : Array Value := #[.int .i64 (x.1 : Int), .agg #[.int .i64 x.2.src, .int .i64 x.2.dst, x.2.sv]]
def Xof (ps : List Pv) (pre : List ElT) (x : ElT) (Wb W : World) : Prop := x.1 = pre.length ∧ (∃ p0, ps[pre.length]? = some p0 ∧ x.2.plain = p0.plain) ∧ Ow W Wb.heap.size x.2.sv x.2.bs
def Sof (ps : List Pv) (xs : List ElT) : Prop := xs.length = ps.length ∧ ∀ (j : Nat) (x : ElT), xs[j]? = some x → x.1 = j ∧ ∃ p0, ps[j]? = some p0 ∧ x.2.plain = p0.plain
section
variable {w : World} {base b : Nat} {sv : Value} {ps : List Pv}
set_option maxHeartbeats 12800000 in
set_option maxRecDepth 100000 in
theorem iter_tells {n : Nat} (h : AllR w base b sv ps) (hl : ps.length ≤ 2199023255552) : Tells Fence.wide n Try.prog 37 #[.pointer (some ⟨b, 0, none⟩)] elV KeepT (Xof ps) (Sof ps) w := by
  intro l J Jx W hW hJ hJx hY h0
  obtain ⟨As, cs, rfl⟩ := own_slice h.row
  have HA := Lib.hid (h.below hW)
  have HJ := Lib.hid hJ
  have HY := Lib.hid hY
  have H0 := Lib.hid h0
  have HL := Lib.hid hl
  have cb := blk1 (h.below hW).box
  clear h hJ hJx hY h0 hl hW
  show CallsIn Fence.wide n Try.prog 37 #[.func (.yield l) #[] #[], .pointer (some ⟨b, 0, none⟩)] W _
  refine callsIn_of_wp Try.func37 rfl trivial ?_ rfl
  refine wpIn_wide.2 ?_
  simp only [Try.ntmps37, List.size_toArray, List.length_cons, List.length_nil, Nat.reduceAdd, Nat.reduceSub, Array.replicate_succ, Array.replicate_zero, List.push_toArray, List.append_toArray, List.nil_append, List.cons_append]
  go_wp2_with fail
  clear cb
  go_loopg [7] ps.length (fun kq v7 w' => ∃ (j : Nat), v7 = .int .i64 (j : Int) ∧ Hid (j + kq = ps.length) ∧ ∃ xs : List ElT, Hid (xs.length = j ∧ ∀ (i : Nat) (x : ElT), xs[i]? = some x → x.1 = i ∧ ∃ p0, ps[i]? = some p0 ∧ x.2.plain = p0.plain) ∧ Hid (J xs w') ∧ Hid (AllR w' base b (.slice As ps.length cs) ps) ∧ Hid (W.heap.size ≤ w'.heap.size))
  case atStart => exact ⟨0, rfl, (show _ + _ = _ by omega), [], ⟨rfl, fun i x hx => by simp at hx⟩, H0.out, HA.out, Nat.le_refl _⟩
  case round =>
    obtain ⟨j, rfl, HI, xs, HX, HJJ, HAA, HSZ⟩ := hrel
    cases gk with
    | zero =>
      have hj : j = ps.length := HI.out
      have d1 : decide (j < ps.length) = false := decide_eq_false (by omega)
      have HS := Lib.hid (show Sof ps xs from ⟨by rw [HX.out.1, hj], HX.out.2⟩)
      clear hj HI
      go_wp2_with fail
      go_end0
      exact ⟨⟨_, rfl⟩, .inl ⟨xs, HS.out, HJJ.out⟩⟩
    | succ k1 =>
      have hj : j < ps.length := by have := HI.out; omega
      have d1 : decide (j < ps.length) = true := decide_eq_true hj
      obtain ⟨p, hp⟩ : ∃ p, ps[j]? = some p := ⟨_, List.getElem?_eq_getElem hj⟩
      obtain ⟨ad, c9, hv9, hc9, y0, y1, y2⟩ := HAA.out.row.at hp
      cases hv9
      have HO := Lib.hid (HAA.out.own p (List.mem_of_getElem? hp))
      obtain ⟨A2, c2, hv2, _, hC2⟩ := HO.out.1.reads
      rw [hv2] at y2
      have ba := below_alloc (Below.refl wr.heap.size wr) (.cells #[.int .i64 p.src, .int .i64 p.dst, .slice A2 p.bs.length c2] tPk)
      have P2 := Lib.hid (blk_new wr (.cells #[.int .i64 p.src, .int .i64 p.dst, .slice A2 p.bs.length c2] tPk))
      have B2 := Lib.hid ba
      have C2 := Lib.hid (Kd.C_below hC2 ba)
      have p0 := eq_true (show 0 ≤ (j : Int) by omega)
      have p1 := eq_true hj
      have HP := Lib.hid hp
      have HW3 := Lib.hid (show wrap64 ((j : Int) + 1) = ((j + 1 : Nat) : Int) by have := HL.out; unfold wrap64; omega)
      clear hp hc9 hv2 hC2 ba hj
      go_upto_region 3 with (fail)
      clear y0 y1 y2 p0 p1
      generalize (World.alloc wr _) = W2 at *
      generalize hq : wr.heap.size = q at *
      have HQ := Lib.hid hq
      have cq := blkc P2.out
      go_wp2_with fail
      refine (clone_any C2.out (by have := HO.out.2.1; omega)).mono ?_
      rintro e w3 ⟨v3, rfl, ho3, hb3⟩
      obtain ⟨A3, c3, rfl⟩ := own_slice ho3
      have P3 := Lib.hid (blk_below P2.out hb3)
      have hq2 : q < W2.heap.size := blk_lt P2.out
      have B3 := Lib.hid (show Below wr.heap.size wr (w3.setCell ⟨q, 2, none⟩ (.slice A3 p.bs.length c3)) from Below.setCell (p := ⟨q, 2, none⟩) (below_then (show Below wr.heap.size wr W2 by rw [HQ.out]; exact B2.out) (by rw [HQ.out]; omega) hb3) (by rw [HQ.out]; exact Nat.le_refl _) _)
      have P4 := Lib.hid (show (w3.setCell ⟨q, 2, none⟩ (.slice A3 p.bs.length c3)).heap[q]? = some (.cells #[.int .i64 p.src, .int .i64 p.dst, .slice A3 p.bs.length c3] tPk (0, 0)) from by have := blk_set P3.out 2 (.slice A3 p.bs.length c3); simpa using this)
      have O4 := Lib.hid (show Ow (w3.setCell ⟨q, 2, none⟩ (.slice A3 p.bs.length c3)) wr.heap.size (.slice A3 p.bs.length c3) p.bs from (Ow.far (p := ⟨q, 2, none⟩) ho3 hq2 _).lower (by rw [HQ.out]; omega))
      clear cq hb3 ho3 hq2
      have cq := blkc P3.out
      have zq := blkz P3.out
      go_upto_region 4 with (fail)
      clear cq zq
      generalize (World.setCell w3 _ _) = W4 at *
      have J4 := HJ.out xs wr W4 none HJJ.out (grown_of_below B3.out none) (fun r e => by cases e)
      obtain ⟨fn, tmps, assign, body, hy1, hR⟩ := yieldAt_anyDepth 4 (HY.out xs (j, ⟨p.src, p.dst, .slice A3 p.bs.length c3, p.bs⟩) wr W4 HJJ.out J4 B3.out ⟨HX.out.1.symm, ⟨p, by rw [HX.out.1]; exact HP.out, rfl⟩, O4.out⟩)
      have HR := Lib.hid (hR.mono (R' := fun e W' => ∃ bb : Bool, e = .returned (.bool bb) ∧ Hid ((bb = true ∧ J (xs ++ [(j, ⟨p.src, p.dst, .slice A3 p.bs.length c3, p.bs⟩)]) W' ∧ KeepT W4 W') ∨ (bb = false ∧ Jx (xs ++ [(j, ⟨p.src, p.dst, .slice A3 p.bs.length c3, p.bs⟩)]) W'))) (fun e W' h => h.elim (fun ⟨h1, h2⟩ => ⟨true, h1, Lib.hid (.inl ⟨rfl, h2⟩)⟩) (fun ⟨h1, h2⟩ => ⟨false, h1, Lib.hid (.inr ⟨rfl, h2⟩)⟩)))
      simp only [elV] at hy1
      have A4 := Lib.hid (HAA.out.below B3.out)
      have HS4 := Lib.hid B3.out.size
      have cq := blkc P4.out
      clear J4 hR P2 P3 C2 O4 hq
      refine (wpIn_wide (n := 5)).1 ?_
      gi_wp2_with ((try refine ⟨fun h => (by cases h), ?_⟩); refine HR.out.mono ?_; rintro e W6 ⟨bb, rfl, HPP⟩)
      rcases HPP.out with ⟨rfl, h1, h2⟩ | ⟨rfl, h1⟩
      · have HJN := Lib.hid h1
        have HKN := Lib.hid h2
        clear h1 h2 HPP
        go_wp2_with fail
        go_roundg k1
        case measure => exact Nat.lt_succ_self _
        case rel =>
          refine ⟨j + 1, by first | rfl | rw [HW3.out] | exact congrArg (Value.int .i64) HW3.out, Lib.hid (by have := HI.out; omega), xs ++ [(j, ⟨p.src, p.dst, .slice A3 p.bs.length c3, p.bs⟩)], Lib.hid ⟨by rw [List.length_append, HX.out.1]; rfl, fun i x hx => ?_⟩, HJN, Lib.hid (A4.out.keepT HKN.out), Lib.hid (by have h1 := HSZ.out; have h2 := HS4.out; have h3 := HKN.out.1; have h4 := HQ.out; omega)⟩
          rcases Nat.lt_or_ge i xs.length with hl | hl
          · rw [List.getElem?_append_left hl] at hx
            exact HX.out.2 i x hx
          · rw [List.getElem?_append_right hl] at hx
            have h0 : i - xs.length = 0 := by
              rcases Nat.eq_zero_or_pos (i - xs.length) with h0 | h0
              · exact h0
              · rw [List.getElem?_eq_none (by simp only [List.length_singleton]; omega)] at hx
                cases hx
            rw [h0] at hx
            have hx2 := (Option.some.inj hx).symm
            have hij : i = j := by have := HX.out.1; omega
            rw [hx2, hij]
            exact ⟨rfl, p, HP.out, rfl⟩
      · have HJN := Lib.hid h1
        clear h1 HPP
        go_wp2_with fail
        exact bodyPost_ret (results_none rfl _ _ _) rfl ⟨⟨_, rfl⟩, .inr ⟨_, HJN.out⟩⟩
end
end Go.Proofs.Ytpjbgcpieijeaaa.Net
