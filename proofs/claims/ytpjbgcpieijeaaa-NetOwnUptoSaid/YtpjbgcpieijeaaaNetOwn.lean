/- NetOwn, walked. -/
import Derived.Test.YtpjbgcpieijeaaaNetHeld2
import Derived.Deep.CutRange
set_option linter.unusedVariables false
set_option linter.unusedSimpArgs false
namespace Go.Proofs.Ytpjbgcpieijeaaa.Net
open Go.RowKit Go.Proofs.Ytpjbgcpieijeaaa.Mem Go.Proofs.YtpjbgcpieijeaaaW.PrintWords Go.Proofs.YtpjbgcpieijeaaaW.PrintLast Go.Proofs.Ytpjbgcpieijeaaa.Byt Go.Proofs.Ytpjbgcpieijeaaa.Opn Go.Deep Go.ChangeMaps
attribute [local go_sem] Oper.semAt_some
/-- A value that is told later. -/
theorem with_fr {T : Type} {G : Prop} (x : T) (h : G) : G := h
set_option maxHeartbeats 12800000 in
set_option maxRecDepth 100000 in
theorem own_any {w : World} {A : Option Addr} {c : Nat} {l : List PkT} (hC : kPk.C w A l.length l) (hc : l.length ≤ c) (hp : ∀ x ∈ l, (∀ z ∈ x.2.2, 0 ≤ z ∧ z < 256) ∧ x.2.2.length ≤ 140737488351232) (hl : l.length ≤ 1048576) :
    Calls Try.prog 5 #[.slice A l.length c] w fun e w' => e = .returned (.bool true) ∧ Below w.heap.size w w' := by
  have HFA := Lib.hid (filled_any hC hc hp hl)
  have HL := Lib.hid hl
  have HQR := Lib.hid (show ∀ q ∈ (ownP :: l).filter okP, ∀ z ∈ q.2.2, 0 ≤ z ∧ z < 256 from fun q hq => by
    rcases List.mem_cons.1 (List.mem_filter.1 hq).1 with rfl | h1
    · decide
    · exact (hp q h1).1)
  clear hC hc hp hl
  refine (callsIn_wide (n := 5)).1 ?_
  refine callsIn_of_wp_marks Try.func5 rfl trivial ?_ rfl
  refine wpIn_wide.2 ?_
  refine Code.wp_mono (fun e a w h => postM_le e a w h) ?_
  simp only [Try.ntmps5, List.size_toArray, List.length_cons, List.length_nil, Nat.reduceAdd, Nat.reduceSub, Array.replicate_succ, Array.replicate_zero, List.push_toArray, List.append_toArray, List.nil_append, List.cons_append]
  go_wp2_with fail
  refine HFA.out.mono ?_
  rintro e V ⟨g, m, v, fls, sv, ps, O, rfl, hF, hb⟩
  obtain ⟨hn0, hn1⟩ := fill_pos hF
  obtain ⟨hcl, hca⟩ := corr hF
  have HHV := Lib.hid hF.hold
  have HCA := Lib.hid hca
  have HCL := Lib.hid hcl
  have HP0 := Lib.hid (show 0 < ps.length by omega)
  have HPL := Lib.hid (show ps.length ≤ 1048577 by
    have h1 := congrArg List.length hF.pp
    have h2 := List.length_filter_le okP (ownP :: l)
    simp only [List.length_map, List.length_cons] at h1 h2
    have := HL.out
    omega)
  have HBV := Lib.hid hb
  have HQP := Lib.hid (show ∀ p ∈ ps, okP p.plain = true ∧ p.plain ∈ (ownP :: l).filter okP from fun p hp => by
    have h1 : p.plain ∈ (ownP :: l).filter okP := by rw [← hF.pp]; exact List.mem_map.2 ⟨p, hp, rfl⟩
    exact ⟨(List.mem_filter.1 h1).2, h1⟩)
  obtain ⟨adS, cS, rfl, _⟩ := SomeR.at hF.some_ (List.getElem?_eq_getElem HP0.out)
  have BA := below_alloc (Below.refl V.heap.size V) (.cells #[.slice none 0 0] tBss)
  have I0 : Hid (HI V V.heap.size [] 0 (V.alloc (.cells #[.slice none 0 0] tBss))) := Lib.hid ⟨⟨.slice none 0 0, [], fun _ => [], rfl, blk_new V _, ⟨own_nil _ _ _ _, fun j v hj => by simp at hj, List.Pairwise.nil⟩⟩, BA, fun d hd => by cases hd⟩
  clear hn0 hn1 hcl hca hF hb HFA BA
  go_wp2_with fail
  generalize (World.alloc V _) = W at *
  have HBQ := Lib.hid (show V.heap.size ≤ V.heap.size from Nat.le_refl _)
  have HVN := Lib.hid (fun (W1 : World) (h : Below V.heap.size V W1) => HHV.out.below h)
  refine wp_loop_rounds 3 ?_
  rw [rounds_succ]
  go_wp2_with fail
  refine (all_net (HVN.out _ I0.out.2.1).net (by have := HPL.out; have := HCL.out; omega)).mono ?_
  rintro e V1 ⟨b, sv1, ps1, rfl, hAR, hps1, hb1⟩
  have I1 := Lib.hid (I0.out.below hb1)
  have AR := Lib.hid hAR
  have HPS := Lib.hid hps1
  have HLP := Lib.hid (show ps1.length = ps.length by have := congrArg List.length hps1; have := HCL.out; simp only [List.length_map] at *; omega)
  have HSZ := Lib.hid (show V.heap.size ≤ V1.heap.size from I1.out.2.1.size)
  have HDL := Lib.hid (show ∀ d ∈ ([] : List Nat), d < V1.heap.size from fun d hd => blk_lt (I1.out.2.2 d hd))
  clear hAR hps1 hb1
  go_wp2_with fail
  refine (wpIn_wide (n := 5)).1 ?_
  refine with_fr (T := Nat → Nat → Int → Int → Option Addr → Nat → Nat → Act) ?FR1 ?_
  rotate_left
  refine range_tells rfl (by omega) (gf := 37) (lb := #[.pointer (some ⟨b, 0, none⟩)]) rfl trivial (enters_of Try.func37 (by kernel_rfl) rfl)
    (iter_tells AR.out (by rw [HLP.out]; have := HPL.out; omega)) KeepT.trans KeepT.putObj (Below.refl _ _) (fun _ => rfl)
    (fun pre W => HI V V.heap.size [] (0 + pre.length) W) (fun _ _ _ => False) (hi_own (fun pre : List ElT => 0 + pre.length) HSZ.out HDL.out) (fun c => fun s X Y row hs _ _ => hs.elim) I1.out
    (fun pre x a' W => HA V V.heap.size [] 8388608 ?FR1 (0 + pre.length) x a' W) (fun pre x a' => ha_own HSZ.out HDL.out x a') ?assign1 ?body1 ?done1 ?stop1
  case assign1 =>
    rintro lp pre ⟨xi, xs, xd, xv, xb⟩ Wb W K hIb hI hbw ⟨hx1, ⟨p0, hp0, hpl⟩, hxo⟩ hK
    simp only at hx1 hp0 hpl hxo
    have hxl : xb.length ≤ 140737488351232 ∧ pre.length < ps1.length := ⟨by
      have h1 := (AR.out.own p0 (List.mem_of_getElem? hp0)).2.1
      have h2 : xb = p0.bs := congrArg (fun q : PkT => q.2.2) hpl
      rw [h2]
      exact h1, (List.getElem?_eq_some_iff.1 hp0).1⟩
    obtain ⟨A9, c9, rfl⟩ := own_slice hxo
    have HB := below_alloc (Below.refl W.heap.size W) (.cells #[.int .i64 xs, .int .i64 xd, .slice A9 xb.length c9] tPk)
    obtain ⟨⟨hv, vs, cc, hh1, hh2, hh3⟩, hh4, hh5⟩ := hIb
    have hbv : V.heap.size ≤ Wb.heap.size := hh4.size
    obtain ⟨n9, hn9⟩ : ∃ n, xb.length = n := ⟨_, rfl⟩
    have HK := Lib.hid (fun a' (ha : a' = ?FR1 W.heap.size xi xs xd A9 n9 c9) => hK a' (W.alloc (.cells #[.int .i64 xs, .int .i64 xd, .slice A9 n9 c9] tPk)) ((KeepsOthers.alloc _ _).from _) (KeepT.of_below (by rw [← hn9]; exact HB)) (hI.below (by rw [← hn9]; exact HB)) ⟨W.heap.size, A9, n9, c9, hv, vs, cc, by rw [← hn9]; exact blk_new W _, by rw [← hn9], hh1, by have := HPL.out; have := HLP.out; omega, blk_below (blk_below hh2 hbw) (by rw [← hn9]; exact HB), (hh3.below hbw).below (by rw [← hn9]; exact HB), ((Ow.lower hxo hbv).below (by rw [← hn9]; exact HB)), hxl.1, fun k hk v hv2 e => by
      obtain ⟨j, hj⟩ := List.getElem?_of_mem hv2
      have h1 := own_base hxo k hk
      have h2 := own_lt (hh3.own j v hj).1 k e
      omega, below_then hI.2.1 hI.2.1.size (by rw [← hn9]; exact HB), hI.2.2.below (by rw [← hn9]; exact HB), ha⟩)
    clear hK hI HB hbw hp0 hpl hxo hx1 hh1 hh2 hh3 hh4 hh5 hbv hxl
    simp only [elV, hn9]
    clear hn9
    gi_wp2
    generalize W.heap.size = q at *
    refine HK.out _ ?_
    with_reducible rfl
  case body1 =>
    rintro lp pre ⟨xi, xs, xd, xv, xb⟩ a' W hI ⟨Bx, A9, n9, c9, hv, vs, cc, hbx, hxv, hvl, hmx, hbb, hH, hxo, hxl, hxn, hbW, hmk, rfl⟩
    simp only at hbx hxv hxo hxl hxn ⊢
    subst hxv
    obtain ⟨Ah, ch, rfl⟩ := own_slice hH.row
    have HH := Lib.hid hH
    have HXO := Lib.hid hxo
    have HXL := Lib.hid hxl
    have HXN := Lib.hid hxn
    have HBW := Lib.hid hbW
    have HVL := Lib.hid hvl
    have HMX := Lib.hid hmx
    have HBB := Lib.hid hbb
    have HMK := Lib.hid hmk
    have cx := blkc hbx
    have ca := blk1 hbb
    obtain ⟨i0, hi, hzz⟩ := Option.map_eq_some_iff.1 infoBs
    simp only [Prod.mk.injEq] at hzz
    obtain ⟨hz0, hz1, hz2⟩ := hzz
    clear hI hbx hH hxo hxl hxn hbW hvl hmx hbb hmk
    gi_wp2_with (gi_at_builtin; refine wpListIn_append_own _ rfl _ _ tBss rfl V.heap.size tBs i0 (.slice none 0 0) 1 24 Try.underlying45 hi hz0 hz1 hz2 rfl (by decide) _ _ _ rfl (HH.out.row.alloc _) ⟨W.heap.size, 0, none⟩ 1 1 [.slice A9 n9 c9] rfl rfl (by intro j u hj; cases j with | zero => simp at hj; subst hj; exact blk_cell (blk_new W _) 0 | succ j => simp at hj) (by simp [Value.oneCell']) (by have := HMX.out; have := HVL.out; unfold maxLen; omega) (by have := HMX.out; have := HVL.out; omega) (by have := HBW.out.size; simp; omega) ?_; intro v5 w5 ho5 hg5 _; (have LM := Lib.hid (held_more_a HBW.out.size (Nat.le_refl _) HBB.out HH.out HXO.out HXL.out (Nat.le_refl _) HXN.out ho5 hg5)); obtain ⟨A5, c5, rfl⟩ := own_slice ho5; clear ho5 hg5; have zx := blkz LM.out.1; have cx5 := blk1 LM.out.1)
    exact ⟨LM.out.2.2.2.1.from _, LM.out.2.2.2.2.1, ⟨_, _, _, by rw [List.length_append, List.length_append, HVL.out, List.length_singleton, List.length_singleton, Nat.add_assoc], LM.out.2.1, LM.out.2.2.1⟩, HBW.out.trans LM.out.2.2.2.2.2.2, fun d hd => LM.out.2.2.2.2.2.1 d _ (HMK.out d hd) (fun cs t e => by cases e)⟩
  case done1 =>
    rintro D1 xs W hD hS hI hK
    have hlen : xs.length = ps.length := by rw [hS.1, HLP.out]
    have I2 : Hid (HI V V.heap.size (D1 :: []) (0 + ps.length + 0) W) := Lib.hid ⟨by have h1 := hI.1; rw [hlen] at h1; rw [Nat.add_zero]; exact h1, hI.2.1, fun d hd => by
      rcases List.mem_cons.1 hd with rfl | hd
      · exact hK
      · exact hI.2.2 d hd⟩
    have HDD1 := Lib.hid (show ∀ d ∈ ([] : List Nat), d ≠ D1 from fun d hd e => by have h1 := HDL.out d hd; omega)
    have DV1 := Lib.hid (show V.heap.size ≤ D1 from Nat.le_trans HSZ.out hD)
    clear hD hS hI hK hlen I1 AR HPS HLP HSZ HDL
    go_wp2_with fail
    go_loopg [9] ps.length (fun kq v9 w' => ∃ (j : Nat), v9 = .int .i64 (j : Int) ∧ Hid (j + kq = ps.length) ∧ Hid (HI V V.heap.size (D1 :: []) (0 + ps.length + j) w'))
    case atStart => exact ⟨0, rfl, (show _ + _ = _ by omega), I2.out⟩
    case round =>
      obtain ⟨j, rfl, HJ, I3⟩ := hrel
      cases gk with
      | zero =>
        have hj : j = ps.length := HJ.out
        have d1 : decide (j < ps.length) = false := decide_eq_false (by omega)
        have I4 : Hid (HI V V.heap.size (D1 :: []) (0 + ps.length + ps.length) wr) := Lib.hid (by rw [← hj]; rw [← hj] at I3; exact I3.out)
        clear hj HJ I3 I2
        go_wp2_with fail
        rw [rounds_succ]
        go_wp2_with fail
        refine (all_net (HVN.out _ I4.out.2.1).net (by have := HPL.out; have := HCL.out; omega)).mono ?_
        rintro e V1 ⟨b, sv1, ps1, rfl, hAR, hps1, hb1⟩
        have I1 := Lib.hid (I4.out.below hb1)
        have AR := Lib.hid hAR
        have HPS := Lib.hid hps1
        have HLP := Lib.hid (show ps1.length = ps.length by have := congrArg List.length hps1; have := HCL.out; simp only [List.length_map] at *; omega)
        have HSZ := Lib.hid (show V.heap.size ≤ V1.heap.size from I1.out.2.1.size)
        have HDL := Lib.hid (show ∀ d ∈ ([D1] : List Nat), d < V1.heap.size from fun d hd => blk_lt (I1.out.2.2 d hd))
        clear hAR hps1 hb1
        go_wp2_with fail
        refine (wpIn_wide (n := 5)).1 ?_
        refine with_fr (T := Nat → Nat → Int → Int → Option Addr → Nat → Nat → Act) ?FR2 ?_
        rotate_left
        refine range_tells rfl (by omega) (gf := 37) (lb := #[.pointer (some ⟨b, 0, none⟩)]) rfl trivial (enters_of Try.func37 (by kernel_rfl) rfl)
          (iter_tells AR.out (by rw [HLP.out]; have := HPL.out; omega)) KeepT.trans KeepT.putObj (Below.refl _ _) (fun _ => rfl)
          (fun pre W => HI V V.heap.size [D1] ((0 + ps.length + ps.length) + pre.length) W) (fun _ _ _ => False) (hi_own (fun pre : List ElT => (0 + ps.length + ps.length) + pre.length) HSZ.out HDL.out) (fun c => fun s X Y row hs _ _ => hs.elim) I1.out
          (fun pre x a' W => HA V V.heap.size [D1] 8388608 ?FR2 ((0 + ps.length + ps.length) + pre.length) x a' W) (fun pre x a' => ha_own HSZ.out HDL.out x a') ?assign2 ?body2 ?done2 ?stop2
        case assign2 =>
          rintro lp pre ⟨xi, xs, xd, xv, xb⟩ Wb W K hIb hI hbw ⟨hx1, ⟨p0, hp0, hpl⟩, hxo⟩ hK
          simp only at hx1 hp0 hpl hxo
          have hxl : xb.length ≤ 140737488351232 ∧ pre.length < ps1.length := ⟨by
            have h1 := (AR.out.own p0 (List.mem_of_getElem? hp0)).2.1
            have h2 : xb = p0.bs := congrArg (fun q : PkT => q.2.2) hpl
            rw [h2]
            exact h1, (List.getElem?_eq_some_iff.1 hp0).1⟩
          obtain ⟨A9, c9, rfl⟩ := own_slice hxo
          have HB := below_alloc (Below.refl W.heap.size W) (.cells #[.int .i64 xs, .int .i64 xd, .slice A9 xb.length c9] tPk)
          obtain ⟨⟨hv, vs, cc, hh1, hh2, hh3⟩, hh4, hh5⟩ := hIb
          have hbv : V.heap.size ≤ Wb.heap.size := hh4.size
          obtain ⟨n9, hn9⟩ : ∃ n, xb.length = n := ⟨_, rfl⟩
          have HK := Lib.hid (fun a' (ha : a' = ?FR2 W.heap.size xi xs xd A9 n9 c9) => hK a' (W.alloc (.cells #[.int .i64 xs, .int .i64 xd, .slice A9 n9 c9] tPk)) ((KeepsOthers.alloc _ _).from _) (KeepT.of_below (by rw [← hn9]; exact HB)) (hI.below (by rw [← hn9]; exact HB)) ⟨W.heap.size, A9, n9, c9, hv, vs, cc, by rw [← hn9]; exact blk_new W _, by rw [← hn9], hh1, by have := HPL.out; have := HLP.out; omega, blk_below (blk_below hh2 hbw) (by rw [← hn9]; exact HB), (hh3.below hbw).below (by rw [← hn9]; exact HB), ((Ow.lower hxo hbv).below (by rw [← hn9]; exact HB)), hxl.1, fun k hk v hv2 e => by
            obtain ⟨j, hj⟩ := List.getElem?_of_mem hv2
            have h1 := own_base hxo k hk
            have h2 := own_lt (hh3.own j v hj).1 k e
            omega, below_then hI.2.1 hI.2.1.size (by rw [← hn9]; exact HB), hI.2.2.below (by rw [← hn9]; exact HB), ha⟩)
          clear hK hI HB hbw hp0 hpl hxo hx1 hh1 hh2 hh3 hh4 hh5 hbv hxl
          simp only [elV, hn9]
          clear hn9
          gi_wp2
          generalize W.heap.size = q at *
          refine HK.out _ ?_
          with_reducible rfl
        case body2 =>
          rintro lp pre ⟨xi, xs, xd, xv, xb⟩ a' W hI ⟨Bx, A9, n9, c9, hv, vs, cc, hbx, hxv, hvl, hmx, hbb, hH, hxo, hxl, hxn, hbW, hmk, rfl⟩
          simp only at hbx hxv hxo hxl hxn ⊢
          subst hxv
          obtain ⟨Ah, ch, rfl⟩ := own_slice hH.row
          have HH := Lib.hid hH
          have HXO := Lib.hid hxo
          have HXL := Lib.hid hxl
          have HXN := Lib.hid hxn
          have HBW := Lib.hid hbW
          have HVL := Lib.hid hvl
          have HMX := Lib.hid hmx
          have HBB := Lib.hid hbb
          have HMK := Lib.hid hmk
          have cx := blkc hbx
          have ca := blk1 hbb
          obtain ⟨i0, hi, hzz⟩ := Option.map_eq_some_iff.1 infoBs
          simp only [Prod.mk.injEq] at hzz
          obtain ⟨hz0, hz1, hz2⟩ := hzz
          clear hI hbx hH hxo hxl hxn hbW hvl hmx hbb hmk
          gi_wp2_with (gi_at_builtin; refine wpListIn_append_own _ rfl _ _ tBss rfl V.heap.size tBs i0 (.slice none 0 0) 1 24 Try.underlying45 hi hz0 hz1 hz2 rfl (by decide) _ _ _ rfl (HH.out.row.alloc _) ⟨W.heap.size, 0, none⟩ 1 1 [.slice A9 n9 c9] rfl rfl (by intro j u hj; cases j with | zero => simp at hj; subst hj; exact blk_cell (blk_new W _) 0 | succ j => simp at hj) (by simp [Value.oneCell']) (by have := HMX.out; have := HVL.out; unfold maxLen; omega) (by have := HMX.out; have := HVL.out; omega) (by have := HBW.out.size; simp; omega) ?_; intro v5 w5 ho5 hg5 _; (have LM := Lib.hid (held_more_a HBW.out.size (Nat.le_refl _) HBB.out HH.out HXO.out HXL.out (Nat.le_refl _) HXN.out ho5 hg5)); obtain ⟨A5, c5, rfl⟩ := own_slice ho5; clear ho5 hg5; have zx := blkz LM.out.1; have cx5 := blk1 LM.out.1)
          exact ⟨LM.out.2.2.2.1.from _, LM.out.2.2.2.2.1, ⟨_, _, _, by rw [List.length_append, List.length_append, HVL.out, List.length_singleton, List.length_singleton, Nat.add_assoc], LM.out.2.1, LM.out.2.2.1⟩, HBW.out.trans LM.out.2.2.2.2.2.2, fun d hd => LM.out.2.2.2.2.2.1 d _ (HMK.out d hd) (fun cs t e => by cases e)⟩
        case done2 =>
          rintro D2 xs W hD hS hI hK
          have hlen : xs.length = ps.length := by rw [hS.1, HLP.out]
          have I2 : Hid (HI V V.heap.size (D2 :: [D1]) ((0 + ps.length + ps.length) + ps.length + 0) W) := Lib.hid ⟨by have h1 := hI.1; rw [hlen] at h1; rw [Nat.add_zero]; exact h1, hI.2.1, fun d hd => by
            rcases List.mem_cons.1 hd with rfl | hd
            · exact hK
            · exact hI.2.2 d hd⟩
          have HDD2 := Lib.hid (show ∀ d ∈ ([D1] : List Nat), d ≠ D2 from fun d hd e => by have h1 := HDL.out d hd; omega)
          have DV2 := Lib.hid (show V.heap.size ≤ D2 from Nat.le_trans HSZ.out hD)
          clear hD hS hI hK hlen I1 AR HPS HLP HSZ HDL
          go_wp2_with fail
          go_loopg [9] ps.length (fun kq v9 w' => ∃ (j : Nat), v9 = .int .i64 (j : Int) ∧ Hid (j + kq = ps.length) ∧ Hid (HI V V.heap.size (D2 :: [D1]) ((0 + ps.length + ps.length) + ps.length + j) w'))
          case atStart => exact ⟨0, rfl, (show _ + _ = _ by omega), I2.out⟩
          case round =>
            obtain ⟨j, rfl, HJ, I3⟩ := hrel
            cases gk with
            | zero =>
              have hj : j = ps.length := HJ.out
              have d1 : decide (j < ps.length) = false := decide_eq_false (by omega)
              have I4 : Hid (HI V V.heap.size (D2 :: [D1]) ((0 + ps.length + ps.length) + ps.length + ps.length) wr) := Lib.hid (by rw [← hj]; rw [← hj] at I3; exact I3.out)
              clear hj HJ I3 I2
              go_wp2_with fail
              rw [rounds_succ]
              go_upto_region 18 with (fail)
              as_aux_lemma =>
                obtain ⟨⟨hv, vs, cc, hvl, hbb, hH⟩, hBV, hMK⟩ := I4.out
                obtain ⟨p, hp⟩ : ∃ p, ps[0]? = some p := ⟨_, List.getElem?_eq_getElem HP0.out⟩
                obtain ⟨⟨fs, fd, fsv, fnv, fsb, fnb⟩, hf, he1, he2, he3, he4⟩ := HCA.out 0 p hp
                simp only at he1 he2 he3 he4
                subst he1 he2 he3 he4
                have HF := Lib.hid hf
                have HPP := Lib.hid hp
                have HVr := Lib.hid (HVN.out wr hBV)
                have HOV := Lib.hid HHV.out.lt
                have HH := Lib.hid hH
                have HBB := Lib.hid hbb
                have HMK := Lib.hid hMK
                have HBW := Lib.hid (below_then HBV.out HBV.out.size hBV)
                have HVW := Lib.hid (show V.heap.size < wr.heap.size from blk_lt hbb)
                have HNL := Lib.hid (show vs.length = 4 * ps.length by omega)
                have hw1 : wrap64 (4 * (ps.length : Int)) = ((vs.length : Nat) : Int) := by have := HPL.out; have := HNL.out; unfold wrap64; omega
                have HHK := Lib.hid (show (∀ k, hv.ownBlock = some k → V.heap.size ≤ k ∧ k < wr.heap.size) ∧ ∀ (j : Nat) (x : Value) (k : Nat), vs[j]? = some x → x.ownBlock = some k → V.heap.size ≤ k ∧ k < wr.heap.size from ⟨fun k hk => ⟨own_base hH.row k hk, own_lt hH.row k hk⟩, fun j x k hx hk => ⟨own_base (hH.own j x hx).1 k hk, own_lt (hH.own j x hx).1 k hk⟩⟩)
                obtain ⟨Ah, ch, rfl⟩ := own_slice hH.row
                have cb := blk1 hbb
                clear hf hp hvl hbb hH hBV hMK I4
                go_wp2_with fail
                clear hw1
                refine (copy_net (w0 := w) HVr.out.net (i := 0) HF.out (by have := HPL.out; have := HCL.out; omega) HBW.out rfl).mono ?_
                rintro e W5 ⟨rfl, ⟨v5, nv, hN5⟩, hk5, hb5⟩
                have H5 := Lib.hid (HVr.out.next hN5 (fun k hk => hk) hk5)
                have K5 := Lib.hid hk5
                have B5 := Lib.hid hb5
                have HF5 := Lib.hid (show (fls ++ [(⟨p.src, p.dst, fsv, nv, p.bs, p.bs⟩ : Fl)])[0]? = some ⟨p.src, p.dst, fsv, fnv, p.bs, p.bs⟩ by rw [List.getElem?_append_left (by have := HP0.out; have := HCL.out; omega)]; exact HF.out)
                have O5 := Lib.hid (show ∀ k, ((O k ∨ wr.heap.size ≤ k) ∧ k < W5.heap.size) → (k < V.heap.size ∨ wr.heap.size ≤ k) ∧ k < W5.heap.size from fun k h => ⟨h.1.imp (HOV.out k) id, h.2⟩)
                clear hN5 hk5 hb5 cb
                go_wp2_with fail
                refine (take_net (w0 := w) H5.out.net (i := 0) HF5.out (by have := HPL.out; have := HCL.out; rw [List.length_append, List.length_singleton]; omega) B5.out rfl).mono ?_
                rintro e W6 ⟨v6, rfl, ho6, ⟨v7, hN6⟩, hk6, hb6⟩
                replace ho6 : Ow W6 W5.heap.size v6 p.bs := ho6
                obtain ⟨O6, hO6⟩ : ∃ O6 : Nat → Prop, O6 = (fun k => (((O k ∨ wr.heap.size ≤ k) ∧ k < W5.heap.size) ∨ (W5.heap.size ≤ k ∧ v6.ownBlock ≠ some k)) ∧ k < W6.heap.size) := ⟨_, rfl⟩
                have h6 := H5.out.next hN6 (fun k hk => hk.elim .inl (fun h => .inr h.1)) hk6
                rw [← hO6] at h6
                have H6 := Lib.hid h6
                clear h6
                have OB6 := Lib.hid (show ∀ k, O6 k → k < V.heap.size ∨ wr.heap.size ≤ k from fun k hk => by
                  rw [hO6] at hk
                  rcases hk.1 with h | h
                  · exact (O5.out k h).1
                  · exact .inr (Nat.le_trans K5.out.1 h.1))
                have OX6 := Lib.hid (show ∀ k, v6.ownBlock = some k → ¬ O6 k from fun k hk h => by
                  rw [hO6] at h
                  have h1 := own_base ho6 k hk
                  rcases h.1 with h | h
                  · have := h.2; omega
                  · exact h.2 hk)
                have K56 := Lib.hid (show ∀ k, V.heap.size ≤ k → k < wr.heap.size → W6.heap[k]? = wr.heap[k]? from fun k h1 h2 => by
                  have h3 : ¬ O k := fun h => by have := HOV.out k h; omega
                  have h4 := K5.out.1
                  rw [hk6.2 k (by omega) (fun h => by rcases h.1 with h | h; exact h3 h; omega), K5.out.2 k h2 h3])
                have S6 := Lib.hid (show wr.heap.size ≤ W5.heap.size ∧ W5.heap.size ≤ W6.heap.size from ⟨K5.out.1, hk6.1⟩)
                have HH6 := Lib.hid (show HeldR W6 V.heap.size (.slice Ah vs.length ch) vs cc from ⟨own_move HH.out.row (fun k hk => K56.out k (HHK.out.1 k hk).1 (HHK.out.1 k hk).2), fun j x hx => ⟨(HH.out.own j x hx).1.move (fun k hk => K56.out k (HHK.out.2 j x k hx hk).1 (HHK.out.2 j x k hx hk).2), (HH.out.own j x hx).2⟩, HH.out.ap⟩)
                have HB6 := Lib.hid ((K56.out V.heap.size (Nat.le_refl _) HVW.out).trans HBB.out)
                have HMO := Lib.hid (show ∀ d ∈ [D2, D1], V.heap.size ≤ d from fun d hd => by
                  rcases List.mem_cons.1 hd with rfl | hd
                  · exact DV2.out
                  · rw [List.mem_singleton.1 hd]
                    exact DV1.out)
                have HMW := Lib.hid (show ∀ d ∈ [D2, D1], d < wr.heap.size from fun d hd => blk_lt (HMK.out d hd))
                have HM6 := Lib.hid (show Marks [D2, D1] W6 from fun d hd => (K56.out d (HMO.out d hd) (HMW.out d hd)).trans (HMK.out d hd))
                obtain ⟨A6, c6, rfl⟩ := own_slice ho6
                have ba := below_alloc (Below.refl W6.heap.size W6) (.cells #[.int .i64 p.src, .int .i64 p.dst, .slice A6 p.bs.length c6] tPk)
                have P7 := Lib.hid (blk_new W6 (.cells #[.int .i64 p.src, .int .i64 p.dst, .slice A6 p.bs.length c6] tPk))
                have B7 := Lib.hid ba
                have O7 := Lib.hid (ho6.below ba)
                have BW7 := Lib.hid (below_then hb6 hb6.size ba)
                have H7 := Lib.hid (H6.out.below ba)
                have HH7 := Lib.hid (HH6.out.below ba)
                have HB7 := Lib.hid (blk_below HB6.out ba)
                have HM7 := Lib.hid (HM6.out.below ba)
                have XN := Lib.hid (show ∀ k, (Value.slice A6 p.bs.length c6).ownBlock = some k → ∀ x ∈ vs, x.ownBlock ≠ some k from fun k hk x hx e => by
                  obtain ⟨i, hi⟩ := List.getElem?_of_mem hx
                  have h1 := own_base ho6 k hk
                  have h2 := (HHK.out.2 i x k hi e).2
                  have h3 := S6.out.1
                  omega)
                have S7 := Lib.hid (show W6.heap.size ≤ (W6.alloc (.cells #[.int .i64 p.src, .int .i64 p.dst, .slice A6 p.bs.length c6] tPk)).heap.size by simp)
                have PL := Lib.hid (show ∀ q ∈ ps, ∀ ad n c', q.sv = .slice (some ad) n c' → 0 < q.bs.length → ad.block < V.heap.size from fun q hq ad n c' e hn => by
                  obtain ⟨A9, c9, h1, h2, h3, h4⟩ := (HHV.out.pv q hq).rd
                  rw [h1] at e
                  injection e with e _ _
                  exact C_lt h3 e hn)
                have SL := Lib.hid (show ∀ k, (Value.slice (some adS) ps.length cS).ownBlock = some k → k < V.heap.size from fun k hk => own_lt HHV.out.some_ k hk)
                clear ho6 hN6 hk6 hb6 hO6 ba H5 B5 HF5 O5 HH HBB HMK HVr HBW
                go_upto_region 21 with (fail)
                generalize (World.alloc W6 _) = W7 at *
                generalize W6.heap.size = b7 at *
                have PD := Lib.hid (blk_drew P7.out)
                have HV7 := H7.out.below (below_drew (Below.refl _ _))
                obtain ⟨ad, c9, hsv, _, y0, y1, y2⟩ := SomeR.at HV7.some_ HPP.out
                have e1 : adS = ad := by cases hsv; rfl
                rw [← e1] at y0 y1 y2
                clear e1 hsv
                have hpr := HV7.pv p (List.mem_of_getElem? HPP.out)
                obtain ⟨A', c', hpv, _, hC', _⟩ := hpr.rd
                rw [hpv] at y2
                have CP := Lib.hid (show kB.C W7.drew A' p.bs.length p.bs from hC')
                have HR := Lib.hid hpr.rng
                have CX := Lib.hid (show kB.C W7.drew A6 p.bs.length p.bs by
                  obtain ⟨A8, c8, e8, _, h8⟩ := O7.out.reads
                  cases e8
                  exact Kd.C_below h8 (below_drew (Below.refl _ _)))
                have p1 := eq_true HP0.out
                have p2 := eq_true (show 0 < (ps.length : Int) by have := HP0.out; omega)
                have LB := Lib.hid hpr.len
                clear HV7 hpr hpv hC'
                have e0 : adS.add 0 = adS := by cases adS; simp [Addr.add]
                rw [Nat.zero_mul, e0] at y0 y1 y2
                clear e0
                refine start_ (n := 10) (S := fun w' => (∀ o, w'.cell? ⟨b7, o, none⟩ = #[Value.int .i64 p.src, .int .i64 p.dst, .slice A6 p.bs.length c6][o]?) ∧ w'.cell? adS = some (.int .i64 p.src) ∧ w'.cell? ⟨adS.block, adS.off + 1, none⟩ = some (.int .i64 p.dst) ∧ w'.cell? ⟨adS.block, adS.off + 2, none⟩ = some (.slice A' p.bs.length c')) (ds := []) #[false, false, false, false, false, false, false, false, false, false] (by kernel_rfl) rfl rfl ⟨(blkc PD.out), y0, y1, y2⟩ (fun hHeld => ?_)
                refine pure_ (i := 0) (N := some 92) (v := ?_) (a' := ?_) #[true, false, false, false, false, false, false, false, false, false] rfl rfl (by kernel_rfl) (fun _ _ _ h => h) (Or.inl ⟨by rfl, ?_⟩) ?_ ?_
                rotate_left
                · intro w'
                  go_simp
                  with_reducible rfl
                rotate_left
                · simp only [Act.put, List.setIfInBounds_toArray, List.set_cons_zero, List.set_cons_succ, i64_w, i32_w]
                  rfl
                refine pure_ (i := 1) (N := some 93) (v := ?_) (a' := ?_) #[true, true, false, false, false, false, false, false, false, false] rfl rfl (by kernel_rfl) (fun _ _ _ h => h) (Or.inl ⟨by rfl, ?_⟩) ?_ ?_
                rotate_left
                · intro w'
                  go_simp
                  with_reducible rfl
                rotate_left
                · simp only [Act.put, List.setIfInBounds_toArray, List.set_cons_zero, List.set_cons_succ, i64_w, i32_w]
                  rfl
                refine pure_ (i := 2) (N := some 94) (v := ?_) (a' := ?_) #[true, true, true, false, false, false, false, false, false, false] rfl rfl (by kernel_rfl) (fun _ _ _ h => h) (Or.inl ⟨by rfl, ?_⟩) ?_ ?_
                rotate_left
                · intro w'
                  go_simp
                  with_reducible rfl
                rotate_left
                · simp only [Act.put, List.setIfInBounds_toArray, List.set_cons_zero, List.set_cons_succ, i64_w, i32_w]
                  rfl
                refine pure_ (i := 4) (N := some 96) (v := ?_) (a' := ?_) #[true, true, true, false, true, false, false, false, false, false] rfl rfl (by kernel_rfl) (fun _ _ _ h => h) (Or.inl ⟨by rfl, ?_⟩) ?_ ?_
                rotate_left
                · intro w'
                  go_simp
                  with_reducible rfl
                rotate_left
                · simp only [Act.put, List.setIfInBounds_toArray, List.set_cons_zero, List.set_cons_succ, i64_w, i32_w]
                  rfl
                refine pure_ (i := 5) (N := some 97) (v := ?_) (a' := ?_) #[true, true, true, false, true, true, false, false, false, false] rfl rfl (by kernel_rfl) (fun _ _ _ h => h) (Or.inl ⟨by rfl, ?_⟩) ?_ ?_
                rotate_left
                · intro w'
                  go_simp
                  with_reducible rfl
                rotate_left
                · simp only [Act.put, List.setIfInBounds_toArray, List.set_cons_zero, List.set_cons_succ, i64_w, i32_w]
                  rfl
                refine take_ (i := 3) (N := some 95) (v := ?_) (a' := ?_) #[true, true, true, true, true, true, false, false, false, false] rfl rfl (by kernel_rfl) (fun _ _ _ h => h) (Or.inl ⟨by rfl, ?_⟩) hHeld ?_ ?_
                rotate_left
                · rintro w' ⟨s0, s1, s2, s3⟩
                  go_simp
                  with_reducible rfl
                rotate_left
                · simp only [Act.put, List.setIfInBounds_toArray, List.set_cons_zero, List.set_cons_succ, i64_w, i32_w]
                  rfl
                refine take_ (i := 6) (N := some 98) (v := ?_) (a' := ?_) #[true, true, true, true, true, true, true, false, false, false] rfl rfl (by kernel_rfl) (fun _ _ _ h => h) (Or.inl ⟨by rfl, ?_⟩) hHeld ?_ ?_
                rotate_left
                · rintro w' ⟨s0, s1, s2, s3⟩
                  go_simp
                  with_reducible rfl
                rotate_left
                · simp only [Act.put, List.setIfInBounds_toArray, List.set_cons_zero, List.set_cons_succ, i64_w, i32_w]
                  rfl
                refine one_ (i := 7) (N := some 99) #[true, true, true, true, true, true, true, true, false, false] rfl rfl (by kernel_rfl) (by decide) (fun K hK => ?_)
                refine goes_ Try.func18 (by kernel_rfl) rfl #[.agg #[.int .i64 p.src, .int .i64 p.dst, .slice A6 p.bs.length c6], .agg #[.int .i64 p.src, .int .i64 p.dst, .slice A' p.bs.length c']] (by rfl) rfl rfl (by simp only [List.map_toArray, List.map_cons, List.map_nil]; rfl) ?_
                with_reducible refine ((equal_any CX.out CP.out HR.out HR.out)).mono ?_
                rintro e w9 ⟨rfl, hb9⟩
                refine ⟨_, rfl, ?_⟩
                rw [show decide ((p.src, p.dst, p.bs) = (p.src, p.dst, p.bs)) = true from decide_eq_true rfl]
                have B9 := Lib.hid hb9
                refine hK.out _ _ ⟨(blkc (blk_below PD.out hb9)), (cell_below y0 hb9), (cell_below y1 hb9), (cell_below y2 hb9)⟩ (fun hHeld => ?_)
                clear hK K
                refine norm_ (a' := ?_) ?_ ?_
                rotate_left
                · show Act.put _ (some 99) _ = _
                  simp only [Act.put, List.setIfInBounds_toArray, List.set_cons_zero, List.set_cons_succ, i64_w, i32_w]
                  rfl
                refine pure_ (i := 8) (N := some 100) (v := ?_) (a' := ?_) #[true, true, true, true, true, true, true, true, true, false] rfl rfl (by kernel_rfl) (fun _ _ _ h => h) (Or.inl ⟨by rfl, ?_⟩) ?_ ?_
                rotate_left
                · intro w'
                  go_simp
                  with_reducible rfl
                rotate_left
                · simp only [Act.put, List.setIfInBounds_toArray, List.set_cons_zero, List.set_cons_succ, i64_w, i32_w]
                  rfl
                refine pure_ (i := 9) (N := some 101) (v := ?_) (a' := ?_) #[true, true, true, true, true, true, true, true, true, true] rfl rfl (by kernel_rfl) (fun _ _ _ h => h) (Or.inl ⟨by rfl, ?_⟩) ?_ ?_
                rotate_left
                · intro w'
                  go_simp
                  with_reducible rfl
                rotate_left
                · simp only [Act.put, List.setIfInBounds_toArray, List.set_cons_zero, List.set_cons_succ, i64_w, i32_w]
                  rfl
                refine done_ (by kernel_rfl) ?_
                clear y0 y1 y2 p1 p2
                have BG := Lib.hid (below_then (below_drew (Below.refl W7.heap.size W7)) (Nat.le_refl _) B9.out)
                have P9 := Lib.hid (blk_below P7.out BG.out)
                have H9 := Lib.hid (H7.out.below BG.out)
                have HH9 := Lib.hid (HH7.out.below BG.out)
                have HB9 := Lib.hid (blk_below HB7.out BG.out)
                have HM9 := Lib.hid (HM7.out.below BG.out)
                have O9 := Lib.hid (O7.out.below BG.out)
                have BW9 := Lib.hid (below_then BW7.out BW7.out.size BG.out)
                have S9 := Lib.hid (show wr.heap.size ≤ w9.heap.size from by have h1 := S6.out; have h2 := S7.out; have h3 := BG.out.size; omega)
                have BV9 := Lib.hid (Below.refl V.heap.size w9)
                have cb := blkc P9.out
                have ch9 := blk1 HB9.out
                clear B7 H6 HH6 HB6 HM6 P7 O7 H7 HH7 HB7 HM7 BW7 BG B9 PD CP CX HR K56 K5
                go_wp2_with (at_builtin; refine print_append_cells (w0 := w9) V.heap.size rfl (.tmp 102) (.tmp 105) tBss tBs (.slice none 0 0) 1 24 rfl Try.underlying45 infoBs rfl (by decide) (by decide) (.slice Ah vs.length ch) vs.length vs [.slice A6 p.bs.length c6] rfl rfl rfl (by intro u hu; rw [List.mem_singleton.1 hu]; rfl) HH9.out.row BV9.out (by have h1 := S9.out; have h2 := HVW.out; omega) (by have h1 := HNL.out; have h2 := HPL.out; omega) ?_; intro v5 w5 ho5 hb5 hg5 hat5; (have LM := Lib.hid (held_more (by have h1 := S9.out; have h2 := HVW.out; omega) (Nat.le_refl _) HB9.out HH9.out O9.out LB.out (by have h1 := S6.out; have h2 := HVW.out; omega) XN.out ho5 hg5)); (have HFA := Lib.hid (held_far (bq := V.heap.size) (v5 := v5) hg5)); obtain ⟨A5, c5, rfl⟩ := own_slice ho5; clear ho5 hb5 hg5 hat5; have zx := blkz LM.out.1; have cx5 := blk1 LM.out.1)
                have e5 : vs.length + 1 = (vs ++ [Value.slice A6 p.bs.length c6]).length := by simp
                rw [e5] at LM
                have PB0 := Lib.hid (show PB V.heap.size V.heap.size [D2, D1] w.heap.size O6 g m v7 _ (.slice (some adS) ps.length cS) ps _ (.slice A5 (vs ++ [Value.slice A6 p.bs.length c6]).length c5) (vs ++ [Value.slice A6 p.bs.length c6]) (w5.setCell ⟨V.heap.size, 0, none⟩ (.slice A5 (vs ++ [Value.slice A6 p.bs.length c6]).length c5)) from ⟨PB.far (M := V.heap.size) (O' := O6) H9.out LM.out.2.2.2.2.2.2.size (fun k hl hk => by
                  rw [← e5]
                  refine HFA.out k hl (fun e => ?_) (fun e => ?_)
                  · have h1 := HVW.out
                    rcases hk with h | h
                    · have h2 := OB6.out k h; omega
                    · omega
                  · have h1 := HHK.out.1 k e
                    rcases hk with h | h
                    · have h2 := OB6.out k h; omega
                    · omega) SL.out PL.out, LM.out.2.1, LM.out.2.2.1.row, fun d hd => LM.out.2.2.2.2.2.1 d _ (HM9.out d hd) (fun cs t e => by cases e), HMO.out, SL.out, PL.out, LM.out.2.2.1.ap⟩)
                have HC0 := Lib.hid LM.out.2.2.1.own
                have HOO := Lib.hid (show ∀ (j : Nat) (x : Value) (k : Nat), (vs ++ [Value.slice A6 p.bs.length c6])[j]? = some x → x.ownBlock = some k → ¬ O6 k from fun j x k hx hk h => by
                  rcases snoc_at hx with ⟨rfl, rfl⟩ | ⟨_, _, h3⟩
                  · exact OX6.out k hk h
                  · have h1 := HHK.out.2 j x k h3 hk
                    have h2 := OB6.out k h
                    omega)
                have BWA := Lib.hid (BW9.out.trans (LM.out.2.2.2.2.2.2.mono HBV.out.size))
                have HN1 := Lib.hid (show 0 < (vs ++ [Value.slice A6 p.bs.length c6]).length ∧ (vs ++ [Value.slice A6 p.bs.length c6]).length ≤ 4194309 by have h1 := HNL.out; have h2 := HPL.out; rw [← e5]; omega)
                rw [e5]
                generalize (World.setCell w5 _ _) = WA at *
                generalize more cc vs.length p.bs = c1 at *
                clear LM HFA H9 HH9 HB9 HM9 O9 BW9 S9 BV9 cb ch9 zx cx5 P9 e5
                generalize (vs ++ [Value.slice A6 p.bs.length c6]) = vs1 at *
                obtain ⟨adh, ch1, hsv, _, _⟩ := row_at PB0.out.row (show vs1[0]? = some _ from List.getElem?_eq_getElem HN1.out.1)
                cases hsv
                as_aux_lemma =>
                  have HLB0 := Lib.hid (show ∀ i, i < vs1.length → (c1 i).length ≤ 140737488351232 from fun i hi => (HC0.out i _ (List.getElem?_eq_getElem hi)).2)
                  go_loopg [15] vs1.length (fun kq v15 w' => ∃ (i : Nat) (c' : Nat → List Int), v15 = .int .i64 (i : Int) ∧ Hid (i + kq = vs1.length) ∧ Hid (PB V.heap.size V.heap.size [D2, D1] w.heap.size O6 g m v7 ((fls ++ [(⟨p.src, p.dst, fsv, nv, p.bs, p.bs⟩ : Fl)]).eraseIdx 0) (.slice (some adS) ps.length cS) ps (((ownP :: l).filter okP).map letOf) (.slice (some adh) vs1.length c5) vs1 w') ∧ Hid (∀ (j : Nat) (x : Value), vs1[j]? = some x → Ow w' V.heap.size x (c' j)) ∧ Hid (∀ j, (c' j).length = (c1 j).length) ∧ Hid (∀ j, j < i → Mkd j (c' j)) ∧ Hid (Below w.heap.size w w'))
                  case atStart => exact ⟨0, c1, rfl, (show _ + _ = _ by omega), PB0.out, (fun j x hx => (HC0.out j x hx).1), (fun _ => rfl), (fun j hj => by omega), BWA.out⟩
                  case round =>
                    obtain ⟨i, c', rfl, HI, HP, HC, HCN, HMK, HB⟩ := hrel
                    cases gk with
                    | zero =>
                      have hi : i = vs1.length := HI.out
                      have d1 : decide (i < vs1.length) = false := decide_eq_false (by omega)
                      subst hi
                      have cb := blk1 HP.out.box
                      have HLB0 : Hid (∀ i, i < vs1.length → (c' i).length ≤ 140737488351232) := Lib.hid (fun i hi => by rw [HCN.out i]; exact HLB0.out i hi)
                      clear HI
                      go_wp2_with fail
                      as_aux_lemma =>
                        clear cb d1 HC0 PB0 BWA
                        have HLS := Lib.hid (show ∀ i, i < vs1.length → (c' i).length ≤ 140737488351232 from fun i hi => HLB0.out i hi)
                        clear HLB0
                        generalize wr = W0 at *
                        have S0O := Lib.hid HP.out.hold.lt
                        have S0V := Lib.hid (show ∀ (j : Nat) (x : Value) (k : Nat), vs1[j]? = some x → x.ownBlock = some k → k < W0.heap.size from fun j x k hx hk => own_lt (HC.out j x hx) k hk)
                        have S0H := Lib.hid (show ∀ k, (Value.slice (some adh) vs1.length c5).ownBlock = some k → k < W0.heap.size from fun k hk => own_lt HP.out.row k hk)
                        have S0D := Lib.hid (show ∀ d ∈ [D2, D1], d < W0.heap.size from fun d hd => blk_lt (HP.out.mks d hd))
                        have S0B := Lib.hid (blk_lt HP.out.box)
                        obtain ⟨S0, hS0⟩ : ∃ s, W0.heap.size = s := ⟨_, rfl⟩
                        rw [hS0] at S0O S0V S0H S0D S0B
                        have HS0 := Lib.hid hS0
                        have RD0 := Lib.hid (show ∀ (j : Nat) (x : Value), vs1[j]? = some x → Rd W0 x (c' j) from fun j x hx => (HC.out j x hx).rd)
                        clear hS0
                        go_loopg [17, 14] vs1.length (fun kq v17 v14 w' => ∃ (i : Nat) (ms : List HbT), v17 = .int .i64 (i : Int) ∧ Hid (i + kq = vs1.length) ∧ Hid (ms.length = i) ∧ Hid (PB V.heap.size V.heap.size [D2, D1] w.heap.size O6 g m v7 ((fls ++ [(⟨p.src, p.dst, fsv, nv, p.bs, p.bs⟩ : Fl)]).eraseIdx 0) (.slice (some adS) ps.length cS) ps (((ownP :: l).filter okP).map letOf) (.slice (some adh) vs1.length c5) vs1 w') ∧ Hid (∀ (j : Nat) (x : Value), vs1[j]? = some x → Rd w' x (c' j)) ∧ Hid (∀ (j : Nat) (x : Value), i ≤ j → vs1[j]? = some x → Ow w' V.heap.size x (c' j)) ∧ Hid (w'.ownsRow S0 tBs 1 v14 ms.length (ms.map (·.1))) ∧ Hid (∀ y ∈ ms, Ow w' V.heap.size y.1 y.2) ∧
                            Hid (∀ (j : Nat) (y : HbT), ms[j]? = some y → Aft j (c' j).length y.2 30 ∧ ∀ k, y.1.ownBlock = some k → (∃ x, vs1[j]? = some x ∧ x.ownBlock = some k) ∨ S0 ≤ k) ∧ Hid (S0 ≤ w'.heap.size) ∧ Hid (Below w.heap.size w w'))
                        case atStart => exact ⟨0, [], rfl, (show _ + _ = _ by omega), rfl, HP.out, RD0.out, (fun j x _ hx => HC.out j x hx), own_nil _ _ _ _, (fun y hy => by cases hy), (fun j y hj => by simp at hj), Nat.le_of_eq HS0.out.symm, HB.out⟩
                        case round =>
                          clear HP HC RD0 HB HS0
                          obtain ⟨i, ms, rfl, HI, HML, HP, HRD, HOW, HMR, HMO2, HMA, HSW, HB⟩ := hrel
                          obtain ⟨Am, cm, rfl⟩ := own_slice HMR.out
                          cases gk with
                          | zero =>
                            have hi : i = vs1.length := HI.out
                            have d1 : decide (i < vs1.length) = false := decide_eq_false (by omega)
                            subst hi
                            have cb := blk1 HP.out.box
                            clear HI HOW
                            go_wp2_with fail
                            as_aux_lemma =>
                              clear cb d1 S0O S0V S0H S0D S0B HSW
                              generalize wr = W1 at *
                              have B0 := Lib.hid (Below.refl W1.heap.size W1)
                              obtain ⟨adm, cm2, hsm, _, _⟩ := row_at (show W1.ownsRow S0 tBs 1 (.slice Am ms.length cm) (ms.map (·.1)).length (ms.map (·.1)) by rw [List.length_map]; exact HMR.out) (show (ms.map (·.1))[0]? = some _ from List.getElem?_eq_getElem (by rw [List.length_map, HML.out]; exact HN1.out.1))
                              have hA : Am = some adm := by injection hsm
                              subst hA
                              clear hsm
                              have HMX := Lib.hid (show ∀ (j : Nat) (y : HbT), ms[j]? = some y → W1.cell? (adm.add j) = some y.1 from fun j y hj => row_at' (show W1.ownsRow S0 tBs 1 (.slice (some adm) ms.length cm) (ms.map (·.1)).length (ms.map (·.1)) by rw [List.length_map]; exact HMR.out) (by rw [List.getElem?_map, hj]; rfl))
                              go_loopg [20] vs1.length (fun kq v20 w' => ∃ (i : Nat), v20 = .int .i64 (i : Int) ∧ Hid (i + kq = vs1.length) ∧ Hid (Below W1.heap.size W1 w'))
                              case atStart => exact ⟨0, rfl, (show _ + _ = _ by omega), B0.out⟩
                              case round =>
                                clear B0
                                obtain ⟨i, rfl, HI, HB1⟩ := hrel
                                have cb := blk1 (HP.out.below HB1.out).box
                                cases gk with
                                | zero =>
                                  have hi : i = vs1.length := HI.out
                                  have d1 : decide (i < vs1.length) = false := decide_eq_false (by omega)
                                  subst hi
                                  clear HI
                                  go_wp2_with fail
                                  as_aux_lemma =>
                                    clear cb d1
                                    have HE := Lib.hid (HP.out.below HB1.out)
                                    have HBW := Lib.hid (below_then HB.out HB.out.size HB1.out)
                                    clear HP HB HB1
                                    generalize wr = W2 at *
                                    have B0 := Lib.hid (Below.refl W2.heap.size W2)
                                    go_loopg [23] (ps.length - 1) (fun kq v23 w' => ∃ (j : Nat), v23 = .int .i64 (j : Int) ∧ Hid (1 ≤ j) ∧ Hid (j + kq = ps.length) ∧ Hid (Below W2.heap.size W2 w'))
                                    case atStart => exact ⟨1, rfl, (show 1 ≤ 1 from Nat.le_refl _), (show 1 + (ps.length - 1) = ps.length by have := HP0.out; omega), B0.out⟩
                                    case round =>
                                      clear B0
                                      obtain ⟨j, rfl, HJ1, HJ, HB⟩ := hrel
                                      cases gk with
                                      | zero =>
                                        have hj : j = ps.length := HJ.out
                                        have d1 : decide (j < ps.length) = false := decide_eq_false (by omega)
                                        obtain ⟨n1, hn1⟩ : ∃ n1, ps.length = n1 + 1 := ⟨ps.length - 1, by have := HP0.out; omega⟩
                                        have HN := Lib.hid hn1
                                        have hwn : wrap64 ((ps.length : Int) - 1) = (n1 : Int) := by rw [hn1, show (((n1 + 1 : Nat) : Int) - 1) = (n1 : Int) by omega]; exact wnat (by have := HPL.out; omega)
                                        have HF9 := Lib.hid (show ((fls ++ [(⟨p.src, p.dst, fsv, nv, p.bs, p.bs⟩ : Fl)]).eraseIdx 0)[n1]? = some (⟨p.src, p.dst, fsv, nv, p.bs, p.bs⟩ : Fl) by
                                          rw [erase_at, List.getElem?_append_right (by have := HCL.out; omega)]
                                          have h0 : n1 + 1 - fls.length = 0 := by have := HCL.out; omega
                                          rw [h0]
                                          rfl)
                                        have HV3 := Lib.hid (HE.out.below HB.out)
                                        clear hj hn1 HJ HJ1
                                        go_wp2_with fail
                                        refine (get_net HV3.out.hold.net HF9.out).mono ?_
                                        rintro e W4 ⟨v4, rfl, ho4, hb4⟩
                                        clear hwn d1
                                        replace ho4 : Ow W4 wr.heap.size v4 p.bs := ho4
                                        obtain ⟨A4, c4, rfl⟩ := own_slice ho4
                                        have ba := below_alloc (Below.refl W4.heap.size W4) (.cells #[.int .i64 p.src, .int .i64 p.dst, .slice A4 p.bs.length c4] tPk)
                                        have P5 := Lib.hid (blk_new W4 (.cells #[.int .i64 p.src, .int .i64 p.dst, .slice A4 p.bs.length c4] tPk))
                                        have B5 := Lib.hid (below_then hb4 hb4.size ba)
                                        have O5 := Lib.hid (ho4.below ba)
                                        clear ho4 hb4 ba
                                        go_upto_region 61 with (fail)
                                        generalize (World.alloc W4 _) = W5 at *
                                        generalize W4.heap.size = b5 at *
                                        have PD := Lib.hid (blk_drew P5.out)
                                        have BD := (below_then (Below.refl _ _) (Nat.le_refl _) B5.out).drew
                                        have HV5 := (HV3.out.below BD).hold
                                        have HD5 := Lib.hid HV5
                                        obtain ⟨ad, c9, hsv, _, y0, y1, y2⟩ := SomeR.at HV5.some_ HPP.out
                                        have e1 : adS = ad := by cases hsv; rfl
                                        rw [← e1] at y0 y1 y2
                                        clear e1 hsv
                                        have hpr := HV5.pv p (List.mem_of_getElem? HPP.out)
                                        obtain ⟨A', c', hpv, _, hC', _⟩ := hpr.rd
                                        rw [hpv] at y2
                                        have CP := Lib.hid (show kB.C W5.drew A' p.bs.length p.bs from hC')
                                        have HR := Lib.hid hpr.rng
                                        have HLN := Lib.hid hpr.len
                                        have CX := Lib.hid (show kB.C W5.drew A4 p.bs.length p.bs by
                                          obtain ⟨A7, c7, e7, _, h7⟩ := O5.out.reads
                                          cases e7
                                          exact Kd.C_below h7 (below_drew (Below.refl _ _)))
                                        have e0 : adS.add 0 = adS := by cases adS; simp [Addr.add]
                                        rw [Nat.zero_mul, e0] at y0 y1 y2
                                        clear e0
                                        have p1 := eq_true HP0.out
                                        have p2 := eq_true (show 0 < (ps.length : Int) by have := HP0.out; omega)
                                        have hpq := HQP.out p (List.mem_of_getElem? HPP.out)
                                        have HAD := Lib.hid (show addrB 4 4 p.src = true ∧ addrB 4 4 p.dst = true by have h1 := hpq.1; rw [okP, Bool.and_eq_true] at h1; exact h1)
                                        have HPM := Lib.hid (show decide ((p.src, p.dst, p.bs) ∈ (ownP :: l).filter okP) = true from decide_eq_true hpq.2)
                                        clear hpq
                                        clear HV5 hpr hpv hC' BD
                                        refine start_ (n := 17) (S := fun w' => (∀ o, w'.cell? ⟨b5, o, none⟩ = #[Value.int .i64 p.src, .int .i64 p.dst, .slice A4 p.bs.length c4][o]?) ∧ w'.cell? adS = some (.int .i64 p.src) ∧ w'.cell? ⟨adS.block, adS.off + 1, none⟩ = some (.int .i64 p.dst) ∧ w'.cell? ⟨adS.block, adS.off + 2, none⟩ = some (.slice A' p.bs.length c')) (ds := []) #[false, false, false, false, false, false, false, false, false, false, false, false, false, false, false, false, false] (by kernel_rfl) rfl rfl ⟨(blkc PD.out), y0, y1, y2⟩ (fun hHeld => ?_)
                                        refine pure_ (i := 0) (N := some 244) (v := ?_) (a' := ?_) #[true, false, false, false, false, false, false, false, false, false, false, false, false, false, false, false, false] rfl rfl (by kernel_rfl) (fun _ _ _ h => h) (Or.inl ⟨by rfl, ?_⟩) ?_ ?_
                                        rotate_left
                                        · intro w'
                                          go_simp
                                          with_reducible rfl
                                        rotate_left
                                        · simp only [Act.put, List.setIfInBounds_toArray, List.set_cons_zero, List.set_cons_succ, i64_w, i32_w]
                                          rfl
                                        refine pure_ (i := 1) (N := some 245) (v := ?_) (a' := ?_) #[true, true, false, false, false, false, false, false, false, false, false, false, false, false, false, false, false] rfl rfl (by kernel_rfl) (fun _ _ _ h => h) (Or.inl ⟨by rfl, ?_⟩) ?_ ?_
                                        rotate_left
                                        · intro w'
                                          go_simp
                                          with_reducible rfl
                                        rotate_left
                                        · simp only [Act.put, List.setIfInBounds_toArray, List.set_cons_zero, List.set_cons_succ, i64_w, i32_w]
                                          rfl
                                        refine pure_ (i := 2) (N := some 246) (v := ?_) (a' := ?_) #[true, true, true, false, false, false, false, false, false, false, false, false, false, false, false, false, false] rfl rfl (by kernel_rfl) (fun _ _ _ h => h) (Or.inl ⟨by rfl, ?_⟩) ?_ ?_
                                        rotate_left
                                        · intro w'
                                          go_simp
                                          with_reducible rfl
                                        rotate_left
                                        · simp only [Act.put, List.setIfInBounds_toArray, List.set_cons_zero, List.set_cons_succ, i64_w, i32_w]
                                          rfl
                                        refine pure_ (i := 4) (N := some 248) (v := ?_) (a' := ?_) #[true, true, true, false, true, false, false, false, false, false, false, false, false, false, false, false, false] rfl rfl (by kernel_rfl) (fun _ _ _ h => h) (Or.inl ⟨by rfl, ?_⟩) ?_ ?_
                                        rotate_left
                                        · intro w'
                                          go_simp
                                          with_reducible rfl
                                        rotate_left
                                        · simp only [Act.put, List.setIfInBounds_toArray, List.set_cons_zero, List.set_cons_succ, i64_w, i32_w]
                                          rfl
                                        refine pure_ (i := 5) (N := some 249) (v := ?_) (a' := ?_) #[true, true, true, false, true, true, false, false, false, false, false, false, false, false, false, false, false] rfl rfl (by kernel_rfl) (fun _ _ _ h => h) (Or.inl ⟨by rfl, ?_⟩) ?_ ?_
                                        rotate_left
                                        · intro w'
                                          go_simp
                                          with_reducible rfl
                                        rotate_left
                                        · simp only [Act.put, List.setIfInBounds_toArray, List.set_cons_zero, List.set_cons_succ, i64_w, i32_w]
                                          rfl
                                        refine take_ (i := 3) (N := some 247) (v := ?_) (a' := ?_) #[true, true, true, true, true, true, false, false, false, false, false, false, false, false, false, false, false] rfl rfl (by kernel_rfl) (fun _ _ _ h => h) (Or.inl ⟨by rfl, ?_⟩) hHeld ?_ ?_
                                        rotate_left
                                        · rintro w' ⟨s0, s1, s2, s3⟩
                                          go_simp
                                          with_reducible rfl
                                        rotate_left
                                        · simp only [Act.put, List.setIfInBounds_toArray, List.set_cons_zero, List.set_cons_succ, i64_w, i32_w]
                                          rfl
                                        refine take_ (i := 6) (N := some 250) (v := ?_) (a' := ?_) #[true, true, true, true, true, true, true, false, false, false, false, false, false, false, false, false, false] rfl rfl (by kernel_rfl) (fun _ _ _ h => h) (Or.inl ⟨by rfl, ?_⟩) hHeld ?_ ?_
                                        rotate_left
                                        · rintro w' ⟨s0, s1, s2, s3⟩
                                          go_simp
                                          with_reducible rfl
                                        rotate_left
                                        · simp only [Act.put, List.setIfInBounds_toArray, List.set_cons_zero, List.set_cons_succ, i64_w, i32_w]
                                          rfl
                                        refine one_ (i := 7) (N := some 251) #[true, true, true, true, true, true, true, true, false, false, false, false, false, false, false, false, false] rfl rfl (by kernel_rfl) (by decide) (fun K hK => ?_)
                                        refine goes_ Try.func18 (by kernel_rfl) rfl #[.agg #[.int .i64 p.src, .int .i64 p.dst, .slice A4 p.bs.length c4], .agg #[.int .i64 p.src, .int .i64 p.dst, .slice A' p.bs.length c']] (by rfl) rfl rfl (by simp only [List.map_toArray, List.map_cons, List.map_nil]; rfl) ?_
                                        with_reducible refine ((equal_any CX.out CP.out HR.out HR.out)).mono ?_
                                        rintro e w9 ⟨rfl, hb9⟩
                                        refine ⟨_, rfl, ?_⟩
                                        rw [show decide ((p.src, p.dst, p.bs) = (p.src, p.dst, p.bs)) = true from decide_eq_true rfl]
                                        have B9 := Lib.hid hb9
                                        refine hK.out _ _ ⟨(blkc (blk_below PD.out hb9)), (cell_below y0 hb9), (cell_below y1 hb9), (cell_below y2 hb9)⟩ (fun hHeld => ?_)
                                        clear hK K
                                        refine norm_ (a' := ?_) ?_ ?_
                                        rotate_left
                                        · show Act.put _ (some 251) _ = _
                                          simp only [Act.put, List.setIfInBounds_toArray, List.set_cons_zero, List.set_cons_succ, i64_w, i32_w]
                                          rfl
                                        refine pure_ (i := 8) (N := some 252) (v := ?_) (a' := ?_) #[true, true, true, true, true, true, true, true, true, false, false, false, false, false, false, false, false] rfl rfl (by kernel_rfl) (fun _ _ _ h => h) (Or.inl ⟨by rfl, ?_⟩) ?_ ?_
                                        rotate_left
                                        · intro w'
                                          go_simp
                                          with_reducible rfl
                                        rotate_left
                                        · simp only [Act.put, List.setIfInBounds_toArray, List.set_cons_zero, List.set_cons_succ, i64_w, i32_w]
                                          rfl
                                        refine pure_ (i := 9) (N := some 253) (v := ?_) (a' := ?_) #[true, true, true, true, true, true, true, true, true, true, false, false, false, false, false, false, false] rfl rfl (by kernel_rfl) (fun _ _ _ h => h) (Or.inl ⟨by rfl, ?_⟩) ?_ ?_
                                        rotate_left
                                        · intro w'
                                          go_simp
                                          with_reducible rfl
                                        rotate_left
                                        · simp only [Act.put, List.setIfInBounds_toArray, List.set_cons_zero, List.set_cons_succ, i64_w, i32_w]
                                          rfl
                                        refine pure_ (i := 10) (N := some 254) (v := ?_) (a' := ?_) #[true, true, true, true, true, true, true, true, true, true, true, false, false, false, false, false, false] rfl rfl (by kernel_rfl) (fun _ _ _ h => h) (Or.inl ⟨by rfl, ?_⟩) ?_ ?_
                                        rotate_left
                                        · intro w'
                                          go_simp
                                          with_reducible rfl
                                        rotate_left
                                        · simp only [Act.put, List.setIfInBounds_toArray, List.set_cons_zero, List.set_cons_succ, i64_w, i32_w]
                                          rfl
                                        refine pure_ (i := 11) (N := some 255) (v := ?_) (a' := ?_) #[true, true, true, true, true, true, true, true, true, true, true, true, false, false, false, false, false] rfl rfl (by kernel_rfl) (fun _ _ _ h => h) (Or.inl ⟨by rfl, ?_⟩) ?_ ?_
                                        rotate_left
                                        · intro w'
                                          go_simp
                                          with_reducible rfl
                                        rotate_left
                                        · simp only [Act.put, List.setIfInBounds_toArray, List.set_cons_zero, List.set_cons_succ, i64_w, i32_w]
                                          rfl
                                        refine pure_ (i := 12) (N := some 256) (v := ?_) (a' := ?_) #[true, true, true, true, true, true, true, true, true, true, true, true, true, false, false, false, false] rfl rfl (by kernel_rfl) (fun _ _ _ h => h) (Or.inl ⟨by rfl, ?_⟩) ?_ ?_
                                        rotate_left
                                        · intro w'
                                          go_simp
                                          with_reducible rfl
                                        rotate_left
                                        · simp only [Act.put, List.setIfInBounds_toArray, List.set_cons_zero, List.set_cons_succ, i64_w, i32_w]
                                          rfl
                                        refine take_ (i := 13) (N := some 257) (v := ?_) (a' := ?_) #[true, true, true, true, true, true, true, true, true, true, true, true, true, true, false, false, false] rfl rfl (by kernel_rfl) (fun _ _ _ h => h) (Or.inl ⟨by rfl, ?_⟩) hHeld ?_ ?_
                                        rotate_left
                                        · rintro w' ⟨s0, s1, s2, s3⟩
                                          go_simp
                                          with_reducible rfl
                                        rotate_left
                                        · simp only [Act.put, List.setIfInBounds_toArray, List.set_cons_zero, List.set_cons_succ, i64_w, i32_w]
                                          rfl
                                        refine one_ (i := 14) (N := some 258) #[true, true, true, true, true, true, true, true, true, true, true, true, true, true, true, false, false] rfl rfl (by kernel_rfl) (by decide) (fun K hK => ?_)
                                        refine goes_ Try.func21 (by kernel_rfl) rfl #[.pointer (some ⟨g, 0, none⟩), .agg #[.int .i64 p.src, .int .i64 p.dst, .slice A' p.bs.length c']] (by rfl) rfl rfl (by simp only [List.map_toArray, List.map_cons, List.map_nil]; rfl) ?_
                                        with_reducible refine ((sent_is2 (HD5.out.below B9.out) (Kd.C_below CP.out B9.out) HAD.out HR.out HLN.out HQR.out (r := true) HPM.out)).mono ?_
                                        rintro e ws ⟨rfl, hbs⟩
                                        refine ⟨_, rfl, ?_⟩
                                        have BS := Lib.hid (below_then B9.out B9.out.size hbs)
                                        refine hK.out _ _ ⟨(blkc (blk_below PD.out BS.out)), (cell_below y0 BS.out), (cell_below y1 BS.out), (cell_below y2 BS.out)⟩ (fun hHeld => ?_)
                                        clear hK K
                                        refine norm_ (a' := ?_) ?_ ?_
                                        rotate_left
                                        · show Act.put _ (some 258) _ = _
                                          simp only [Act.put, List.setIfInBounds_toArray, List.set_cons_zero, List.set_cons_succ, i64_w, i32_w]
                                          rfl
                                        refine pure_ (i := 15) (N := some 259) (v := ?_) (a' := ?_) #[true, true, true, true, true, true, true, true, true, true, true, true, true, true, true, true, false] rfl rfl (by kernel_rfl) (fun _ _ _ h => h) (Or.inl ⟨by rfl, ?_⟩) ?_ ?_
                                        rotate_left
                                        · intro w'
                                          go_simp
                                          with_reducible rfl
                                        rotate_left
                                        · simp only [Act.put, List.setIfInBounds_toArray, List.set_cons_zero, List.set_cons_succ, i64_w, i32_w]
                                          rfl
                                        refine pure_ (i := 16) (N := some 2) (v := ?_) (a' := ?_) #[true, true, true, true, true, true, true, true, true, true, true, true, true, true, true, true, true] rfl rfl (by kernel_rfl) (fun _ _ _ h => h) (Or.inl ⟨by rfl, ?_⟩) ?_ ?_
                                        rotate_left
                                        · intro w'
                                          go_simp
                                          with_reducible rfl
                                        rotate_left
                                        · simp only [Act.put, List.setIfInBounds_toArray, List.set_cons_zero, List.set_cons_succ, i64_w, i32_w]
                                          rfl
                                        refine done_ (by kernel_rfl) ?_
                                        clear y0 y1 y2 p1 p2
                                        have BG := Lib.hid (below_then (below_then B5.out B5.out.size (below_drew (Below.refl W5.heap.size W5))) (by have := B5.out.size; exact this) BS.out)
                                        have HEW := Lib.hid ((HV3.out.below BG.out).mks)
                                        have HMO := Lib.hid HV3.out.mo
                                        have BF := Lib.hid (below_then HBW.out HBW.out.size (below_then HB.out HB.out.size BG.out))
                                        have hD2 := HEW.out D2 (by simp)
                                        have hD1 := HEW.out D1 (by simp)
                                        have hne : D1 ≠ D2 := HDD2.out D1 (by simp)
                                        have hD1' := (World.putObj_heap_other (w := ws) (o := .deferred none) hne).trans hD1
                                        have hwd2 : w.heap.size ≤ D2 := Nat.le_trans HBV.out.size DV2.out
                                        have hwd1 : w.heap.size ≤ D1 := Nat.le_trans HBV.out.size DV1.out
                                        have FIN := Lib.hid ((BF.out.trans (belowK_b (w := w) (Nat.le_refl _) ws D2 _ (.deferred none) hwd2 hD2 rfl rfl)).trans (belowK_b (w := w) (Nat.le_refl _) (ws.putObj D2 (.deferred none)) D1 _ (.deferred none) hwd1 hD1' rfl rfl))
                                        have M2 := Lib.hid hD2
                                        have M1 := Lib.hid hD1'
                                        clear hD2 hD1 hne hD1' hwd2 hwd1
                                        go_wp2_with fail
                                        (try simp only [Exit.inBlock, Exit.then])
                                        exact postM_ret2 M2.out M1.out (results_tmp rfl _ _ _) rfl ⟨rfl, FIN.out⟩
                                      | succ k1 =>
                                        have hj : j < ps.length := by have := HJ.out; omega
                                        have d1 : decide (j < ps.length) = true := decide_eq_true hj
                                        obtain ⟨j0, hj0⟩ : ∃ j0, j = j0 + 1 := ⟨j - 1, by have := HJ1.out; omega⟩
                                        obtain ⟨p2, hp2⟩ : ∃ p2, ps[j]? = some p2 := ⟨_, List.getElem?_eq_getElem hj⟩
                                        obtain ⟨⟨gs, gd, gsv, gnv, gsb, gnb⟩, hf, he1, he2, he3, he4⟩ := HCA.out j p2 hp2
                                        simp only at he1 he2 he3 he4
                                        subst he1 he2 he3 he4
                                        have HP2 := Lib.hid hp2
                                        have HF9 := Lib.hid (show ((fls ++ [(⟨p.src, p.dst, fsv, nv, p.bs, p.bs⟩ : Fl)]).eraseIdx 0)[j0]? = some (⟨p2.src, p2.dst, gsv, gnv, p2.bs, p2.bs⟩ : Fl) by
                                          rw [erase_at, ← hj0, List.getElem?_append_left (by have := HCL.out; omega)]
                                          exact hf)
                                        have HJ2 := Lib.hid (show 1 ≤ j + 1 ∧ j + 1 + k1 = ps.length by have := HJ.out; omega)
                                        have HW3 := Lib.hid (wsucc (i := j) (by have := HPL.out; omega))
                                        have p1 := eq_true hj
                                        have p0 := eq_true (show 0 ≤ (j : Int) by omega)
                                        have hwn : wrap64 ((j : Int) - 1) = (j0 : Int) := by rw [hj0, show (((j0 + 1 : Nat) : Int) - 1) = (j0 : Int) by omega]; exact wnat (by have := HPL.out; omega)
                                        have HV3 := Lib.hid (HE.out.below HB.out)
                                        clear hj hp2 hf HJ HJ1 hj0
                                        go_wp2_with fail
                                        refine (get_net HV3.out.hold.net HF9.out).mono ?_
                                        rintro e W4 ⟨v4, rfl, ho4, hb4⟩
                                        clear hwn d1
                                        replace ho4 : Ow W4 wr.heap.size v4 p2.bs := ho4
                                        obtain ⟨A4, c4, rfl⟩ := own_slice ho4
                                        have ba := below_alloc (Below.refl W4.heap.size W4) (.cells #[.int .i64 p2.src, .int .i64 p2.dst, .slice A4 p2.bs.length c4] tPk)
                                        have P5 := Lib.hid (blk_new W4 (.cells #[.int .i64 p2.src, .int .i64 p2.dst, .slice A4 p2.bs.length c4] tPk))
                                        have B5 := Lib.hid (below_then hb4 hb4.size ba)
                                        have O5 := Lib.hid (ho4.below ba)
                                        clear ho4 hb4 ba
                                        go_upto_region 58 with (fail)
                                        generalize (World.alloc W4 _) = W5 at *
                                        generalize W4.heap.size = b5 at *
                                        have PD := Lib.hid (blk_drew P5.out)
                                        have BD := (below_then (Below.refl _ _) (Nat.le_refl _) B5.out).drew
                                        have HV5 := (HV3.out.below BD).hold
                                        obtain ⟨ad, c9, hsv, _, y0, y1, y2⟩ := SomeR.at HV5.some_ HP2.out
                                        have e1 : adS = ad := by cases hsv; rfl
                                        rw [← e1] at y0 y1 y2
                                        clear e1 hsv
                                        have hpr := HV5.pv p2 (List.mem_of_getElem? HP2.out)
                                        obtain ⟨A', c', hpv, _, hC', _⟩ := hpr.rd
                                        rw [hpv] at y2
                                        have CP := Lib.hid (show kB.C W5.drew A' p2.bs.length p2.bs from hC')
                                        have HR := Lib.hid hpr.rng
                                        have CX := Lib.hid (show kB.C W5.drew A4 p2.bs.length p2.bs by
                                          obtain ⟨A7, c7, e7, _, h7⟩ := O5.out.reads
                                          cases e7
                                          exact Kd.C_below h7 (below_drew (Below.refl _ _)))
                                        clear HV5 hpr hpv hC' BD
                                        refine start_ (n := 11) (S := fun w' => (∀ o, w'.cell? ⟨b5, o, none⟩ = #[Value.int .i64 p2.src, .int .i64 p2.dst, .slice A4 p2.bs.length c4][o]?) ∧ w'.cell? (adS.add (j * 3)) = some (.int .i64 p2.src) ∧ w'.cell? ⟨(adS.add (j * 3)).block, (adS.add (j * 3)).off + 1, none⟩ = some (.int .i64 p2.dst) ∧ w'.cell? ⟨(adS.add (j * 3)).block, (adS.add (j * 3)).off + 2, none⟩ = some (.slice A' p2.bs.length c')) (ds := []) #[false, false, false, false, false, false, false, false, false, false, false] (by kernel_rfl) rfl rfl ⟨(blkc PD.out), y0, y1, y2⟩ (fun hHeld => ?_)
                                        refine pure_ (i := 0) (N := some 225) (v := ?_) (a' := ?_) #[true, false, false, false, false, false, false, false, false, false, false] rfl rfl (by kernel_rfl) (fun _ _ _ h => h) (Or.inl ⟨by rfl, ?_⟩) ?_ ?_
                                        rotate_left
                                        · intro w'
                                          go_simp
                                          with_reducible rfl
                                        rotate_left
                                        · simp only [Act.put, List.setIfInBounds_toArray, List.set_cons_zero, List.set_cons_succ, i64_w, i32_w]
                                          rfl
                                        refine pure_ (i := 1) (N := some 226) (v := ?_) (a' := ?_) #[true, true, false, false, false, false, false, false, false, false, false] rfl rfl (by kernel_rfl) (fun _ _ _ h => h) (Or.inl ⟨by rfl, ?_⟩) ?_ ?_
                                        rotate_left
                                        · intro w'
                                          go_simp
                                          with_reducible rfl
                                        rotate_left
                                        · simp only [Act.put, List.setIfInBounds_toArray, List.set_cons_zero, List.set_cons_succ, i64_w, i32_w]
                                          rfl
                                        refine pure_ (i := 2) (N := some 227) (v := ?_) (a' := ?_) #[true, true, true, false, false, false, false, false, false, false, false] rfl rfl (by kernel_rfl) (fun _ _ _ h => h) (Or.inl ⟨by rfl, ?_⟩) ?_ ?_
                                        rotate_left
                                        · intro w'
                                          go_simp
                                          with_reducible rfl
                                        rotate_left
                                        · simp only [Act.put, List.setIfInBounds_toArray, List.set_cons_zero, List.set_cons_succ, i64_w, i32_w]
                                          rfl
                                        refine pure_ (i := 4) (N := some 229) (v := ?_) (a' := ?_) #[true, true, true, false, true, false, false, false, false, false, false] rfl rfl (by kernel_rfl) (fun _ _ _ h => h) (Or.inl ⟨by rfl, ?_⟩) ?_ ?_
                                        rotate_left
                                        · intro w'
                                          go_simp
                                          with_reducible rfl
                                        rotate_left
                                        · simp only [Act.put, List.setIfInBounds_toArray, List.set_cons_zero, List.set_cons_succ, i64_w, i32_w]
                                          rfl
                                        refine pure_ (i := 5) (N := some 230) (v := ?_) (a' := ?_) #[true, true, true, false, true, true, false, false, false, false, false] rfl rfl (by kernel_rfl) (fun _ _ _ h => h) (Or.inl ⟨by rfl, ?_⟩) ?_ ?_
                                        rotate_left
                                        · intro w'
                                          go_simp
                                          with_reducible rfl
                                        rotate_left
                                        · simp only [Act.put, List.setIfInBounds_toArray, List.set_cons_zero, List.set_cons_succ, i64_w, i32_w]
                                          rfl
                                        refine pure_ (i := 6) (N := some 231) (v := ?_) (a' := ?_) #[true, true, true, false, true, true, true, false, false, false, false] rfl rfl (by kernel_rfl) (fun _ _ _ h => h) (Or.inl ⟨by rfl, ?_⟩) ?_ ?_
                                        rotate_left
                                        · intro w'
                                          go_simp
                                          with_reducible rfl
                                        rotate_left
                                        · simp only [Act.put, List.setIfInBounds_toArray, List.set_cons_zero, List.set_cons_succ, i64_w, i32_w]
                                          rfl
                                        refine take_ (i := 3) (N := some 228) (v := ?_) (a' := ?_) #[true, true, true, true, true, true, true, false, false, false, false] rfl rfl (by kernel_rfl) (fun _ _ _ h => h) (Or.inl ⟨by rfl, ?_⟩) hHeld ?_ ?_
                                        rotate_left
                                        · rintro w' ⟨s0, s1, s2, s3⟩
                                          go_simp
                                          with_reducible rfl
                                        rotate_left
                                        · simp only [Act.put, List.setIfInBounds_toArray, List.set_cons_zero, List.set_cons_succ, i64_w, i32_w]
                                          rfl
                                        refine take_ (i := 7) (N := some 232) (v := ?_) (a' := ?_) #[true, true, true, true, true, true, true, true, false, false, false] rfl rfl (by kernel_rfl) (fun _ _ _ h => h) (Or.inl ⟨by rfl, ?_⟩) hHeld ?_ ?_
                                        rotate_left
                                        · rintro w' ⟨s0, s1, s2, s3⟩
                                          go_simp
                                          with_reducible rfl
                                        rotate_left
                                        · simp only [Act.put, List.setIfInBounds_toArray, List.set_cons_zero, List.set_cons_succ, i64_w, i32_w]
                                          rfl
                                        refine one_ (i := 8) (N := some 233) #[true, true, true, true, true, true, true, true, true, false, false] rfl rfl (by kernel_rfl) (by decide) (fun K hK => ?_)
                                        refine goes_ Try.func18 (by kernel_rfl) rfl #[.agg #[.int .i64 p2.src, .int .i64 p2.dst, .slice A4 p2.bs.length c4], .agg #[.int .i64 p2.src, .int .i64 p2.dst, .slice A' p2.bs.length c']] (by rfl) rfl rfl (by simp only [List.map_toArray, List.map_cons, List.map_nil]; rfl) ?_
                                        with_reducible refine ((equal_any CX.out CP.out HR.out HR.out)).mono ?_
                                        rintro e w9 ⟨rfl, hb9⟩
                                        refine ⟨_, rfl, ?_⟩
                                        rw [show decide ((p2.src, p2.dst, p2.bs) = (p2.src, p2.dst, p2.bs)) = true from decide_eq_true rfl]
                                        have B9 := Lib.hid hb9
                                        refine hK.out _ _ ⟨(blkc (blk_below PD.out hb9)), (cell_below y0 hb9), (cell_below y1 hb9), (cell_below y2 hb9)⟩ (fun hHeld => ?_)
                                        clear hK K
                                        refine norm_ (a' := ?_) ?_ ?_
                                        rotate_left
                                        · show Act.put _ (some 233) _ = _
                                          simp only [Act.put, List.setIfInBounds_toArray, List.set_cons_zero, List.set_cons_succ, i64_w, i32_w]
                                          rfl
                                        refine pure_ (i := 9) (N := some 234) (v := ?_) (a' := ?_) #[true, true, true, true, true, true, true, true, true, true, false] rfl rfl (by kernel_rfl) (fun _ _ _ h => h) (Or.inl ⟨by rfl, ?_⟩) ?_ ?_
                                        rotate_left
                                        · intro w'
                                          go_simp
                                          with_reducible rfl
                                        rotate_left
                                        · simp only [Act.put, List.setIfInBounds_toArray, List.set_cons_zero, List.set_cons_succ, i64_w, i32_w]
                                          rfl
                                        refine pure_ (i := 10) (N := some 235) (v := ?_) (a' := ?_) #[true, true, true, true, true, true, true, true, true, true, true] rfl rfl (by kernel_rfl) (fun _ _ _ h => h) (Or.inl ⟨by rfl, ?_⟩) ?_ ?_
                                        rotate_left
                                        · intro w'
                                          go_simp
                                          with_reducible rfl
                                        rotate_left
                                        · simp only [Act.put, List.setIfInBounds_toArray, List.set_cons_zero, List.set_cons_succ, i64_w, i32_w]
                                          rfl
                                        refine done_ (by kernel_rfl) ?_
                                        clear y0 y1 y2 p0 p1
                                        have BG := Lib.hid (below_then (below_then B5.out B5.out.size (below_drew (Below.refl W5.heap.size W5))) (by have := B5.out.size; exact this) B9.out)
                                        have HB9 := Lib.hid (below_then HB.out HB.out.size BG.out)
                                        go_wp2_with fail
                                        go_roundg k1
                                        case measure => exact Nat.lt_succ_self _
                                        case rel => exact ⟨j + 1, by first | rfl | rw [HW3.out] | exact congrArg (Value.int .i64) HW3.out, Lib.hid HJ2.out.1, Lib.hid HJ2.out.2, HB9⟩

                                | succ k1 =>
                                  have hi : i < vs1.length := by have := HI.out; omega
                                  have d1 : decide (i < vs1.length) = true := decide_eq_true hi
                                  obtain ⟨x, hx⟩ : ∃ x, vs1[i]? = some x := ⟨_, List.getElem?_eq_getElem hi⟩
                                  have HX := Lib.hid hx
                                  have HK0 := Lib.hid (HMK.out i hi)
                                  obtain ⟨y, hy⟩ : ∃ y, ms[i]? = some y := ⟨_, List.getElem?_eq_getElem (by rw [HML.out]; exact hi)⟩
                                  have HY := Lib.hid hy
                                  have HAF := Lib.hid (HMA.out i y hy).1
                                  have HYM := Lib.hid (HMO2.out y (List.mem_of_getElem? hy))
                                  have HYC := Lib.hid (HMX.out i y hy)
                                  obtain ⟨A', n', rfl, hq1, hC', hq3⟩ := HRD.out i x hx
                                  have HC' := Lib.hid hC'
                                  clear hq1 hC' hq3
                                  obtain ⟨yv, yb⟩ := y
                                  obtain ⟨A2, n2, hyv, _, hC2⟩ := HYM.out.reads
                                  simp only at hyv
                                  subst hyv
                                  have HCY := Lib.hid (show kB.C W1 A2 yb.length yb from hC2)
                                  clear hC2
                                  have HWI := Lib.hid (wsucc (i := i) (by have := HN1.out; omega))
                                  have HI2 := Lib.hid (show i + 1 + k1 = vs1.length by have := HI.out; omega)
                                  have HIL := Lib.hid (show i ≤ 4194309 by have := HN1.out; omega)
                                  have HXL := Lib.hid (HLS.out i hi)
                                  have HI3 := Lib.hid hi
                                  clear hx hy HI hi
                                  go_wp2_with fail
                                  clear cb d1
                                  go_loopg [21] (c' i).length (fun kq v21 w' => ∃ (k : Nat), v21 = .int .i64 (k : Int) ∧ Hid (k + kq = (c' i).length) ∧ Hid (Below W1.heap.size W1 w'))
                                  case atStart => exact ⟨0, rfl, (show _ + _ = _ by omega), HB1.out⟩
                                  case round =>
                                    clear HB1
                                    obtain ⟨k, rfl, HK, HB1⟩ := hrel
                                    have PW := HP.out.below HB1.out
                                    have cb := blk1 PW.box
                                    have y1 := row_at' PW.row HX.out
                                    have p0 := eq_true (show 0 ≤ (i : Int) by omega)
                                    have p1 := eq_true HI3.out
                                    clear PW
                                    cases gk with
                                    | zero =>
                                      have hk : k = (c' i).length := HK.out
                                      have d2 : decide (k < (c' i).length) = false := decide_eq_false (by omega)
                                      clear HK
                                      subst hk
                                      go_wp2_with fail
                                      clear cb y1 p0 p1 d2
                                      go_loopg [22] 30 (fun kq v22 w' => ∃ (k : Nat), v22 = .int .i64 (k : Int) ∧ Hid (k + kq = 30) ∧ Hid (Below W1.heap.size W1 w'))
                                      case atStart => exact ⟨0, rfl, (show _ + _ = _ by omega), HB1.out⟩
                                      case round =>
                                        clear HB1
                                        obtain ⟨k, rfl, HK, HB1⟩ := hrel
                                        cases gk with
                                        | zero =>
                                          have hk : k = 30 := HK.out
                                          subst hk
                                          clear HK
                                          go_wp2_with fail
                                          go_roundg k1
                                          case measure => exact Nat.lt_succ_self _
                                          case rel => exact ⟨i + 1, by first | rfl | rw [HWI.out] | exact congrArg (Value.int .i64) HWI.out, HI2, HB1⟩
                                        | succ k2 =>
                                          have hk : k < 30 := by have := HK.out; omega
                                          have d2 : decide ((k : Int) < 30) = true := decide_eq_true (by omega)
                                          have d3 : decide (k < 30) = true := decide_eq_true hk
                                          have HK2 := Lib.hid (show k + 1 + k2 = 30 by have := HK.out; omega)
                                          have hb3 : k ≤ 1000000000000000 ∧ i ≤ 1000000000000000 ∧ (c' i).length ≤ 1000000000000000 := by have := HIL.out; have := HXL.out; omega
                                          have PW := HP.out.below HB1.out
                                          have cb := blk1 PW.box
                                          have y1 := row_at' PW.row HX.out
                                          have y2 := cell_below HYC.out HB1.out
                                          replace y2 : wr.cell? (adm.add i) = some (.slice A2 yb.length n2) := y2
                                          obtain ⟨q, hq⟩ : ∃ q, (c' i).length + k = q := ⟨_, rfl⟩
                                          have hz := HAF.out.2 k hk
                                          simp only [hq] at hz
                                          obtain ⟨ad2, e2, z1⟩ := cB_at (Kd.C_below HCY.out HB1.out) hz
                                          subst e2
                                          have p0 := eq_true (show 0 ≤ (i : Int) by omega)
                                          have p1 := eq_true HI3.out
                                          have p1m := eq_true (show i < ms.length by rw [HML.out]; exact HI3.out)
                                          have p2 := eq_true (show 0 ≤ (q : Int) by omega)
                                          have p3 := eq_true (List.getElem?_eq_some_iff.1 hz).1
                                          have z1' : wr.cell? (ad2.add q) = some (.int .u8 (IntKind.u8.wrap ((i : Int) + 101 + 5 * (k : Int)))) := z1
                                          have hws : wrap64 (((c' i).length : Int) + (k : Int)) = (q : Int) := by rw [← hq]; exact wadd hb3.1 hb3.2.2
                                          have hw5 : wrap64 ((i : Int) + 101) = (i : Int) + 101 := whund hb3.2.1
                                          have hw6 : wrap64 (5 * (k : Int)) = 5 * (k : Int) := wfive hb3.1
                                          have hw7 : wrap64 ((i : Int) + 101 + 5 * (k : Int)) = (i : Int) + 101 + 5 * (k : Int) := wfive' hb3.1 hb3.2.1
                                          have HWK := Lib.hid (wsucc (i := k) hb3.1)
                                          clear hk HK hb3 PW z1 hz hq
                                          go_upto_region 52 with (fail)
                                          have HB2 := Lib.hid HB1.out.drew
                                          have c1' := (show wr.drew.cell? ⟨V.heap.size, 0, none⟩ = some (.slice (some adh) vs1.length c5) from cb)
                                          refine start_ (n := 20) (S := fun w' => w'.cell? ⟨V.heap.size, 0, none⟩ = some (.slice (some adh) vs1.length c5) ∧ w'.cell? (adh.add i) = some (.slice A' (c' i).length n') ∧ w'.cell? (adm.add i) = some (.slice (some ad2) yb.length n2) ∧ w'.cell? (ad2.add q) = some (.int .u8 (IntKind.u8.wrap ((i : Int) + 101 + 5 * (k : Int))))) (ds := []) #[false, false, false, false, false, false, false, false, false, false, false, false, false, false, false, false, false, false, false, false] (by kernel_rfl) rfl rfl ⟨c1', y1, y2, z1'⟩ (fun hHeld => ?_)
                                          refine pure_ (i := 0) (N := some 192) (v := ?_) (a' := ?_) #[true, false, false, false, false, false, false, false, false, false, false, false, false, false, false, false, false, false, false, false] rfl rfl (by kernel_rfl) (fun _ _ _ h => h) (Or.inl ⟨by rfl, ?_⟩) ?_ ?_
                                          rotate_left
                                          · intro w'
                                            go_simp
                                            with_reducible rfl
                                          rotate_left
                                          · simp only [Act.put, List.setIfInBounds_toArray, List.set_cons_zero, List.set_cons_succ, i64_w, i32_w]
                                            rfl
                                          refine pure_ (i := 1) (N := some 193) (v := ?_) (a' := ?_) #[true, true, false, false, false, false, false, false, false, false, false, false, false, false, false, false, false, false, false, false] rfl rfl (by kernel_rfl) (fun _ _ _ h => h) (Or.inl ⟨by rfl, ?_⟩) ?_ ?_
                                          rotate_left
                                          · intro w'
                                            go_simp
                                            with_reducible rfl
                                          rotate_left
                                          · simp only [Act.put, List.setIfInBounds_toArray, List.set_cons_zero, List.set_cons_succ, i64_w, i32_w]
                                            rfl
                                          refine pure_ (i := 2) (N := some 194) (v := ?_) (a' := ?_) #[true, true, true, false, false, false, false, false, false, false, false, false, false, false, false, false, false, false, false, false] rfl rfl (by kernel_rfl) (fun _ _ _ h => h) (Or.inl ⟨by rfl, ?_⟩) ?_ ?_
                                          rotate_left
                                          · intro w'
                                            go_simp
                                            with_reducible rfl
                                          rotate_left
                                          · simp only [Act.put, List.setIfInBounds_toArray, List.set_cons_zero, List.set_cons_succ, i64_w, i32_w]
                                            rfl
                                          refine pure_ (i := 5) (N := some 197) (v := ?_) (a' := ?_) #[true, true, true, false, false, true, false, false, false, false, false, false, false, false, false, false, false, false, false, false] rfl rfl (by kernel_rfl) (fun _ _ _ h => h) (Or.inl ⟨by rfl, ?_⟩) ?_ ?_
                                          rotate_left
                                          · intro w'
                                            go_simp
                                            with_reducible rfl
                                          rotate_left
                                          · simp only [Act.put, List.setIfInBounds_toArray, List.set_cons_zero, List.set_cons_succ, i64_w, i32_w]
                                            rfl
                                          refine pure_ (i := 9) (N := some 201) (v := ?_) (a' := ?_) #[true, true, true, false, false, true, false, false, false, true, false, false, false, false, false, false, false, false, false, false] rfl rfl (by kernel_rfl) (fun _ _ _ h => h) (Or.inl ⟨by rfl, ?_⟩) ?_ ?_
                                          rotate_left
                                          · intro w'
                                            go_simp
                                            with_reducible rfl
                                          rotate_left
                                          · simp only [Act.put, List.setIfInBounds_toArray, List.set_cons_zero, List.set_cons_succ, i64_w, i32_w]
                                            rfl
                                          refine pure_ (i := 13) (N := some 205) (v := ?_) (a' := ?_) #[true, true, true, false, false, true, false, false, false, true, false, false, false, true, false, false, false, false, false, false] rfl rfl (by kernel_rfl) (fun _ _ _ h => h) (Or.inl ⟨by rfl, ?_⟩) ?_ ?_
                                          rotate_left
                                          · intro w'
                                            go_simp
                                            with_reducible rfl
                                          rotate_left
                                          · simp only [Act.put, List.setIfInBounds_toArray, List.set_cons_zero, List.set_cons_succ, i64_w, i32_w]
                                            rfl
                                          refine pure_ (i := 14) (N := some 206) (v := ?_) (a' := ?_) #[true, true, true, false, false, true, false, false, false, true, false, false, false, true, true, false, false, false, false, false] rfl rfl (by kernel_rfl) (fun _ _ _ h => h) (Or.inl ⟨by rfl, ?_⟩) ?_ ?_
                                          rotate_left
                                          · intro w'
                                            go_simp
                                            with_reducible rfl
                                          rotate_left
                                          · simp only [Act.put, List.setIfInBounds_toArray, List.set_cons_zero, List.set_cons_succ, i64_w, i32_w]
                                            rfl
                                          refine pure_ (i := 15) (N := some 207) (v := ?_) (a' := ?_) #[true, true, true, false, false, true, false, false, false, true, false, false, false, true, true, true, false, false, false, false] rfl rfl (by kernel_rfl) (fun _ _ _ h => h) (Or.inl ⟨by rfl, ?_⟩) ?_ ?_
                                          rotate_left
                                          · intro w'
                                            go_simp
                                            with_reducible rfl
                                          rotate_left
                                          · simp only [Act.put, List.setIfInBounds_toArray, List.set_cons_zero, List.set_cons_succ, i64_w, i32_w]
                                            rfl
                                          refine pure_ (i := 16) (N := some 208) (v := ?_) (a' := ?_) #[true, true, true, false, false, true, false, false, false, true, false, false, false, true, true, true, true, false, false, false] rfl rfl (by kernel_rfl) (fun _ _ _ h => h) (Or.inl ⟨by rfl, ?_⟩) ?_ ?_
                                          rotate_left
                                          · intro w'
                                            go_simp
                                            with_reducible rfl
                                          rotate_left
                                          · simp only [Act.put, List.setIfInBounds_toArray, List.set_cons_zero, List.set_cons_succ, i64_w, i32_w]
                                            rfl
                                          refine pure_ (i := 17) (N := some 209) (v := ?_) (a' := ?_) #[true, true, true, false, false, true, false, false, false, true, false, false, false, true, true, true, true, true, false, false] rfl rfl (by kernel_rfl) (fun _ _ _ h => h) (Or.inl ⟨by rfl, ?_⟩) ?_ ?_
                                          rotate_left
                                          · intro w'
                                            go_simp
                                            with_reducible rfl
                                          rotate_left
                                          · simp only [Act.put, List.setIfInBounds_toArray, List.set_cons_zero, List.set_cons_succ, i64_w, i32_w]
                                            rfl
                                          refine pure_ (i := 18) (N := some 210) (v := ?_) (a' := ?_) #[true, true, true, false, false, true, false, false, false, true, false, false, false, true, true, true, true, true, true, false] rfl rfl (by kernel_rfl) (fun _ _ _ h => h) (Or.inl ⟨by rfl, ?_⟩) ?_ ?_
                                          rotate_left
                                          · intro w'
                                            go_simp
                                            with_reducible rfl
                                          rotate_left
                                          · simp only [Act.put, List.setIfInBounds_toArray, List.set_cons_zero, List.set_cons_succ, i64_w, i32_w]
                                            rfl
                                          refine take_ (i := 3) (N := some 195) (v := ?_) (a' := ?_) #[true, true, true, true, false, true, false, false, false, true, false, false, false, true, true, true, true, true, true, false] rfl rfl (by kernel_rfl) (fun _ _ _ h => h) (Or.inl ⟨by rfl, ?_⟩) hHeld ?_ ?_
                                          rotate_left
                                          · rintro w' ⟨s0, s1, s2, s3⟩
                                            go_simp
                                            with_reducible rfl
                                          rotate_left
                                          · simp only [Act.put, List.setIfInBounds_toArray, List.set_cons_zero, List.set_cons_succ, i64_w, i32_w]
                                            rfl
                                          refine take_ (i := 4) (N := some 196) (v := ?_) (a' := ?_) #[true, true, true, true, true, true, false, false, false, true, false, false, false, true, true, true, true, true, true, false] rfl rfl (by kernel_rfl) (fun _ _ _ h => h) (Or.inl ⟨by rfl, ?_⟩) hHeld ?_ ?_
                                          rotate_left
                                          · rintro w' ⟨s0, s1, s2, s3⟩
                                            go_simp
                                            with_reducible rfl
                                          rotate_left
                                          · simp only [Act.put, List.setIfInBounds_toArray, List.set_cons_zero, List.set_cons_succ, i64_w, i32_w]
                                            rfl
                                          refine pure_ (i := 6) (N := some 198) (v := ?_) (a' := ?_) #[true, true, true, true, true, true, true, false, false, true, false, false, false, true, true, true, true, true, true, false] rfl rfl (by kernel_rfl) (fun _ _ _ h => h) (Or.inl ⟨by rfl, ?_⟩) ?_ ?_
                                          rotate_left
                                          · intro w'
                                            go_simp
                                            with_reducible rfl
                                          rotate_left
                                          · simp only [Act.put, List.setIfInBounds_toArray, List.set_cons_zero, List.set_cons_succ, i64_w, i32_w]
                                            rfl
                                          refine take_ (i := 7) (N := some 199) (v := ?_) (a' := ?_) #[true, true, true, true, true, true, true, true, false, true, false, false, false, true, true, true, true, true, true, false] rfl rfl (by kernel_rfl) (fun _ _ _ h => h) (Or.inl ⟨by rfl, ?_⟩) hHeld ?_ ?_
                                          rotate_left
                                          · rintro w' ⟨s0, s1, s2, s3⟩
                                            go_simp
                                            with_reducible rfl
                                          rotate_left
                                          · simp only [Act.put, List.setIfInBounds_toArray, List.set_cons_zero, List.set_cons_succ, i64_w, i32_w]
                                            rfl
                                          refine pure_ (i := 8) (N := some 200) (v := ?_) (a' := ?_) #[true, true, true, true, true, true, true, true, true, true, false, false, false, true, true, true, true, true, true, false] rfl rfl (by kernel_rfl) (fun _ _ _ h => h) (Or.inl ⟨by rfl, ?_⟩) ?_ ?_
                                          rotate_left
                                          · intro w'
                                            go_simp
                                            with_reducible rfl
                                          rotate_left
                                          · simp only [Act.put, List.setIfInBounds_toArray, List.set_cons_zero, List.set_cons_succ, i64_w, i32_w]
                                            rfl
                                          refine pure_ (i := 10) (N := some 202) (v := ?_) (a' := ?_) #[true, true, true, true, true, true, true, true, true, true, true, false, false, true, true, true, true, true, true, false] rfl rfl (by kernel_rfl) (fun _ _ _ h => h) (Or.inl ⟨by rfl, ?_⟩) ?_ ?_
                                          rotate_left
                                          · intro w'
                                            go_simp
                                            with_reducible rfl
                                          rotate_left
                                          · simp only [Act.put, List.setIfInBounds_toArray, List.set_cons_zero, List.set_cons_succ, i64_w, i32_w]
                                            rfl
                                          refine pure_ (i := 11) (N := some 203) (v := ?_) (a' := ?_) #[true, true, true, true, true, true, true, true, true, true, true, true, false, true, true, true, true, true, true, false] rfl rfl (by kernel_rfl) (fun _ _ _ h => h) (Or.inl ⟨by rfl, ?_⟩) ?_ ?_
                                          rotate_left
                                          · intro w'
                                            go_simp
                                            with_reducible rfl
                                          rotate_left
                                          · simp only [Act.put, List.setIfInBounds_toArray, List.set_cons_zero, List.set_cons_succ, i64_w, i32_w]
                                            rfl
                                          refine take_ (i := 12) (N := some 204) (v := ?_) (a' := ?_) #[true, true, true, true, true, true, true, true, true, true, true, true, true, true, true, true, true, true, true, false] rfl rfl (by kernel_rfl) (fun _ _ _ h => h) (Or.inl ⟨by rfl, ?_⟩) hHeld ?_ ?_
                                          rotate_left
                                          · rintro w' ⟨s0, s1, s2, s3⟩
                                            go_simp
                                            with_reducible rfl
                                          rotate_left
                                          · simp only [Act.put, List.setIfInBounds_toArray, List.set_cons_zero, List.set_cons_succ, i64_w, i32_w]
                                            rfl
                                          refine pure_ (i := 19) (N := some 211) (v := ?_) (a' := ?_) #[true, true, true, true, true, true, true, true, true, true, true, true, true, true, true, true, true, true, true, true] rfl rfl (by kernel_rfl) (fun _ _ _ h => h) (Or.inl ⟨by rfl, ?_⟩) ?_ ?_
                                          rotate_left
                                          · intro w'
                                            go_simp
                                            with_reducible rfl
                                          rotate_left
                                          · simp only [Act.put, List.setIfInBounds_toArray, List.set_cons_zero, List.set_cons_succ, i64_w, i32_w]
                                            rfl
                                          refine done_ (by kernel_rfl) ?_
                                          clear cb c1' y1 y2 z1' p0 p1 p1m p2 p3 hws hw5 hw6 hw7 d2 d3
                                          go_wp2_with fail
                                          go_roundg k2
                                          case measure => exact Nat.lt_succ_self _
                                          case rel => exact ⟨k + 1, by first | rfl | rw [HWK.out] | exact congrArg (Value.int .i64) HWK.out, HK2, HB2⟩
                                    | succ k2 =>
                                      have hk : k < (c' i).length := by have := HK.out; omega
                                      have d2 : decide (k < (c' i).length) = true := decide_eq_true hk
                                      obtain ⟨ad2, e2, z1⟩ := cB_at (Kd.C_below HC'.out HB1.out) (HK0.out k hk)
                                      subst e2
                                      have HK2 := Lib.hid (show k + 1 + k2 = (c' i).length by have := HK.out; omega)
                                      have hb3 : k ≤ 1000000000000000 ∧ i ≤ 1000000000000000 := by have := HIL.out; have := HXL.out; omega
                                      have z1' : wr.cell? (ad2.add k) = some (.int .u8 (IntKind.u8.wrap ((i : Int) + 3 * (k : Int)))) := z1
                                      have p2 := eq_true (show 0 ≤ (k : Int) by omega)
                                      have p3 := eq_true hk
                                      have hw3 : wrap64 (3 * (k : Int)) = 3 * (k : Int) := wthree hb3.1
                                      have hw4 : wrap64 ((i : Int) + 3 * (k : Int)) = (i : Int) + 3 * (k : Int) := wthree' hb3.1 hb3.2
                                      have HWK := Lib.hid (wsucc (i := k) hb3.1)
                                      clear hk HK hb3 z1
                                      go_wp2_with fail
                                      clear cb y1 z1' p0 p1 p2 p3 hw3 hw4 d2
                                      go_roundg k2
                                      case measure => exact Nat.lt_succ_self _
                                      case rel => exact ⟨k + 1, by first | rfl | rw [HWK.out] | exact congrArg (Value.int .i64) HWK.out, HK2, HB1⟩

                          | succ k1 =>
                            have hi : i < vs1.length := by have := HI.out; omega
                            have d1 : decide (i < vs1.length) = true := decide_eq_true hi
                            obtain ⟨x, hx⟩ : ∃ x, vs1[i]? = some x := ⟨_, List.getElem?_eq_getElem hi⟩
                            have HX := Lib.hid hx
                            have OX := Lib.hid (HOW.out i x (Nat.le_refl _) hx)
                            obtain ⟨Si, hSi⟩ : ∃ s, wr.heap.size = s := ⟨_, rfl⟩
                            have HG0 := Lib.hid (show GR V.heap.size V.heap.size [D2, D1] w.heap.size O6 g m v7 ((fls ++ [(⟨p.src, p.dst, fsv, nv, p.bs, p.bs⟩ : Fl)]).eraseIdx 0) (.slice (some adS) ps.length cS) ps (((ownP :: l).filter okP).map letOf) (.slice (some adh) vs1.length c5) vs1 c' S0 Si i (.slice Am ms.length cm) ms x x (c' i) wr from ⟨HP.out, HRD.out, (fun j x hj hx => HOW.out j x (by omega) hx), HMR.out, HMO2.out, OX.out, .inl rfl, (fun q _ => rfl), Nat.le_refl _, Nat.le_of_eq hSi.symm⟩)
                            have HSI := Lib.hid (show S0 ≤ Si by rw [← hSi]; exact HSW.out)
                            have HMS := Lib.hid (show ∀ y ∈ ms, ∀ k, y.1.ownBlock = some k → k < Si ∧ x.ownBlock ≠ some k from fun y hy k hk => by
                              refine ⟨by rw [← hSi]; exact own_lt (HMO2.out y hy) k hk, fun e => ?_⟩
                              obtain ⟨j, hj⟩ := List.getElem?_of_mem hy
                              have hjl := (List.getElem?_eq_some_iff.1 hj).1
                              rcases (HMA.out j y hj).2 k hk with ⟨x2, h1, h2⟩ | h1
                              · exact parted_at HP.out.ap h1 hx (by have := HML.out; omega) h2 e
                              · have := S0V.out i x k hx e; omega)
                            have HWI := Lib.hid (wsucc (i := i) (by have := HN1.out; omega))
                            have HI2 := Lib.hid (show i + 1 + k1 = vs1.length by have := HI.out; omega)
                            have HIL := Lib.hid (show i ≤ 4194309 by have := HN1.out; omega)
                            have HXL := Lib.hid (HLS.out i hi)
                            have hx0 := OX.out.rd
                            obtain ⟨A', n', rfl, hq1, hq2, hq3⟩ := hx0
                            clear hq1 hq2 hq3
                            have cb := blk1 HP.out.box
                            have y1 := row_at' HP.out.row HX.out
                            have p0 := eq_true (show 0 ≤ (i : Int) by omega)
                            have p1 := eq_true hi
                            clear hx hSi HI hi HP HRD HOW HMR HMO2 OX
                            go_wp2_with fail
                            clear cb d1 y1 p0 p1
                            go_loopg [19, 18] 30 (fun kq v19 v18 w' => ∃ (k : Nat) (xs : List Int), v19 = .int .i64 (k : Int) ∧ Hid (k + kq = 30) ∧ Hid (GR V.heap.size V.heap.size [D2, D1] w.heap.size O6 g m v7 ((fls ++ [(⟨p.src, p.dst, fsv, nv, p.bs, p.bs⟩ : Fl)]).eraseIdx 0) (.slice (some adS) ps.length cS) ps (((ownP :: l).filter okP).map letOf) (.slice (some adh) vs1.length c5) vs1 c' S0 Si i (.slice Am ms.length cm) ms (.slice A' (c' i).length n') v18 xs w') ∧ Hid (Aft i (c' i).length xs k) ∧ Hid (Below w.heap.size w w'))
                            case atStart => exact ⟨0, c' i, rfl, (show _ + _ = _ by omega), HG0.out, ⟨rfl, fun q hq => by omega⟩, HB.out⟩
                            case round =>
                              clear HG0 HB
                              obtain ⟨k, xs, rfl, HK, HG, HAF, HB⟩ := hrel
                              obtain ⟨Ax, cx, rfl⟩ := own_slice HG.out.x
                              cases gk with
                              | zero =>
                                have hk : k = 30 := HK.out
                                subst hk
                                clear HK
                                have SW := Lib.hid (Below.refl S0 wr)
                                have SZ := Lib.hid (show S0 ≤ wr.heap.size from Nat.le_trans HSI.out HG.out.si)
                                have HML2 := Lib.hid (show (ms.length + 1) * 24 ≤ 140737488355328 by have h1 := HML.out; have h2 := HIL.out; omega)
                                go_wp2_with (at_builtin; refine print_append_cells (w0 := wr) S0 rfl (.tmp 156) (.tmp 158) tBss tBs (.slice none 0 0) 1 24 rfl Try.underlying45 infoBs rfl (by decide) (by decide) (.slice Am ms.length cm) ms.length (ms.map (·.1)) [.slice Ax xs.length cx] rfl rfl rfl (by intro u hu; rw [List.mem_singleton.1 hu]; rfl) HG.out.mr SW.out SZ.out HML2.out ?_; intro v5 w5 ho5 hb5 hg5 hat5; (have HO5 := Lib.hid ho5); (have HB5 := Lib.hid hb5); (have HG5 := Lib.hid hg5); obtain ⟨A5, c5', rfl⟩ := own_slice ho5; clear ho5 hb5 hg5 hat5)
                                have hm5 : ∀ k, k < S0 → w5.heap[k]? = wr.heap[k]? := fun k hk => HB5.out.block k hk
                                have hmm : ∀ (y : Value) (ys : List Int), Ow wr V.heap.size y ys → Ow w5 V.heap.size y ys := fun y ys hy => hy.move (fun k hk => by
                                  obtain ⟨cs, hc⟩ := hy.typed hk
                                  refine HG5.out.block k (blk_lt hc) (fun e => ?_)
                                  obtain ⟨cs2, hc2⟩ := own_typed HG.out.mr k e.symm
                                  rw [hc] at hc2
                                  injection hc2 with hc2
                                  injection hc2 with _ hc2 _
                                  exact absurd hc2 (by decide))
                                have HNX : Hid (PB V.heap.size V.heap.size [D2, D1] w.heap.size O6 g m v7 ((fls ++ [(⟨p.src, p.dst, fsv, nv, p.bs, p.bs⟩ : Fl)]).eraseIdx 0) (.slice (some adS) ps.length cS) ps (((ownP :: l).filter okP).map letOf) (.slice (some adh) vs1.length c5) vs1 w5 ∧ (∀ (j : Nat) (x : Value), vs1[j]? = some x → Rd w5 x (c' j)) ∧ (∀ (j : Nat) (x : Value), i + 1 ≤ j → vs1[j]? = some x → Ow w5 V.heap.size x (c' j)) ∧ (∀ y ∈ ms ++ [((.slice Ax xs.length cx, xs) : HbT)], Ow w5 V.heap.size y.1 y.2) ∧ S0 ≤ w5.heap.size ∧ Below w.heap.size w w5) := Lib.hid ⟨HG.out.pb.above HB5.out.size hm5 S0O.out (Nat.le_of_lt S0B.out) S0B.out S0H.out S0D.out, fun j x hx => (HG.out.rd j x hx).above hm5 (fun k hk => S0V.out j x k hx hk), fun j x hj hx => (HG.out.ow j x (by omega) hx).move (fun k hk => hm5 k (S0V.out j x k hx hk)), fun y hy => by
                                  rcases List.mem_append.1 hy with hy | hy
                                  · exact hmm _ _ (HG.out.mo y hy)
                                  · rw [List.mem_singleton.1 hy]; exact hmm _ _ HG.out.x, Nat.le_trans SZ.out HB5.out.size, HB.out.trans (HB5.out.mono (Nat.le_trans HBV.out.size (Nat.le_of_lt S0B.out)))⟩
                                have HMA2 := Lib.hid (show ∀ (j : Nat) (y : HbT), (ms ++ [((.slice Ax xs.length cx, xs) : HbT)])[j]? = some y → Aft j (c' j).length y.2 30 ∧ ∀ k, y.1.ownBlock = some k → (∃ x, vs1[j]? = some x ∧ x.ownBlock = some k) ∨ S0 ≤ k from fun j y hj => by
                                  rcases snoc_at hj with ⟨rfl, rfl⟩ | ⟨_, _, h3⟩
                                  · rw [HML.out]
                                    refine ⟨HAF.out, fun k hk => ?_⟩
                                    rcases HG.out.blk with hb | ⟨b, hb, hl⟩
                                    · exact .inl ⟨_, HX.out, by rw [← hb]; exact hk⟩
                                    · have h1 : b = k := Option.some.inj (hb.symm.trans hk)
                                      exact .inr (by have := HSI.out; omega)
                                  · exact HMA.out j y h3)
                                have HMR2 := Lib.hid (show w5.ownsRow S0 tBs 1 (.slice A5 (ms.length + 1) c5') (ms ++ [((.slice Ax xs.length cx, xs) : HbT)]).length ((ms ++ [((.slice Ax xs.length cx, xs) : HbT)]).map (·.1)) from by rw [List.length_append, List.length_singleton, List.map_append]; exact HO5.out)
                                have HML3 := Lib.hid (show (ms ++ [((.slice Ax xs.length cx, xs) : HbT)]).length = i + 1 by rw [List.length_append, List.length_singleton, HML.out])
                                clear hm5 hmm
                                go_roundg k1
                                case measure => exact Nat.lt_succ_self _
                                case rel => exact ⟨i + 1, _, by first | rfl | rw [HWI.out] | exact congrArg (Value.int .i64) HWI.out, HI2, HML3, Lib.hid HNX.out.1, Lib.hid HNX.out.2.1, Lib.hid HNX.out.2.2.1, HMR2, Lib.hid HNX.out.2.2.2.1, HMA2, Lib.hid HNX.out.2.2.2.2.1, Lib.hid HNX.out.2.2.2.2.2⟩
                              | succ k2 =>
                                have hk : k < 30 := by have := HK.out; omega
                                have d2 : decide ((k : Int) < 30) = true := decide_eq_true (by omega)
                                have d3 : decide (k < 30) = true := decide_eq_true hk
                                have HK2 := Lib.hid (show k + 1 + k2 = 30 by have := HK.out; omega)
                                have hb3 : k ≤ 1000000000000000 ∧ i ≤ 1000000000000000 := by have := HIL.out; omega
                                have hrl : xs.length + 1 ≤ 140737488355328 := by have h1 := HAF.out.1; have h2 := HXL.out; omega
                                have ba := below_alloc (Below.refl wr.heap.size wr) (.cells #[.int .u8 (akb i k)] tU8)
                                have hV : V.heap.size ≤ (wr.alloc (.cells #[.int .u8 (akb i k)] tU8)).heap.size := by have h1 := HSI.out; have h2 := HG.out.si; have h3 := S0B.out; simp; omega
                                have HBA := Lib.hid (below_then HB.out HB.out.size ba)
                                obtain ⟨v1, w1, hrun, ho1, hg1, hcase⟩ := byte_app (wr.alloc (.cells #[.int .u8 (akb i k)] tU8)) tBs (HG.out.x.below ba) ⟨wr.heap.size, 0, none⟩ (akb i k) (by rw [add_plain]; exact blk_cell (blk_new wr (.cells #[.int .u8 (akb i k)] tU8)) 0) hV hrl
                                have G1 := Lib.hid ((HG.out.below ba).step HX.out (by have h1 := HSI.out; have h3 := S0B.out; omega) (fun k' hk' => HOO.out i _ k' HX.out hk') (fun k' hk' => Nat.lt_of_lt_of_le (S0O.out k' hk') HSI.out) (fun j x k' hx hk' => Nat.lt_of_lt_of_le (S0V.out j x k' hx hk') HSI.out) HMS.out ho1 hg1.size hcase)
                                have B1 := Lib.hid (show Below w.heap.size w w1 from Below.grown HBA.out hg1 HBA.out.size (fun j ej => Nat.le_trans HBV.out.size (own_base HG.out.x j ej)))
                                have A1 := Lib.hid HAF.out.next
                                have HRUN := Lib.hid hrun
                                have hw5 : wrap64 ((i : Int) + 101) = (i : Int) + 101 := whund hb3.2
                                have hw6 : wrap64 (5 * (k : Int)) = 5 * (k : Int) := wfive hb3.1
                                have hw7 : wrap64 ((i : Int) + 101 + 5 * (k : Int)) = (i : Int) + 101 + 5 * (k : Int) := wfive' hb3.1 hb3.2
                                have HWK := Lib.hid (wsucc (i := k) hb3.1)
                                clear hk HK hb3 hrl ba hV hrun ho1 hg1 hcase HBA
                                go_wp2_with (at_builtin; refine app_wpl rfl (.tmp 147) (.tmp 154) tBs rfl rfl rfl HRUN.out ?_)
                                go_roundg k2
                                case measure => exact Nat.lt_succ_self _
                                case rel => exact ⟨k + 1, xs ++ [akb i k], by first | rfl | rw [HWK.out] | exact congrArg (Value.int .i64) HWK.out, HK2, G1, A1, B1⟩

                    | succ k1 =>
                      have hi : i < vs1.length := by have := HI.out; omega
                      have d1 : decide (i < vs1.length) = true := decide_eq_true hi
                      obtain ⟨x, hx⟩ : ∃ x, vs1[i]? = some x := ⟨_, List.getElem?_eq_getElem hi⟩
                      have HX := Lib.hid hx
                      have HLB := Lib.hid (show (c' i).length ≤ 140737488351232 by rw [HCN.out i]; exact (HC0.out i x hx).2)
                      obtain ⟨A', n', rfl, hq1, hq2, hq3⟩ := (HC.out i x hx).rd
                      clear hq1 hq2 hq3
                      have HWI := Lib.hid (wsucc (i := i) (by have := HN1.out; omega))
                      have HI2 := Lib.hid (show i + 1 + k1 = vs1.length by have := HI.out; omega)
                      have HIL := Lib.hid hi
                      have cb := blk1 HP.out.box
                      have CI : Hid (∀ (j : Nat) (x : Value), vs1[j]? = some x → Ow wr V.heap.size x (more c' i (c' i) j)) := Lib.hid (fun j x hjx => by
                        by_cases h : j = i
                        · rw [h, more_at]; rw [h] at hjx; exact HC.out i x hjx
                        · rw [more_ne _ _ h]; exact HC.out j x hjx)
                      clear hx HI hi
                      go_wp2_with fail
                      clear cb d1
                      go_loopg [16] (c' i).length (fun kq v16 w' => ∃ (k : Nat) (xs : List Int), v16 = .int .i64 (k : Int) ∧ Hid (k + kq = (c' i).length) ∧ Hid (xs.length = (c' i).length) ∧ Hid (PB V.heap.size V.heap.size [D2, D1] w.heap.size O6 g m v7 ((fls ++ [(⟨p.src, p.dst, fsv, nv, p.bs, p.bs⟩ : Fl)]).eraseIdx 0) (.slice (some adS) ps.length cS) ps (((ownP :: l).filter okP).map letOf) (.slice (some adh) vs1.length c5) vs1 w') ∧ Hid (∀ (j : Nat) (x : Value), vs1[j]? = some x → Ow w' V.heap.size x (more c' i xs j)) ∧ Hid (∀ q, q < k → xs[q]? = some (mkb i q)) ∧ Hid (Below w.heap.size w w'))
                      case atStart => exact ⟨0, c' i, rfl, (show _ + _ = _ by omega), rfl, HP.out, CI.out, (fun q hq => by omega), HB.out⟩
                      case round =>
                        clear CI HP HC HB
                        obtain ⟨k, xs, rfl, HK, HXL, HP, HC, HM, HB⟩ := hrel
                        have cb := blk1 HP.out.box
                        have y1 := row_at' HP.out.row HX.out
                        have p0 := eq_true (show 0 ≤ (i : Int) by omega)
                        have p1 := eq_true HIL.out
                        cases gk with
                        | zero =>
                          have hk : k = (c' i).length := HK.out
                          have d2 : decide (k < (c' i).length) = false := decide_eq_false (by omega)
                          clear HK
                          subst hk
                          go_wp2_with fail
                          go_roundg k1
                          case measure => exact Nat.lt_succ_self _
                          case rel => exact ⟨i + 1, more c' i xs, by first | rfl | rw [HWI.out] | exact congrArg (Value.int .i64) HWI.out, HI2, HP, HC, Lib.hid (fun j => by
                            by_cases h : j = i
                            · rw [h, more_at, HXL.out]; exact HCN.out i
                            · rw [more_ne _ _ h]; exact HCN.out j), Lib.hid (fun j hj => by
                            by_cases h : j = i
                            · rw [h, more_at]; intro q hq; exact HM.out q (by rw [← HXL.out]; exact hq)
                            · rw [more_ne _ _ h]; exact HMK.out j (by omega)), HB⟩
                        | succ k2 =>
                          have hk : k < (c' i).length := by have := HK.out; omega
                          have d2 : decide (k < (c' i).length) = true := decide_eq_true hk
                          obtain ⟨y0, hy⟩ : ∃ y0, xs[k]? = some y0 := ⟨_, List.getElem?_eq_getElem (by rw [HXL.out]; exact hk)⟩
                          obtain ⟨ad2, n2, hxe, _, z1, z2, hz3, hz4⟩ := held_set HP.out HC.out HX.out (k := k) (y0 := y0) (by rw [more_at]; exact hy) HOO.out
                          obtain rfl : A' = some ad2 := by injection hxe
                          clear hxe
                          have HZ4 := Lib.hid hz4
                          have HK2 := Lib.hid (show k + 1 + k2 = (c' i).length by have := HK.out; omega)
                          have HKL := Lib.hid hk
                          have HWK := Lib.hid (wsucc (i := k) (by have := HLB.out; omega))
                          have p2 := eq_true (show 0 ≤ (k : Int) by omega)
                          have p3 := eq_true hk
                          have hb3 : k ≤ 1000000000000000 ∧ i ≤ 1000000000000000 := by have := HLB.out; have := HN1.out; have := HIL.out; omega
                          have hw3 : wrap64 (3 * (k : Int)) = 3 * (k : Int) := wthree hb3.1
                          have hw4 : wrap64 ((i : Int) + 3 * (k : Int)) = (i : Int) + 3 * (k : Int) := wthree' hb3.1 hb3.2
                          clear hk HK hy hz4 hb3
                          go_wp2_with fail
                          clear cb y1 z1 z2 p0 p1 p2 p3 hw3 hw4
                          go_roundg k2
                          case measure => exact Nat.lt_succ_self _
                          case rel => exact ⟨k + 1, xs.set k (mkb i k), by first | rfl | rw [HWK.out] | exact congrArg (Value.int .i64) HWK.out, HK2, Lib.hid (by rw [List.length_set]; exact HXL.out), Lib.hid (HZ4.out _).1, Lib.hid (fun j x hjx => by
                            have h1 := (HZ4.out (mkb i k)).2 j x hjx
                            by_cases h : j = i
                            · rw [h, more_at, more_at] at h1; rw [h, more_at]; exact h1
                            · rw [more_ne _ _ h, more_ne _ _ h] at h1; rw [more_ne _ _ h]; exact h1), Lib.hid (set_next HM.out (by rw [HXL.out]; exact HKL.out)), Lib.hid (HB.out.setCell (p := ad2.add k) (Nat.le_trans HBV.out.size hz3) _)⟩


            | succ k1 =>
              have hj : j < ps.length := by have := HJ.out; omega
              have d1 : decide (j < ps.length) = true := decide_eq_true hj
              obtain ⟨p, hp⟩ : ∃ p, ps[j]? = some p := ⟨_, List.getElem?_eq_getElem hj⟩
              obtain ⟨⟨fs, fd, fsv, fnv, fsb, fnb⟩, hf, he1, he2, he3, he4⟩ := HCA.out j p hp
              simp only at he1 he2 he3 he4
              subst he1 he2 he3 he4
              have HV3 := Lib.hid (HVN.out wr I3.out.2.1)
              obtain ⟨⟨hv, vs, cc, hvl, hbb, hH⟩, hBV, hMK⟩ := I3.out
              have HVL := Lib.hid hvl
              have HBB := Lib.hid hbb
              have HH := Lib.hid hH
              have HB3 := Lib.hid hBV
              have HM3 := Lib.hid hMK
              have HPP := Lib.hid hp
              have HF := Lib.hid hf
              have HW3 := Lib.hid (show wrap64 ((j : Int) + 1) = ((j + 1 : Nat) : Int) by have := HPL.out; unfold wrap64; omega)
              have HJ2 := Lib.hid (show j + 1 + k1 = ps.length by have := HJ.out; omega)
              have p1 := eq_true hj
              clear hj hp hf hvl hbb hH hBV hMK HJ
              go_wp2_with fail
              refine (get_net HV3.out.net HF.out).mono ?_
              rintro e W4 ⟨v4, rfl, ho4, hb4⟩
              replace ho4 : Ow W4 wr.heap.size v4 p.bs := ho4
              obtain ⟨A4, c4, rfl⟩ := own_slice ho4
              have ba := below_alloc (Below.refl W4.heap.size W4) (.cells #[.int .i64 p.src, .int .i64 p.dst, .slice A4 p.bs.length c4] tPk)
              have P5 := Lib.hid (blk_new W4 (.cells #[.int .i64 p.src, .int .i64 p.dst, .slice A4 p.bs.length c4] tPk))
              have B5 := Lib.hid (below_then hb4 hb4.size ba)
              have O5 := Lib.hid (ho4.below ba)
              clear ho4 hb4 ba
              go_upto_region 15 with (fail)
              generalize (World.alloc W4 _) = W5 at *
              generalize W4.heap.size = b5 at *
              have PD := Lib.hid (blk_drew P5.out)
              have HV5 := HV3.out.below (below_then (Below.refl _ _) (Nat.le_refl _) B5.out).drew
              obtain ⟨ad, c9, hsv, _, y0, y1, y2⟩ := SomeR.at HV5.some_ HPP.out
              have e1 : adS = ad := by cases hsv; rfl
              rw [← e1] at y0 y1 y2
              clear e1 hsv
              have hpr := HV5.pv p (List.mem_of_getElem? HPP.out)
              obtain ⟨A', c', hpv, _, hC', _⟩ := hpr.rd
              rw [hpv] at y2
              have CP := Lib.hid (show kB.C W5.drew A' p.bs.length p.bs from hC')
              have HR := Lib.hid hpr.rng
              have CX := Lib.hid (show kB.C W5.drew A4 p.bs.length p.bs by
                obtain ⟨A7, c7, e7, _, h7⟩ := O5.out.reads
                cases e7
                exact Kd.C_below h7 (below_drew (Below.refl _ _)))
              have p0 := eq_true (show 0 ≤ (j : Int) by omega)
              clear HV5 hpr hpv hC'
              refine start_ (n := 11) (S := fun w' => (∀ o, w'.cell? ⟨b5, o, none⟩ = #[Value.int .i64 p.src, .int .i64 p.dst, .slice A4 p.bs.length c4][o]?) ∧ w'.cell? (adS.add (j * 3)) = some (.int .i64 p.src) ∧ w'.cell? ⟨(adS.add (j * 3)).block, (adS.add (j * 3)).off + 1, none⟩ = some (.int .i64 p.dst) ∧ w'.cell? ⟨(adS.add (j * 3)).block, (adS.add (j * 3)).off + 2, none⟩ = some (.slice A' p.bs.length c')) (ds := []) #[false, false, false, false, false, false, false, false, false, false, false] (by kernel_rfl) rfl rfl ⟨(blkc PD.out), y0, y1, y2⟩ (fun hHeld => ?_)
              refine pure_ (i := 0) (N := some 60) (v := ?_) (a' := ?_) #[true, false, false, false, false, false, false, false, false, false, false] rfl rfl (by kernel_rfl) (fun _ _ _ h => h) (Or.inl ⟨by rfl, ?_⟩) ?_ ?_
              rotate_left
              · intro w'
                go_simp
                with_reducible rfl
              rotate_left
              · simp only [Act.put, List.setIfInBounds_toArray, List.set_cons_zero, List.set_cons_succ, i64_w, i32_w]
                rfl
              refine pure_ (i := 1) (N := some 61) (v := ?_) (a' := ?_) #[true, true, false, false, false, false, false, false, false, false, false] rfl rfl (by kernel_rfl) (fun _ _ _ h => h) (Or.inl ⟨by rfl, ?_⟩) ?_ ?_
              rotate_left
              · intro w'
                go_simp
                with_reducible rfl
              rotate_left
              · simp only [Act.put, List.setIfInBounds_toArray, List.set_cons_zero, List.set_cons_succ, i64_w, i32_w]
                rfl
              refine pure_ (i := 2) (N := some 62) (v := ?_) (a' := ?_) #[true, true, true, false, false, false, false, false, false, false, false] rfl rfl (by kernel_rfl) (fun _ _ _ h => h) (Or.inl ⟨by rfl, ?_⟩) ?_ ?_
              rotate_left
              · intro w'
                go_simp
                with_reducible rfl
              rotate_left
              · simp only [Act.put, List.setIfInBounds_toArray, List.set_cons_zero, List.set_cons_succ, i64_w, i32_w]
                rfl
              refine pure_ (i := 4) (N := some 64) (v := ?_) (a' := ?_) #[true, true, true, false, true, false, false, false, false, false, false] rfl rfl (by kernel_rfl) (fun _ _ _ h => h) (Or.inl ⟨by rfl, ?_⟩) ?_ ?_
              rotate_left
              · intro w'
                go_simp
                with_reducible rfl
              rotate_left
              · simp only [Act.put, List.setIfInBounds_toArray, List.set_cons_zero, List.set_cons_succ, i64_w, i32_w]
                rfl
              refine pure_ (i := 5) (N := some 65) (v := ?_) (a' := ?_) #[true, true, true, false, true, true, false, false, false, false, false] rfl rfl (by kernel_rfl) (fun _ _ _ h => h) (Or.inl ⟨by rfl, ?_⟩) ?_ ?_
              rotate_left
              · intro w'
                go_simp
                with_reducible rfl
              rotate_left
              · simp only [Act.put, List.setIfInBounds_toArray, List.set_cons_zero, List.set_cons_succ, i64_w, i32_w]
                rfl
              refine pure_ (i := 6) (N := some 66) (v := ?_) (a' := ?_) #[true, true, true, false, true, true, true, false, false, false, false] rfl rfl (by kernel_rfl) (fun _ _ _ h => h) (Or.inl ⟨by rfl, ?_⟩) ?_ ?_
              rotate_left
              · intro w'
                go_simp
                with_reducible rfl
              rotate_left
              · simp only [Act.put, List.setIfInBounds_toArray, List.set_cons_zero, List.set_cons_succ, i64_w, i32_w]
                rfl
              refine take_ (i := 3) (N := some 63) (v := ?_) (a' := ?_) #[true, true, true, true, true, true, true, false, false, false, false] rfl rfl (by kernel_rfl) (fun _ _ _ h => h) (Or.inl ⟨by rfl, ?_⟩) hHeld ?_ ?_
              rotate_left
              · rintro w' ⟨s0, s1, s2, s3⟩
                go_simp
                with_reducible rfl
              rotate_left
              · simp only [Act.put, List.setIfInBounds_toArray, List.set_cons_zero, List.set_cons_succ, i64_w, i32_w]
                rfl
              refine take_ (i := 7) (N := some 67) (v := ?_) (a' := ?_) #[true, true, true, true, true, true, true, true, false, false, false] rfl rfl (by kernel_rfl) (fun _ _ _ h => h) (Or.inl ⟨by rfl, ?_⟩) hHeld ?_ ?_
              rotate_left
              · rintro w' ⟨s0, s1, s2, s3⟩
                go_simp
                with_reducible rfl
              rotate_left
              · simp only [Act.put, List.setIfInBounds_toArray, List.set_cons_zero, List.set_cons_succ, i64_w, i32_w]
                rfl
              refine one_ (i := 8) (N := some 68) #[true, true, true, true, true, true, true, true, true, false, false] rfl rfl (by kernel_rfl) (by decide) (fun K hK => ?_)
              refine goes_ Try.func18 (by kernel_rfl) rfl #[.agg #[.int .i64 p.src, .int .i64 p.dst, .slice A4 p.bs.length c4], .agg #[.int .i64 p.src, .int .i64 p.dst, .slice A' p.bs.length c']] (by rfl) rfl rfl (by simp only [List.map_toArray, List.map_cons, List.map_nil]; rfl) ?_
              with_reducible refine ((equal_any CX.out CP.out HR.out HR.out)).mono ?_
              rintro e w9 ⟨rfl, hb9⟩
              refine ⟨_, rfl, ?_⟩
              rw [show decide ((p.src, p.dst, p.bs) = (p.src, p.dst, p.bs)) = true from decide_eq_true rfl]
              have B9 := Lib.hid hb9
              refine hK.out _ _ ⟨(blkc (blk_below PD.out hb9)), (cell_below y0 hb9), (cell_below y1 hb9), (cell_below y2 hb9)⟩ (fun hHeld => ?_)
              clear hK K
              refine norm_ (a' := ?_) ?_ ?_
              rotate_left
              · show Act.put _ (some 68) _ = _
                simp only [Act.put, List.setIfInBounds_toArray, List.set_cons_zero, List.set_cons_succ, i64_w, i32_w]
                rfl
              refine pure_ (i := 9) (N := some 69) (v := ?_) (a' := ?_) #[true, true, true, true, true, true, true, true, true, true, false] rfl rfl (by kernel_rfl) (fun _ _ _ h => h) (Or.inl ⟨by rfl, ?_⟩) ?_ ?_
              rotate_left
              · intro w'
                go_simp
                with_reducible rfl
              rotate_left
              · simp only [Act.put, List.setIfInBounds_toArray, List.set_cons_zero, List.set_cons_succ, i64_w, i32_w]
                rfl
              refine pure_ (i := 10) (N := some 70) (v := ?_) (a' := ?_) #[true, true, true, true, true, true, true, true, true, true, true] rfl rfl (by kernel_rfl) (fun _ _ _ h => h) (Or.inl ⟨by rfl, ?_⟩) ?_ ?_
              rotate_left
              · intro w'
                go_simp
                with_reducible rfl
              rotate_left
              · simp only [Act.put, List.setIfInBounds_toArray, List.set_cons_zero, List.set_cons_succ, i64_w, i32_w]
                rfl
              refine done_ (by kernel_rfl) ?_
              clear y0 y1 y2 p0 p1
              have BG := Lib.hid (below_then (below_drew (Below.refl W5.heap.size W5)) (Nat.le_refl _) B9.out)
              have B6 := Lib.hid (below_then B5.out B5.out.size BG.out)
              have P9 := Lib.hid (blk_below P5.out BG.out)
              have H9 := Lib.hid (HH.out.below B6.out)
              have O9 := Lib.hid (O5.out.below BG.out)
              have BB9 := Lib.hid (blk_below HBB.out B6.out)
              have BV9 := Lib.hid (below_then HB3.out HB3.out.size B6.out)
              have M9 := Lib.hid (HM3.out.below B6.out)
              have LB := Lib.hid (show p.bs.length ≤ 140737488351232 from (HV3.out.pv p (List.mem_of_getElem? HPP.out)).len)
              have XN := Lib.hid (show ∀ k, (Value.slice A4 p.bs.length c4).ownBlock = some k → ∀ v ∈ vs, v.ownBlock ≠ some k from fun k hk v hv2 e => by
                obtain ⟨i, hi⟩ := List.getElem?_of_mem hv2
                have h1 := own_base O5.out k hk
                have h2 := own_lt (HH.out.own i v hi).1 k e
                omega)
              obtain ⟨Ah, ch, rfl⟩ := own_slice H9.out.row
              have cb := blkc P9.out
              have ch9 := blk1 BB9.out
              go_wp2_with (at_builtin; refine print_append_cells (w0 := V) V.heap.size rfl (.tmp 71) (.tmp 74) tBss tBs (.slice none 0 0) 1 24 rfl Try.underlying45 infoBs rfl (by decide) (by decide) (.slice Ah vs.length ch) vs.length vs [.slice A4 p.bs.length c4] rfl rfl rfl (by intro u hu; rw [List.mem_singleton.1 hu]; rfl) H9.out.row BV9.out BV9.out.size (by have h1 := HVL.out; have h2 := HPL.out; have h3 := HJ2.out; omega) ?_; intro v5 w5 ho5 hb5 hg5 hat5; (have LM := Lib.hid (held_more BV9.out.size (Nat.le_refl _) BB9.out H9.out O9.out LB.out (HB3.out.size) XN.out ho5 hg5)); obtain ⟨A5, c5, rfl⟩ := own_slice ho5; clear ho5 hb5 hg5 hat5; have zx := blkz LM.out.1; have cx5 := blk1 LM.out.1)
              go_roundg k1
              case measure => exact Nat.lt_succ_self _
              case rel => exact ⟨j + 1, by first | rfl | rw [HW3.out] | exact congrArg (Value.int .i64) HW3.out, HJ2, Lib.hid ⟨⟨_, _, _, by rw [List.length_append, HVL.out, List.length_singleton]; omega, LM.out.2.1, LM.out.2.2.1⟩, BV9.out.trans LM.out.2.2.2.2.2.2, fun d hd => LM.out.2.2.2.2.2.1 d _ (M9.out d hd) (fun cs t e => by cases e)⟩⟩
        case stop2 =>
          rintro D c pre W hD hp
          exact hp.elim
      | succ k1 =>
        have hj : j < ps.length := by have := HJ.out; omega
        have d1 : decide (j < ps.length) = true := decide_eq_true hj
        obtain ⟨p, hp⟩ : ∃ p, ps[j]? = some p := ⟨_, List.getElem?_eq_getElem hj⟩
        obtain ⟨⟨fs, fd, fsv, fnv, fsb, fnb⟩, hf, he1, he2, he3, he4⟩ := HCA.out j p hp
        simp only at he1 he2 he3 he4
        subst he1 he2 he3 he4
        have HV3 := Lib.hid (HVN.out wr I3.out.2.1)
        obtain ⟨⟨hv, vs, cc, hvl, hbb, hH⟩, hBV, hMK⟩ := I3.out
        have HVL := Lib.hid hvl
        have HBB := Lib.hid hbb
        have HH := Lib.hid hH
        have HB3 := Lib.hid hBV
        have HM3 := Lib.hid hMK
        have HPP := Lib.hid hp
        have HF := Lib.hid hf
        have HW3 := Lib.hid (show wrap64 ((j : Int) + 1) = ((j + 1 : Nat) : Int) by have := HPL.out; unfold wrap64; omega)
        have HJ2 := Lib.hid (show j + 1 + k1 = ps.length by have := HJ.out; omega)
        have p1 := eq_true hj
        clear hj hp hf hvl hbb hH hBV hMK HJ
        go_wp2_with fail
        refine (get_net HV3.out.net HF.out).mono ?_
        rintro e W4 ⟨v4, rfl, ho4, hb4⟩
        replace ho4 : Ow W4 wr.heap.size v4 p.bs := ho4
        obtain ⟨A4, c4, rfl⟩ := own_slice ho4
        have ba := below_alloc (Below.refl W4.heap.size W4) (.cells #[.int .i64 p.src, .int .i64 p.dst, .slice A4 p.bs.length c4] tPk)
        have P5 := Lib.hid (blk_new W4 (.cells #[.int .i64 p.src, .int .i64 p.dst, .slice A4 p.bs.length c4] tPk))
        have B5 := Lib.hid (below_then hb4 hb4.size ba)
        have O5 := Lib.hid (ho4.below ba)
        clear ho4 hb4 ba
        go_upto_region 15 with (fail)
        generalize (World.alloc W4 _) = W5 at *
        generalize W4.heap.size = b5 at *
        have PD := Lib.hid (blk_drew P5.out)
        have HV5 := HV3.out.below (below_then (Below.refl _ _) (Nat.le_refl _) B5.out).drew
        obtain ⟨ad, c9, hsv, _, y0, y1, y2⟩ := SomeR.at HV5.some_ HPP.out
        have e1 : adS = ad := by cases hsv; rfl
        rw [← e1] at y0 y1 y2
        clear e1 hsv
        have hpr := HV5.pv p (List.mem_of_getElem? HPP.out)
        obtain ⟨A', c', hpv, _, hC', _⟩ := hpr.rd
        rw [hpv] at y2
        have CP := Lib.hid (show kB.C W5.drew A' p.bs.length p.bs from hC')
        have HR := Lib.hid hpr.rng
        have CX := Lib.hid (show kB.C W5.drew A4 p.bs.length p.bs by
          obtain ⟨A7, c7, e7, _, h7⟩ := O5.out.reads
          cases e7
          exact Kd.C_below h7 (below_drew (Below.refl _ _)))
        have p0 := eq_true (show 0 ≤ (j : Int) by omega)
        clear HV5 hpr hpv hC'
        refine start_ (n := 11) (S := fun w' => (∀ o, w'.cell? ⟨b5, o, none⟩ = #[Value.int .i64 p.src, .int .i64 p.dst, .slice A4 p.bs.length c4][o]?) ∧ w'.cell? (adS.add (j * 3)) = some (.int .i64 p.src) ∧ w'.cell? ⟨(adS.add (j * 3)).block, (adS.add (j * 3)).off + 1, none⟩ = some (.int .i64 p.dst) ∧ w'.cell? ⟨(adS.add (j * 3)).block, (adS.add (j * 3)).off + 2, none⟩ = some (.slice A' p.bs.length c')) (ds := []) #[false, false, false, false, false, false, false, false, false, false, false] (by kernel_rfl) rfl rfl ⟨(blkc PD.out), y0, y1, y2⟩ (fun hHeld => ?_)
        refine pure_ (i := 0) (N := some 60) (v := ?_) (a' := ?_) #[true, false, false, false, false, false, false, false, false, false, false] rfl rfl (by kernel_rfl) (fun _ _ _ h => h) (Or.inl ⟨by rfl, ?_⟩) ?_ ?_
        rotate_left
        · intro w'
          go_simp
          with_reducible rfl
        rotate_left
        · simp only [Act.put, List.setIfInBounds_toArray, List.set_cons_zero, List.set_cons_succ, i64_w, i32_w]
          rfl
        refine pure_ (i := 1) (N := some 61) (v := ?_) (a' := ?_) #[true, true, false, false, false, false, false, false, false, false, false] rfl rfl (by kernel_rfl) (fun _ _ _ h => h) (Or.inl ⟨by rfl, ?_⟩) ?_ ?_
        rotate_left
        · intro w'
          go_simp
          with_reducible rfl
        rotate_left
        · simp only [Act.put, List.setIfInBounds_toArray, List.set_cons_zero, List.set_cons_succ, i64_w, i32_w]
          rfl
        refine pure_ (i := 2) (N := some 62) (v := ?_) (a' := ?_) #[true, true, true, false, false, false, false, false, false, false, false] rfl rfl (by kernel_rfl) (fun _ _ _ h => h) (Or.inl ⟨by rfl, ?_⟩) ?_ ?_
        rotate_left
        · intro w'
          go_simp
          with_reducible rfl
        rotate_left
        · simp only [Act.put, List.setIfInBounds_toArray, List.set_cons_zero, List.set_cons_succ, i64_w, i32_w]
          rfl
        refine pure_ (i := 4) (N := some 64) (v := ?_) (a' := ?_) #[true, true, true, false, true, false, false, false, false, false, false] rfl rfl (by kernel_rfl) (fun _ _ _ h => h) (Or.inl ⟨by rfl, ?_⟩) ?_ ?_
        rotate_left
        · intro w'
          go_simp
          with_reducible rfl
        rotate_left
        · simp only [Act.put, List.setIfInBounds_toArray, List.set_cons_zero, List.set_cons_succ, i64_w, i32_w]
          rfl
        refine pure_ (i := 5) (N := some 65) (v := ?_) (a' := ?_) #[true, true, true, false, true, true, false, false, false, false, false] rfl rfl (by kernel_rfl) (fun _ _ _ h => h) (Or.inl ⟨by rfl, ?_⟩) ?_ ?_
        rotate_left
        · intro w'
          go_simp
          with_reducible rfl
        rotate_left
        · simp only [Act.put, List.setIfInBounds_toArray, List.set_cons_zero, List.set_cons_succ, i64_w, i32_w]
          rfl
        refine pure_ (i := 6) (N := some 66) (v := ?_) (a' := ?_) #[true, true, true, false, true, true, true, false, false, false, false] rfl rfl (by kernel_rfl) (fun _ _ _ h => h) (Or.inl ⟨by rfl, ?_⟩) ?_ ?_
        rotate_left
        · intro w'
          go_simp
          with_reducible rfl
        rotate_left
        · simp only [Act.put, List.setIfInBounds_toArray, List.set_cons_zero, List.set_cons_succ, i64_w, i32_w]
          rfl
        refine take_ (i := 3) (N := some 63) (v := ?_) (a' := ?_) #[true, true, true, true, true, true, true, false, false, false, false] rfl rfl (by kernel_rfl) (fun _ _ _ h => h) (Or.inl ⟨by rfl, ?_⟩) hHeld ?_ ?_
        rotate_left
        · rintro w' ⟨s0, s1, s2, s3⟩
          go_simp
          with_reducible rfl
        rotate_left
        · simp only [Act.put, List.setIfInBounds_toArray, List.set_cons_zero, List.set_cons_succ, i64_w, i32_w]
          rfl
        refine take_ (i := 7) (N := some 67) (v := ?_) (a' := ?_) #[true, true, true, true, true, true, true, true, false, false, false] rfl rfl (by kernel_rfl) (fun _ _ _ h => h) (Or.inl ⟨by rfl, ?_⟩) hHeld ?_ ?_
        rotate_left
        · rintro w' ⟨s0, s1, s2, s3⟩
          go_simp
          with_reducible rfl
        rotate_left
        · simp only [Act.put, List.setIfInBounds_toArray, List.set_cons_zero, List.set_cons_succ, i64_w, i32_w]
          rfl
        refine one_ (i := 8) (N := some 68) #[true, true, true, true, true, true, true, true, true, false, false] rfl rfl (by kernel_rfl) (by decide) (fun K hK => ?_)
        refine goes_ Try.func18 (by kernel_rfl) rfl #[.agg #[.int .i64 p.src, .int .i64 p.dst, .slice A4 p.bs.length c4], .agg #[.int .i64 p.src, .int .i64 p.dst, .slice A' p.bs.length c']] (by rfl) rfl rfl (by simp only [List.map_toArray, List.map_cons, List.map_nil]; rfl) ?_
        with_reducible refine ((equal_any CX.out CP.out HR.out HR.out)).mono ?_
        rintro e w9 ⟨rfl, hb9⟩
        refine ⟨_, rfl, ?_⟩
        rw [show decide ((p.src, p.dst, p.bs) = (p.src, p.dst, p.bs)) = true from decide_eq_true rfl]
        have B9 := Lib.hid hb9
        refine hK.out _ _ ⟨(blkc (blk_below PD.out hb9)), (cell_below y0 hb9), (cell_below y1 hb9), (cell_below y2 hb9)⟩ (fun hHeld => ?_)
        clear hK K
        refine norm_ (a' := ?_) ?_ ?_
        rotate_left
        · show Act.put _ (some 68) _ = _
          simp only [Act.put, List.setIfInBounds_toArray, List.set_cons_zero, List.set_cons_succ, i64_w, i32_w]
          rfl
        refine pure_ (i := 9) (N := some 69) (v := ?_) (a' := ?_) #[true, true, true, true, true, true, true, true, true, true, false] rfl rfl (by kernel_rfl) (fun _ _ _ h => h) (Or.inl ⟨by rfl, ?_⟩) ?_ ?_
        rotate_left
        · intro w'
          go_simp
          with_reducible rfl
        rotate_left
        · simp only [Act.put, List.setIfInBounds_toArray, List.set_cons_zero, List.set_cons_succ, i64_w, i32_w]
          rfl
        refine pure_ (i := 10) (N := some 70) (v := ?_) (a' := ?_) #[true, true, true, true, true, true, true, true, true, true, true] rfl rfl (by kernel_rfl) (fun _ _ _ h => h) (Or.inl ⟨by rfl, ?_⟩) ?_ ?_
        rotate_left
        · intro w'
          go_simp
          with_reducible rfl
        rotate_left
        · simp only [Act.put, List.setIfInBounds_toArray, List.set_cons_zero, List.set_cons_succ, i64_w, i32_w]
          rfl
        refine done_ (by kernel_rfl) ?_
        clear y0 y1 y2 p0 p1
        have BG := Lib.hid (below_then (below_drew (Below.refl W5.heap.size W5)) (Nat.le_refl _) B9.out)
        have B6 := Lib.hid (below_then B5.out B5.out.size BG.out)
        have P9 := Lib.hid (blk_below P5.out BG.out)
        have H9 := Lib.hid (HH.out.below B6.out)
        have O9 := Lib.hid (O5.out.below BG.out)
        have BB9 := Lib.hid (blk_below HBB.out B6.out)
        have BV9 := Lib.hid (below_then HB3.out HB3.out.size B6.out)
        have M9 := Lib.hid (HM3.out.below B6.out)
        have LB := Lib.hid (show p.bs.length ≤ 140737488351232 from (HV3.out.pv p (List.mem_of_getElem? HPP.out)).len)
        have XN := Lib.hid (show ∀ k, (Value.slice A4 p.bs.length c4).ownBlock = some k → ∀ v ∈ vs, v.ownBlock ≠ some k from fun k hk v hv2 e => by
          obtain ⟨i, hi⟩ := List.getElem?_of_mem hv2
          have h1 := own_base O5.out k hk
          have h2 := own_lt (HH.out.own i v hi).1 k e
          omega)
        obtain ⟨Ah, ch, rfl⟩ := own_slice H9.out.row
        have cb := blkc P9.out
        have ch9 := blk1 BB9.out
        go_wp2_with (at_builtin; refine print_append_cells (w0 := V) V.heap.size rfl (.tmp 71) (.tmp 74) tBss tBs (.slice none 0 0) 1 24 rfl Try.underlying45 infoBs rfl (by decide) (by decide) (.slice Ah vs.length ch) vs.length vs [.slice A4 p.bs.length c4] rfl rfl rfl (by intro u hu; rw [List.mem_singleton.1 hu]; rfl) H9.out.row BV9.out BV9.out.size (by have h1 := HVL.out; have h2 := HPL.out; have h3 := HJ2.out; omega) ?_; intro v5 w5 ho5 hb5 hg5 hat5; (have LM := Lib.hid (held_more BV9.out.size (Nat.le_refl _) BB9.out H9.out O9.out LB.out (HB3.out.size) XN.out ho5 hg5)); obtain ⟨A5, c5, rfl⟩ := own_slice ho5; clear ho5 hb5 hg5 hat5; have zx := blkz LM.out.1; have cx5 := blk1 LM.out.1)
        go_roundg k1
        case measure => exact Nat.lt_succ_self _
        case rel => exact ⟨j + 1, by first | rfl | rw [HW3.out] | exact congrArg (Value.int .i64) HW3.out, HJ2, Lib.hid ⟨⟨_, _, _, by rw [List.length_append, HVL.out, List.length_singleton]; omega, LM.out.2.1, LM.out.2.2.1⟩, BV9.out.trans LM.out.2.2.2.2.2.2, fun d hd => LM.out.2.2.2.2.2.1 d _ (M9.out d hd) (fun cs t e => by cases e)⟩⟩
  case stop1 =>
    rintro D c pre W hD hp
    exact hp.elim
end Go.Proofs.Ytpjbgcpieijeaaa.Net
namespace Go.Proofs.Ytpjbgcpieijeaaa.Walk
open Go.RowKit Go.Proofs.Ytpjbgcpieijeaaa.Opn Go.Proofs.YtpjbgcpieijeaaaW.PrintWords
theorem NetOwn (l : List PkT) (A : Option Addr) (c : Nat) (W : World) (hc : l.length ≤ c) (h : kPk.C W A l.length l) (hl : l.length ≤ 9223372036854775807) (hp : ∀ x ∈ l, pPk x) (hm : sumOf mPk l + 1 ≤ 1048576) :
    Calls Try.prog 5 #[.slice A l.length c] W fun e W' => e = .returned (.bool true) ∧ Below W.heap.size W W' :=
  Net.own_any h hc (fun x hx => pk_range (hp x hx) (by have := mPk_mem hx; omega)) (by have := mPk_len l; omega)
end Go.Proofs.Ytpjbgcpieijeaaa.Walk
