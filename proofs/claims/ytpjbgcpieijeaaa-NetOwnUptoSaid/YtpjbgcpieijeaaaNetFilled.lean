/- filled, walked. -/
import Derived.Test.YtpjbgcpieijeaaaNetFill
import Derived.Lib.SlBytesConst
set_option linter.unusedVariables false
set_option linter.unusedSimpArgs false
namespace Go.Proofs.Ytpjbgcpieijeaaa.Net
open Go.RowKit Go.Proofs.Ytpjbgcpieijeaaa.Mem Go.Proofs.YtpjbgcpieijeaaaW.PrintWords Go.Proofs.YtpjbgcpieijeaaaW.PrintLast Go.Proofs.Ytpjbgcpieijeaaa.Byt Go.Proofs.Ytpjbgcpieijeaaa.Opn Go.Deep Go.ChangeMaps
theorem infoPk : (Try.prog.info? tPk).map (fun i => (i.zero, i.size, i.bytes)) = some (some zp, 3, 40) := by kernel_rfl
/-- The cells of a packet that is read. -/
theorem at_Pk {w : World} {A : Option Addr} {n : Nat} {l : List PkT} (h : kPk.C w A n l) {i : Nat} {x : PkT} (hi : l[i]? = some x) : ∃ ad A' c', A = some ad ∧ w.cell? (ad.add (i * 3)) = some (.int .i64 x.1) ∧ w.cell? ⟨(ad.add (i * 3)).block, (ad.add (i * 3)).off + 1, none⟩ = some (.int .i64 x.2.1) ∧ w.cell? ⟨(ad.add (i * 3)).block, (ad.add (i * 3)).off + 2, none⟩ = some (.slice A' x.2.2.length c') ∧ x.2.2.length ≤ c' ∧ kB.C w A' x.2.2.length x.2.2 := by
  have hil := (List.getElem?_eq_some_iff.1 hi).1
  obtain ⟨ad, rfl, hc⟩ := h.2.2 (by have := h.1; omega)
  obtain ⟨cs, _, hK, hcell⟩ := hc i x hi
  obtain ⟨A', c', rfl, h1, h2⟩ := kPk_cells hK
  have hs : kPk.sz = 3 := rfl
  rw [hs] at hcell
  refine ⟨ad, A', c', rfl, hcell 0 _ rfl, ?_, ?_, h1, h2⟩
  · rw [← add_field _ _ 1 (by omega)]; exact hcell 1 _ rfl
  · rw [← add_field _ _ 2 (by omega)]; exact hcell 2 _ rfl
theorem own_ok : okP ownP = true := by decide
theorem filter_snoc {l : List PkT} {i : Nat} {x : PkT} (h : l[i]? = some x) : (l.take (i + 1)).filter okP = (l.take i).filter okP ++ (if okP x = true then [x] else []) := by
  rw [List.take_add_one, h]
  simp [List.filter_append, List.filter_cons]
theorem C_lit (w : World) (xs : List Int) (hl : xs.length ≤ 1000) (sh : Nat × Nat) : kB.C (w.alloc (.cells ((xs.map fun n => Value.int .u8 n).toArray) 5 sh)) (some ⟨w.heap.size, 0, none⟩) xs.length xs := by
  refine ⟨rfl, by omega, fun _ => ⟨_, rfl, fun j p hp => ⟨[.int .u8 p], rfl, rfl, fun i u hu => ?_⟩⟩⟩
  obtain ⟨hj, rfl⟩ := List.getElem?_eq_some_iff.1 hp
  have hsz : (Kd.int .u8).sz = 1 := rfl
  match i, hu with
  | 0, hu =>
    have hu' : Value.int .u8 (xs[j]) = u := by simpa using hu
    subst hu'
    rw [hsz, Nat.mul_one, Nat.add_zero, add_plain, cell_of_row _ _ _ _ _ _ (blk_new w _)]
    simp [hj]
theorem FillR.cast {w : World} {base : Nat} {O : Nat → Prop} {g m : Nat} {v : Value} {fls : List Fl} {sv : Value} {ps : List Pv} {qs qs' : List PkT} (h : FillR w base O g m v fls sv ps qs) (e : qs' = qs) : FillR w base O g m v fls sv ps qs' := e ▸ h
set_option maxHeartbeats 12800000 in
set_option maxRecDepth 100000 in
theorem filled_any {w : World} {A : Option Addr} {c : Nat} {l : List PkT} (hC : kPk.C w A l.length l) (hc : l.length ≤ c) (hp : ∀ x ∈ l, (∀ z ∈ x.2.2, 0 ≤ z ∧ z < 256) ∧ x.2.2.length ≤ 140737488351232) (hl : l.length ≤ 1048576) :
    Calls Try.prog 13 #[.slice A l.length c] w fun e w' => ∃ g m v fls sv ps O, e = .returned (.tuple #[.pointer (some ⟨g, 0, none⟩), sv]) ∧ FillR w' w.heap.size O g m v fls sv ps ((ownP :: l).filter okP) ∧ Below w.heap.size w w' := by
  have HC := Lib.hid hC
  have HP := Lib.hid hp
  have HL := Lib.hid hl
  clear hC hc hp hl
  go_enter Try.func13, Try.ntmps13
  go_wp2_with fail
  refine (new_any w (nodes := 4) (clients := 4) (by omega) (by omega)).mono ?_
  rintro e w1 ⟨g, m, rfl, hg, hm, h1, h2, h3, hb⟩
  have HF : Hid (FillR w1 w.heap.size (fun k => k = g ∨ k = m) g m (.slice none 0 0) [] (.slice none 0 0) [] []) := Lib.hid ⟨⟨hg, .inl (own_nil _ _ _ _), by simp, fun i j f f' hi => by simp at hi, mapR_nil hm, .inl rfl, .inr rfl, fun k hk => by simp [Value.ownBlock] at hk, fun k hk => by rcases hk with rfl | rfl <;> assumption, by omega, by omega⟩, own_nil _ _ _ _, fun k hk => by simp [Value.ownBlock] at hk, by simp, fun k hk => by rcases hk with rfl | rfl; exact blk_lt hg; exact blk_lt hm, rfl, rfl⟩
  have HB := Lib.hid hb
  clear hg hm h1 h2 h3 hb
  go_wp2_with fail
  go_loopg [7, 6] (l.length + 1) (fun kq v7 v6 w' => ∃ (i : Nat), v7 = .int .i64 (i : Int) ∧ Hid (i + kq = l.length + 1) ∧ ∃ v fls ps O, Hid (FillR w' w.heap.size O g m v fls v6 ps (((ownP :: l).take i).filter okP)) ∧ Hid (Below w.heap.size w w'))
  case atStart => exact ⟨0, rfl, (show _ + _ = _ by omega), _, _, _, _, HF.out, HB.out⟩
  case round =>
    obtain ⟨i, rfl, HI, v, fls, ps, O, HF, HB⟩ := hrel
    obtain ⟨As, cs, rfl⟩ := own_slice HF.out.some_
    cases gk with
    | zero =>
      have hi : i = l.length + 1 := HI.out
      have d1 : decide ((i : Int) ≤ (l.length : Int)) = false := by simp; omega
      have d2 : decide (i ≤ l.length) = false := by simp; omega
      have htk : (ownP :: l).take i = ownP :: l := List.take_of_length_le (by rw [List.length_cons]; omega)
      rw [htk] at HF
      clear htk hi HI
      have hfl : fls.length = ps.length := by
        have h1 := congrArg List.length HF.out.ff
        have h2 := congrArg List.length HF.out.pp
        simp only [List.length_map] at h1 h2
        omega
      have hps : 0 < ps.length := by
        have h2 := congrArg List.length HF.out.pp
        rw [List.length_map, List.filter_cons, if_pos own_ok, List.length_cons] at h2
        omega
      have HLE := Lib.hid hfl
      have d3 : ((ps.length : Int) == 0) = false := by rw [beq_eq_false_iff_ne]; omega
      have d4 : decide ((ps.length : Int) = 0) = false := decide_eq_false (by omega)
      clear hfl hps
      go_wp2_with fail
      refine (len_net HF.out.net).mono ?_
      rintro e w2 ⟨rfl, rfl⟩
      rw [HLE.out]
      go_wp2_with fail
      go_ret2
      exact ⟨g, m, v, fls, _, ps, O, rfl, HF.out, HB.out⟩
    | succ k1 =>
      have hi : i ≤ l.length := by have := HI.out; omega
      have d1 : decide ((i : Int) ≤ (l.length : Int)) = true := by simp; omega
      have d2 : decide (i ≤ l.length) = true := by simp; omega
      have hw3 : wrap64 ((i : Int) + 1) = ((i + 1 : Nat) : Int) := by have := HL.out; unfold wrap64; omega
      have HW3 := Lib.hid hw3
      clear hw3
      have hcv : (convert 28 28 (.slice (some ⟨wr.heap.size, 0, none⟩) 3 3)).run Try.prog (wr.alloc (.cells #[.int .u8 111, .int .u8 119, .int .u8 110] tU8)) = .ok (.slice (some ⟨wr.heap.size, 0, none⟩) 3 3) (wr.alloc (.cells #[.int .u8 111, .int .u8 119, .int .u8 110] tU8 (3, 4))) := Lib.run_convert_bytes_const wr 28 tU8 #[.int .u8 111, .int .u8 119, .int .u8 110] 3 3 Try.underlying28 Try.underlying5
      have BA := below_alloc (Below.refl wr.heap.size wr) (.cells #[.int .u8 111, .int .u8 119, .int .u8 110] tU8 (3, 4))
      have BB := below_alloc (Below.refl _ (wr.alloc (.cells #[.int .u8 111, .int .u8 119, .int .u8 110] tU8 (3, 4)))) (.cells #[.int .i64 1, .int .i64 2, .slice (some ⟨wr.heap.size, 0, none⟩) 3 3] tPk)
      have BS := Lib.hid (below_then BA BA.size BB)
      have P1 := Lib.hid (Kd.C_below (show kB.C (wr.alloc (.cells #[.int .u8 111, .int .u8 119, .int .u8 110] tU8 (3, 4))) (some ⟨wr.heap.size, 0, none⟩) 3 [111, 119, 110] from C_lit wr [111, 119, 110] (by decide) (3, 4)) BB)
      have p2 := blk_new (wr.alloc (.cells #[.int .u8 111, .int .u8 119, .int .u8 110] tU8 (3, 4))) (.cells #[.int .i64 1, .int .i64 2, .slice (some ⟨wr.heap.size, 0, none⟩) 3 3] tPk)
      rw [World.size_alloc] at p2
      have P2 := Lib.hid p2
      have HLT := Lib.hid (And.intro HF.out.lt (fun k hk => own_lt HF.out.some_ k hk))
      have HFL := Lib.hid (show fls.length ≤ 1048577 ∧ (((ownP :: l).take i).filter okP).length ≤ 1048577 by
        have h1 := congrArg List.length HF.out.ff
        have h3 := List.length_filter_le okP ((ownP :: l).take i)
        rw [List.length_take] at h3
        simp only [List.length_map] at h1
        have := HL.out
        omega)
      clear BA BB p2
      go_upto_region 9 with (fail)
      generalize (World.alloc (World.alloc _ _) _) = W2 at *
      clear hcv
      generalize hb1 : wr.heap.size = b1 at *
      have HB1 := Lib.hid hb1
      cases i with
      | zero =>
        have d0 : decide ((0 : Int) < ((0 : Nat) : Int)) = false := by decide
        have F3 := Lib.hid (HF.out.below (by rw [hb1]; exact BS.out))
        have HQ := Lib.hid (show (ownP :: l)[0]? = some (1, 2, [111, 119, 110]) from rfl)
        have PV := Lib.hid (show PvR W2 (fun k => O k ∨ (Value.slice As ps.length cs).ownBlock = some k) ⟨1, 2, .slice (some ⟨b1, 0, none⟩) 3 3, [111, 119, 110]⟩ from ⟨⟨some ⟨b1, 0, none⟩, 3, rfl, Nat.le_refl _, P1.out, fun ad e _ ho => by cases e; rcases ho with h | h; exact absurd (HLT.out.1 _ h) (by simp); exact absurd (HLT.out.2 _ h) (by simp)⟩, show ∀ z ∈ ([111, 119, 110] : List Int), 0 ≤ z ∧ z < 256 by decide, show ([111, 119, 110] : List Int).length ≤ 140737488351232 by decide⟩)
        have B2 := P2
        have BL3 := Lib.hid (below_then HB.out HB.out.size (show Below wr.heap.size wr W2 by rw [hb1]; exact BS.out))
        have HNB := Lib.hid (show ¬ O (b1 + 1) from fun h => by have := HLT.out.1 _ h; omega)
        clear hb1
        go_upto_region 11 with (fail)
        have HOK := Lib.hid (show (addrB 4 4 1 && addrB 4 4 2) = true by decide)
        have cb := blkc B2.out
        go_wp2_with fail
        obtain ⟨A9, c9, he9, hl9, hC9, hA9⟩ := PV.out.rd
        cases he9
        refine (send_net (w0 := w) F3.out.net (x := 1) (y := 2) (bs := [111, 119, 110]) HOK.out hC9 (fun ad e hn h => hA9 ad e hn (.inl h)) PV.out.rng PV.out.len (by have := HFL.out.1; omega) (by rw [List.length_map]; have := HFL.out.2; omega) BL3.out rfl).mono ?_
        rintro e w4 ⟨rfl, ⟨v4, s1, s2, hN4⟩, hk4, hb4⟩
        have B4 := Lib.hid ((hk4.2 (b1 + 1) (blk_lt B2.out) HNB.out).trans B2.out)
        have S4 := Lib.hid (own_move F3.out.some_ (fun k hk => hk4.2 k (own_lt F3.out.some_ k hk) (F3.out.so k hk)))
        have N4 := Lib.hid hN4
        have K4 := Lib.hid hk4
        have B5 := Lib.hid hb4
        clear hN4 hk4 hb4 cb hC9 hA9 hl9
        have cb := blkc B4.out
        go_wp2_with (at_builtin; refine print_append_cells (w0 := w) w.heap.size rfl (.tmp 39) (.tmp 41) 33 tPk zp 3 40 rfl Try.underlying33 infoPk rfl (by decide) (by decide) (.slice As ps.length cs) ps.length (pcells ps) [.int .i64 1, .int .i64 2, .slice (some ⟨b1, 0, none⟩) 3 3] rfl rfl rfl (by intro u hu; simp only [List.mem_cons, List.not_mem_nil, or_false] at hu; rcases hu with rfl | rfl | rfl <;> rfl) S4.out B5.out B5.out.size (by have h1 := HFL.out.2; have h2 := congrArg List.length F3.out.pp; rw [List.length_map] at h2; omega) ?_; intro v5 w5 ho5 hb5 hg5 hat5; (have FF := Lib.hid (F3.out.step (p := ⟨1, 2, .slice (some ⟨b1, 0, none⟩) 3 3, [111, 119, 110]⟩) PV.out N4.out K4.out ho5 hg5 hat5)); (have B6 := Lib.hid hb5); obtain ⟨A5, c5, rfl⟩ := own_slice ho5; clear ho5 hb5 hg5 hat5)
        go_roundg k1
        case measure => exact Nat.lt_succ_self _
        case rel => exact ⟨0 + 1, by first | rfl | rw [HW3.out] | exact congrArg (Value.int .i64) HW3.out, Lib.hid (by have := HI.out; omega), _, _, _, _, Lib.hid (FF.out.cast (by rw [filter_snoc HQ.out, if_pos (show okP (1, 2, [111, 119, 110]) = true from HOK.out)]; rfl)), B6⟩
      | succ j =>
        have d0 : decide ((0 : Int) < ((j + 1 : Nat) : Int)) = true := decide_eq_true (by omega)
        have hjl : j < l.length := by omega
        obtain ⟨x, hx⟩ : ∃ x, l[j]? = some x := ⟨_, List.getElem?_eq_getElem hjl⟩
        have BW := below_then HB.out HB.out.size (show Below wr.heap.size wr W2 by rw [hb1]; exact BS.out)
        obtain ⟨ad, A', c', rfl, y0, y1, y2, hc', hC'⟩ := at_Pk (Kd.C_below HC.out BW) hx
        have hA' : ∀ a, A' = some a → 0 < x.2.2.length → a.block < w.heap.size := fun a e hn => by
          obtain ⟨ad9, A9, c9, e9, z0, z1, z2, hc9, hC9⟩ := at_Pk HC.out hx
          cases e9
          have h5 := (BW.cell (World.block_lt_of_cell? _ _ z2)).trans z2
          rw [y2] at h5
          cases h5
          exact C_lt hC9 e hn
        have hj3 : wrap64 (((j + 1 : Nat) : Int) - 1) = (j : Int) := by have := HL.out; unfold wrap64; omega
        have hj4 : ((j + 1 : Nat) : Int) - 1 = (j : Int) := by omega
        have hj5 : wrap64 (j : Int) = (j : Int) := by have := HL.out; unfold wrap64; omega
        have p0 := eq_true (show 0 ≤ (j : Int) by omega)
        have p1 := eq_true hjl
        have HX := Lib.hid hx
        have HC2 := Lib.hid hC'
        have HA2 := Lib.hid hA'
        have HCC := Lib.hid hc'
        have HPX := Lib.hid (HP.out x (List.mem_of_getElem? hx))
        have BWH := Lib.hid BW
        clear hx BW hc' hC' hA' hjl
        have cb := blkc P2.out
        have zb := blkz P2.out
        go_upto_region 11 with (fail)
        clear cb zb y0 y1 y2 p0 p1 hj3 hj4 hj5
        have hwb : w.heap.size ≤ b1 := by rw [← hb1]; exact HB.out.size
        have BW3 := Lib.hid (set3 (w := wr) (W := W2) (b := b1 + 1) (by rw [hb1]; exact BS.out) (by omega) (.int .i64 x.1) (.int .i64 x.2.1) (.slice A' x.2.2.length c'))
        have B2 := Lib.hid (zero3' P2.out (.int .i64 x.1) (.int .i64 x.2.1) (.slice A' x.2.2.length c'))
        have F3 := Lib.hid (HF.out.below BW3.out)
        have C3 := Lib.hid (C_blk (w1 := ((W2.setCell ⟨b1 + 1, 0, none⟩ (.int .i64 x.1)).setCell ⟨b1 + 1, 1, none⟩ (.int .i64 x.2.1)).setCell ⟨b1 + 1, 2, none⟩ (.slice A' x.2.2.length c')) HC2.out (fun a e hn hl => by
          have h1 := HA2.out a e hn
          rw [Below.heap_setCell _ ⟨b1 + 1, 2, none⟩ _ a.block (show a.block ≠ b1 + 1 by omega), Below.heap_setCell _ ⟨b1 + 1, 1, none⟩ _ a.block (show a.block ≠ b1 + 1 by omega), Below.heap_setCell _ ⟨b1 + 1, 0, none⟩ _ a.block (show a.block ≠ b1 + 1 by omega)]))
        have PV := Lib.hid (show PvR _ (fun k => O k ∨ (Value.slice As ps.length cs).ownBlock = some k) ⟨x.1, x.2.1, .slice A' x.2.2.length c', x.2.2⟩ from ⟨⟨A', c', rfl, HCC.out, C3.out, fun a e hn ho => by
          have h1 := HA2.out a e hn
          rcases ho with h | h
          · have h2 := F3.out.net.ob _ h; omega
          · have h2 := own_base F3.out.some_ _ h; omega⟩, HPX.out.1, HPX.out.2⟩)
        have BL3 := Lib.hid (below_then HB.out HB.out.size BW3.out)
        have HNB := Lib.hid (show ¬ O (b1 + 1) from fun h => by have := HLT.out.1 _ h; omega)
        have HQ := Lib.hid (show (ownP :: l)[j + 1]? = some (x.1, x.2.1, x.2.2) from by simpa using HX.out)
        clear hwb hb1 BW3 C3 P2 HC2 BWH HA2 HCC HX P1
        generalize (World.setCell (World.setCell (World.setCell W2 _ _) _ _) _ _) = W3 at *
        cases hok : (addrB 4 4 x.1 && addrB 4 4 x.2.1) with
        | true =>
          have HOK := Lib.hid hok
          clear hok
          have cb := blkc B2.out
          go_wp2_with fail
          obtain ⟨A9, c9, he9, hl9, hC9, hA9⟩ := PV.out.rd
          cases he9
          refine (send_net (w0 := w) F3.out.net (x := x.1) (y := x.2.1) (bs := x.2.2) HOK.out hC9 (fun ad e hn h => hA9 ad e hn (.inl h)) PV.out.rng PV.out.len (by have := HFL.out.1; omega) (by rw [List.length_map]; have := HFL.out.2; omega) BL3.out rfl).mono ?_
          rintro e w4 ⟨rfl, ⟨v4, s1, s2, hN4⟩, hk4, hb4⟩
          have B4 := Lib.hid ((hk4.2 (b1 + 1) (blk_lt B2.out) HNB.out).trans B2.out)
          have S4 := Lib.hid (own_move F3.out.some_ (fun k hk => hk4.2 k (own_lt F3.out.some_ k hk) (F3.out.so k hk)))
          have N4 := Lib.hid hN4
          have K4 := Lib.hid hk4
          have B5 := Lib.hid hb4
          clear hN4 hk4 hb4 cb hC9 hA9 hl9
          have cb := blkc B4.out
          go_wp2_with (at_builtin; refine print_append_cells (w0 := w) w.heap.size rfl (.tmp 39) (.tmp 41) 33 tPk zp 3 40 rfl Try.underlying33 infoPk rfl (by decide) (by decide) (.slice As ps.length cs) ps.length (pcells ps) [.int .i64 x.1, .int .i64 x.2.1, .slice A' x.2.2.length c'] rfl rfl rfl (by intro u hu; simp only [List.mem_cons, List.not_mem_nil, or_false] at hu; rcases hu with rfl | rfl | rfl <;> rfl) S4.out B5.out B5.out.size (by have h1 := HFL.out.2; have h2 := congrArg List.length F3.out.pp; rw [List.length_map] at h2; omega) ?_; intro v5 w5 ho5 hb5 hg5 hat5; (have FF := Lib.hid (F3.out.step (p := ⟨x.1, x.2.1, .slice A' x.2.2.length c', x.2.2⟩) PV.out N4.out K4.out ho5 hg5 hat5)); (have B6 := Lib.hid hb5); obtain ⟨A5, c5, rfl⟩ := own_slice ho5; clear ho5 hb5 hg5 hat5)
          go_roundg k1
          case measure => exact Nat.lt_succ_self _
          case rel => exact ⟨(j + 1) + 1, by first | rfl | rw [HW3.out] | exact congrArg (Value.int .i64) HW3.out, Lib.hid (by have := HI.out; omega), _, _, _, _, Lib.hid (FF.out.cast (by rw [filter_snoc HQ.out, if_pos (show okP (x.1, x.2.1, x.2.2) = true from HOK.out)]; rfl)), B6⟩
        | false =>
          have HOK := Lib.hid hok
          clear hok
          have cb := blkc B2.out
          go_wp2_with fail
          refine (send_not F3.out.net x.1 x.2.1 _ HOK.out).mono ?_
          rintro e w4 ⟨rfl, hb4⟩
          have F4 := Lib.hid (F3.out.below hb4)
          have B6 := Lib.hid (below_then BL3.out BL3.out.size hb4)
          clear hb4 cb
          go_wp2_with fail
          go_roundg k1
          case measure => exact Nat.lt_succ_self _
          case rel => exact ⟨(j + 1) + 1, by first | rfl | rw [HW3.out] | exact congrArg (Value.int .i64) HW3.out, Lib.hid (by have := HI.out; omega), _, _, _, _, Lib.hid (F4.out.cast (by rw [filter_snoc HQ.out, if_neg (by rw [show okP (x.1, x.2.1, x.2.2) = false from HOK.out]; decide), List.append_nil])), B6⟩
end Go.Proofs.Ytpjbgcpieijeaaa.Net
