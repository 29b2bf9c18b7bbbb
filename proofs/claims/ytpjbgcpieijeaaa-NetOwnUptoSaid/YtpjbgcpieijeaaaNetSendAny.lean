/- Send: a packet goes out, any. -/
import Derived.Test.YtpjbgcpieijeaaaNetCopy
set_option linter.unusedVariables false
set_option linter.unusedSimpArgs false
namespace Go.Proofs.Ytpjbgcpieijeaaa.Net
open Go.RowKit Go.Proofs.Ytpjbgcpieijeaaa.Mem Go.Proofs.YtpjbgcpieijeaaaW.PrintWords Go.Proofs.YtpjbgcpieijeaaaW.PrintLast Go.Proofs.Ytpjbgcpieijeaaa.Byt Go.Proofs.Ytpjbgcpieijeaaa.Opn Go.Deep Go.ChangeMaps
section
variable {w w0 : World} {base g m : Nat} {O : Nat → Prop} {nd cl : Int} {v : Value} {fls : List Fl} {sent : List LtT}
theorem C_blk {w w1 : World} {A : Option Addr} {n : Nat} {bs : List Int} (h : kB.C w A n bs) (hm : ∀ ad, A = some ad → 0 < n → ad.block < w.heap.size → w1.heap[ad.block]? = w.heap[ad.block]?) : kB.C w1 A n bs := by
  refine ⟨h.1, h.2.1, fun hn => ?_⟩
  obtain ⟨ad, rfl, hc⟩ := h.2.2 hn
  refine ⟨ad, rfl, fun j b hj => ?_⟩
  obtain ⟨c, h1, h2, h3⟩ := hc j b hj
  refine ⟨c, h1, h2, fun i u hu => ?_⟩
  have h4 := h3 i u hu
  have hab : (ad.add (j * kB.sz + i)).block = ad.block := by unfold Addr.add; split <;> rfl
  rw [World.cell?_of_block (hab ▸ hm ad rfl hn (by have := World.block_lt_of_cell? _ _ h4; rw [hab] at this; exact this))]
  exact h4
theorem C_lt {w : World} {A : Option Addr} {n : Nat} {bs : List Int} (h : kB.C w A n bs) {ad : Addr} (e : A = some ad) (hn : 0 < n) : ad.block < w.heap.size := by
  obtain ⟨ad', e', hc⟩ := h.2.2 hn
  rw [e] at e'
  cases e'
  have hl : 0 < bs.length := by have := h.1; omega
  obtain ⟨c, h1, h2, h3⟩ := hc 0 _ (List.getElem?_eq_getElem hl)
  have h2' : c = [.int .u8 bs[0]] := h2
  subst h2'
  have h4 := World.block_lt_of_cell? _ _ (h3 0 _ rfl)
  have hab : (ad.add (0 * kB.sz + 0)).block = ad.block := by unfold Addr.add; split <;> rfl
  rw [hab] at h4
  exact h4
theorem strOfNums_size (bs : List Int) : (strOfNums bs).size = bs.length := by simp [strOfNums, ByteArray.size]
theorem addrB_range {nd cl x : Int} (hn : 1 ≤ nd ∧ nd ≤ 8) (hc : 0 ≤ cl ∧ cl ≤ 16) (h : addrB nd cl x = true) : 0 ≤ x ∧ x ≤ 116 := by
  simp [addrB] at h
  omega
theorem lt_ok {nd cl x y : Int} {bs : List Int} (hn : 1 ≤ nd ∧ nd ≤ 8) (hc : 0 ≤ cl ∧ cl ≤ 16) (hx : addrB nd cl x = true) (hy : addrB nd cl y = true) (hb : bs.length ≤ 140737488351232) : ltOk (x, y, strOfNums bs) := by
  have h1 := addrB_range hn hc hx
  have h2 := addrB_range hn hc hy
  have h3 : IntKind.i64.min = -9223372036854775808 := by decide
  have h4 : IntKind.i64.max = 9223372036854775807 := by decide
  refine ⟨?_, ?_, by show (strOfNums bs).size ≤ _; rw [strOfNums_size]; omega⟩
  · simp [Lit.wf]; omega
  · simp [Lit.wf]; omega
set_option maxHeartbeats 3200000 in
set_option maxRecDepth 100000 in
theorem send_not (h : NetR w base O g m nd cl v fls sent) (x y : Int) (s : Value) (hxy : (addrB nd cl x && addrB nd cl y) = false) : Calls Try.prog 11 #[.pointer (some ⟨g, 0, none⟩), .agg #[.int .i64 x, .int .i64 y, s]] w fun e w' => e = .returned (.int .i64 240) ∧ Below w.heap.size w w' := by
  have BS := Lib.hid (below_alloc (Below.refl w.heap.size w) (.cells #[.int .i64 x, .int .i64 y, s] tPk))
  have PB := Lib.hid (blk_new w (.cells #[.int .i64 x, .int .i64 y, s] tPk))
  have HN := Lib.hid (h.below BS.out)
  have HXY := Lib.hid hxy
  clear h hxy
  go_enter Try.func11, Try.ntmps11
  go_upto_region 1 with (fail)
  generalize (World.alloc w _) = W at *
  go_wp2_with fail
  refine (made_any HN.out.net).mono ?_
  rintro e w1 ⟨rfl, rfl⟩
  have cp := blkc PB.out
  go_wp2_with fail
  refine (addr_any HN.out.net _ HN.out.nc).mono ?_
  rintro e w1 ⟨rfl, rfl⟩
  cases hx : addrB nd cl x with
  | false =>
    go_wp2_with fail
    go_ret
    exact ⟨rfl, BS.out⟩
  | true =>
    have hy : addrB nd cl y = false := by have := HXY.out; rw [hx] at this; simpa using this
    go_wp2_with fail
    refine (addr_any HN.out.net _ HN.out.nc).mono ?_
    rintro e w1 ⟨rfl, rfl⟩
    rw [hy]
    go_wp2_with fail
    go_ret
    exact ⟨rfl, BS.out⟩
set_option maxHeartbeats 6400000 in
set_option maxRecDepth 100000 in
theorem send_net (h : NetR w base O g m nd cl v fls sent) {x y : Int} {A : Option Addr} {c : Nat} {bs : List Int} (hxy : (addrB nd cl x && addrB nd cl y) = true) (hC : kB.C w A bs.length bs) (hA : ∀ ad, A = some ad → 0 < bs.length → ¬ O ad.block) (hr : ∀ z ∈ bs, 0 ≤ z ∧ z < 256) (hlb : bs.length ≤ 140737488351232) (hfl : fls.length + 1 ≤ 2199023255552) (hse : sent.length ≤ 4611686018427387904) (HB : Below w0.heap.size w0 w) (hbs : base = w0.heap.size) :
    Calls Try.prog 11 #[.pointer (some ⟨g, 0, none⟩), .agg #[.int .i64 x, .int .i64 y, .slice A bs.length c]] w fun e w' => e = .returned (.int .i64 0) ∧ (∃ v' sv nv, NetR w' base (fun k => O k ∨ w.heap.size ≤ k) g m nd cl v' (fls ++ [⟨x, y, sv, nv, bs, bs⟩]) (sent ++ [(x, y, strOfNums bs)])) ∧ Kept w w' O ∧ Below w0.heap.size w0 w' := by
  have BS := Lib.hid (below_alloc (Below.refl w.heap.size w) (.cells #[.int .i64 x, .int .i64 y, .slice A bs.length c] tPk))
  have PB := Lib.hid (blk_new w (.cells #[.int .i64 x, .int .i64 y, .slice A bs.length c] tPk))
  have HN := Lib.hid (h.bound.below BS.out)
  have HOB := Lib.hid h.ob
  have HFL := Lib.hid hfl
  have HSE := Lib.hid hse
  have HBW := Lib.hid HB
  have HBB := Lib.hid (show base ≤ w.heap.size by rw [hbs]; exact HB.size)
  have HBS := Lib.hid hbs
  have HC := Lib.hid (Kd.C_below hC BS.out)
  have HRB := Lib.hid (And.intro hr hlb)
  have HA := Lib.hid hA
  obtain ⟨hx, hy⟩ : addrB nd cl x = true ∧ addrB nd cl y = true := by simpa using hxy
  have HXY := Lib.hid (And.intro hx hy)
  have HLT := Lib.hid (lt_ok (bs := bs) h.nn h.nc hx hy hlb)
  have HPW := Lib.hid (show w.heap.size < (w.alloc (.cells #[.int .i64 x, .int .i64 y, .slice A bs.length c] tPk)).heap.size by simp)
  clear h hfl HB hbs hC hA hr hlb hse hxy hx hy
  go_enter Try.func11, Try.ntmps11
  go_upto_region 1 with (fail)
  generalize (World.alloc w _) = W at *
  go_wp2_with fail
  refine (made_any HN.out.net).mono ?_
  rintro e w1 ⟨rfl, rfl⟩
  have cp := blkc PB.out
  go_wp2_with fail
  refine (addr_any HN.out.net _ HN.out.nc).mono ?_
  rintro e w1 ⟨rfl, rfl⟩
  rw [HXY.out.1]
  go_wp2_with fail
  refine (addr_any HN.out.net _ HN.out.nc).mono ?_
  rintro e w1 ⟨rfl, rfl⟩
  rw [HXY.out.2]
  go_upto_region 5 with (fail)
  clear cp
  obtain ⟨A0, c0, rfl, hc0⟩ := HN.out.way.slice
  clear hc0
  generalize hp : w.heap.size = p at *
  have PD := Lib.hid (blk_drew PB.out)
  have ND := Lib.hid (HN.out.move (w1 := W.drew) (fun _ _ _ => rfl))
  have CD := Lib.hid (show kB.C W.drew A bs.length bs from HC.out)
  have BD := Lib.hid (show Below p w W.drew from BS.out.drew)
  have HPD := Lib.hid (show p < W.drew.heap.size from HPW.out)
  clear PB HN HC BS HPW
  refine start_ (n := 21) (S := fun w' => (∀ o, w'.cell? ⟨p, o, none⟩ = #[Value.int .i64 x, .int .i64 y, .slice A bs.length c][o]?) ∧ (∀ o, w'.cell? ⟨g, o, none⟩ = #[Value.int .i64 nd, .int .i64 cl, .slice A0 fls.length c0, .map (some m)][o]?)) (ds := [20]) #[false, false, false, false, false, false, false, false, false, false, false, false, false, false, false, false, false, false, false, false, false] (by kernel_rfl) rfl rfl ⟨(blkc PD.out), (blkc ND.out.net)⟩ (fun hHeld => ?_)
  refine pure_ (i := 0) (N := some 20) (v := ?_) (a' := ?_) #[true, false, false, false, false, false, false, false, false, false, false, false, false, false, false, false, false, false, false, false, false] rfl rfl (by kernel_rfl) (fun _ _ _ h => h) (Or.inl ⟨by rfl, ?_⟩) ?_ ?_
  rotate_left
  · intro w'
    go_simp
    with_reducible rfl
  rotate_left
  · simp only [Act.put, List.setIfInBounds_toArray, List.set_cons_zero, List.set_cons_succ, i64_w, i32_w]
    rfl
  refine pure_ (i := 1) (N := some 21) (v := ?_) (a' := ?_) #[true, true, false, false, false, false, false, false, false, false, false, false, false, false, false, false, false, false, false, false, false] rfl rfl (by kernel_rfl) (fun _ _ _ h => h) (Or.inl ⟨by rfl, ?_⟩) ?_ ?_
  rotate_left
  · intro w'
    go_simp
    with_reducible rfl
  rotate_left
  · simp only [Act.put, List.setIfInBounds_toArray, List.set_cons_zero, List.set_cons_succ, i64_w, i32_w]
    rfl
  refine pure_ (i := 2) (N := some 22) (v := ?_) (a' := ?_) #[true, true, true, false, false, false, false, false, false, false, false, false, false, false, false, false, false, false, false, false, false] rfl rfl (by kernel_rfl) (fun _ _ _ h => h) (Or.inl ⟨by rfl, ?_⟩) ?_ ?_
  rotate_left
  · intro w'
    go_simp
    with_reducible rfl
  rotate_left
  · simp only [Act.put, List.setIfInBounds_toArray, List.set_cons_zero, List.set_cons_succ, i64_w, i32_w]
    rfl
  refine pure_ (i := 3) (N := some 23) (v := ?_) (a' := ?_) #[true, true, true, true, false, false, false, false, false, false, false, false, false, false, false, false, false, false, false, false, false] rfl rfl (by kernel_rfl) (fun _ _ _ h => h) (Or.inl ⟨by rfl, ?_⟩) ?_ ?_
  rotate_left
  · intro w'
    go_simp
    with_reducible rfl
  rotate_left
  · simp only [Act.put, List.setIfInBounds_toArray, List.set_cons_zero, List.set_cons_succ, i64_w, i32_w]
    rfl
  refine pure_ (i := 5) (N := some 25) (v := ?_) (a' := ?_) #[true, true, true, true, false, true, false, false, false, false, false, false, false, false, false, false, false, false, false, false, false] rfl rfl (by kernel_rfl) (fun _ _ _ h => h) (Or.inl ⟨by rfl, ?_⟩) ?_ ?_
  rotate_left
  · intro w'
    go_simp
    with_reducible rfl
  rotate_left
  · simp only [Act.put, List.setIfInBounds_toArray, List.set_cons_zero, List.set_cons_succ, i64_w, i32_w]
    rfl
  refine pure_ (i := 7) (N := some 27) (v := ?_) (a' := ?_) #[true, true, true, true, false, true, false, true, false, false, false, false, false, false, false, false, false, false, false, false, false] rfl rfl (by kernel_rfl) (fun _ _ _ h => h) (Or.inl ⟨by rfl, ?_⟩) ?_ ?_
  rotate_left
  · intro w'
    go_simp
    with_reducible rfl
  rotate_left
  · simp only [Act.put, List.setIfInBounds_toArray, List.set_cons_zero, List.set_cons_succ, i64_w, i32_w]
    rfl
  refine pure_ (i := 9) (N := some 29) (v := ?_) (a' := ?_) #[true, true, true, true, false, true, false, true, false, true, false, false, false, false, false, false, false, false, false, false, false] rfl rfl (by kernel_rfl) (fun _ _ _ h => h) (Or.inl ⟨by rfl, ?_⟩) ?_ ?_
  rotate_left
  · intro w'
    go_simp
    with_reducible rfl
  rotate_left
  · simp only [Act.put, List.setIfInBounds_toArray, List.set_cons_zero, List.set_cons_succ, i64_w, i32_w]
    rfl
  refine pure_ (i := 12) (N := some 32) (v := ?_) (a' := ?_) #[true, true, true, true, false, true, false, true, false, true, false, false, true, false, false, false, false, false, false, false, false] rfl rfl (by kernel_rfl) (fun _ _ _ h => h) (Or.inl ⟨by rfl, ?_⟩) ?_ ?_
  rotate_left
  · intro w'
    go_simp
    with_reducible rfl
  rotate_left
  · simp only [Act.put, List.setIfInBounds_toArray, List.set_cons_zero, List.set_cons_succ, i64_w, i32_w]
    rfl
  refine take_ (i := 4) (N := some 24) (v := ?_) (a' := ?_) #[true, true, true, true, true, true, false, true, false, true, false, false, true, false, false, false, false, false, false, false, false] rfl rfl (by kernel_rfl) (fun _ _ _ h => h) (Or.inl ⟨by rfl, ?_⟩) hHeld ?_ ?_
  rotate_left
  · rintro w' ⟨s0, s1⟩
    go_simp
    with_reducible rfl
  rotate_left
  · simp only [Act.put, List.setIfInBounds_toArray, List.set_cons_zero, List.set_cons_succ, i64_w, i32_w]
    rfl
  refine take_ (i := 6) (N := some 26) (v := ?_) (a' := ?_) #[true, true, true, true, true, true, true, true, false, true, false, false, true, false, false, false, false, false, false, false, false] rfl rfl (by kernel_rfl) (fun _ _ _ h => h) (Or.inl ⟨by rfl, ?_⟩) hHeld ?_ ?_
  rotate_left
  · rintro w' ⟨s0, s1⟩
    go_simp
    with_reducible rfl
  rotate_left
  · simp only [Act.put, List.setIfInBounds_toArray, List.set_cons_zero, List.set_cons_succ, i64_w, i32_w]
    rfl
  refine take_ (i := 8) (N := some 28) (v := ?_) (a' := ?_) #[true, true, true, true, true, true, true, true, true, true, false, false, true, false, false, false, false, false, false, false, false] rfl rfl (by kernel_rfl) (fun _ _ _ h => h) (Or.inl ⟨by rfl, ?_⟩) hHeld ?_ ?_
  rotate_left
  · rintro w' ⟨s0, s1⟩
    go_simp
    with_reducible rfl
  rotate_left
  · simp only [Act.put, List.setIfInBounds_toArray, List.set_cons_zero, List.set_cons_succ, i64_w, i32_w]
    rfl
  refine take_ (i := 10) (N := some 30) (v := ?_) (a' := ?_) #[true, true, true, true, true, true, true, true, true, true, true, false, true, false, false, false, false, false, false, false, false] rfl rfl (by kernel_rfl) (fun _ _ _ h => h) (Or.inl ⟨by rfl, ?_⟩) hHeld ?_ ?_
  rotate_left
  · rintro w' ⟨s0, s1⟩
    go_simp
    with_reducible rfl
  rotate_left
  · simp only [Act.put, List.setIfInBounds_toArray, List.set_cons_zero, List.set_cons_succ, i64_w, i32_w]
    rfl
  refine take_ (i := 13) (N := some 33) (v := ?_) (a' := ?_) #[true, true, true, true, true, true, true, true, true, true, true, false, true, true, false, false, false, false, false, false, false] rfl rfl (by kernel_rfl) (fun _ _ _ h => h) (Or.inl ⟨by rfl, ?_⟩) hHeld ?_ ?_
  rotate_left
  · rintro w' ⟨s0, s1⟩
    go_simp
    with_reducible rfl
  rotate_left
  · simp only [Act.put, List.setIfInBounds_toArray, List.set_cons_zero, List.set_cons_succ, i64_w, i32_w]
    rfl
  refine one_ (i := 11) (N := some 31) #[true, true, true, true, true, true, true, true, true, true, true, true, true, true, false, false, false, false, false, false, false] rfl rfl (by kernel_rfl) (by decide) (fun K hK => ?_)
  refine goes_ Try.func33 (by kernel_rfl) rfl #[.slice A bs.length c] (by rfl) rfl rfl (by simp only [List.map_toArray, List.map_cons, List.map_nil]; rfl) ?_
  with_reducible refine ((clone_any CD.out (by have := HRB.out.2; omega))).mono ?_
  rintro e w3 ⟨v3, rfl, ho3, hb3⟩
  refine ⟨_, rfl, ?_⟩
  obtain ⟨A3, c3, rfl⟩ := own_slice ho3
  have HS3 := Lib.hid (show W.heap.size ≤ w3.heap.size from hb3.size)
  have O3 := Lib.hid (show Ow w3 W.heap.size _ _ from ho3)
  have P3 := Lib.hid (blk_below PD.out hb3)
  have N3 := Lib.hid (ND.out.below hb3)
  have C3 := Lib.hid (Kd.C_below CD.out hb3)
  have B3 := Lib.hid (below_then BD.out (Nat.le_of_lt HPD.out) hb3)
  clear ho3 hb3
  refine hK.out _ _ ⟨(blkc P3.out), (blkc N3.out.net)⟩ (fun hHeld => ?_)
  clear hK K
  refine norm_ (a' := ?_) ?_ ?_
  rotate_left
  · show Act.put _ (some 31) _ = _
    simp only [Act.put, List.setIfInBounds_toArray, List.set_cons_zero, List.set_cons_succ, i64_w, i32_w]
    rfl
  refine one_ (i := 14) (N := some 34) #[true, true, true, true, true, true, true, true, true, true, true, true, true, true, true, false, false, false, false, false, false] rfl rfl (by kernel_rfl) (by decide) (fun K hK => ?_)
  refine goes_ Try.func33 (by kernel_rfl) rfl #[.slice A bs.length c] (by rfl) rfl rfl (by simp only [List.map_toArray, List.map_cons, List.map_nil]; rfl) ?_
  with_reducible refine ((clone_any C3.out (by have := HRB.out.2; omega))).mono ?_
  rintro e w4 ⟨v4, rfl, ho4, hb4⟩
  refine ⟨_, rfl, ?_⟩
  obtain ⟨A4, c4, rfl⟩ := own_slice ho4
  have HS4 := Lib.hid hb4.size
  have HB4 := Lib.hid hb4
  have O4 := Lib.hid ho4
  have P4 := Lib.hid (blk_below P3.out hb4)
  have N4 := Lib.hid (N3.out.below hb4)
  have C4 := Lib.hid (Kd.C_below C3.out hb4)
  have B4 := Lib.hid (below_then B3.out (Nat.le_trans (Nat.le_of_lt HPD.out) HS3.out) hb4)
  clear ho4 hb4
  have BX := Lib.hid (below_alloc (Below.refl w4.heap.size w4) (.cells #[.int .i64 x, .int .i64 y, .slice A3 bs.length c3, .slice A4 bs.length c4] tFl))
  have NX := Lib.hid (N4.out.below BX.out)
  have PX := Lib.hid (blk_new w4 (.cells #[.int .i64 x, .int .i64 y, .slice A3 bs.length c3, .slice A4 bs.length c4] tFl))
  have QX := Lib.hid (blk_below P4.out BX.out)
  have HAPP := Lib.hid (way_app (w4.alloc (.cells #[.int .i64 x, .int .i64 y, .slice A3 bs.length c3, .slice A4 bs.length c4] tFl)) tFls (ys := [(⟨x, y, .slice A3 bs.length c3, .slice A4 bs.length c4, bs, bs⟩ : Fl)]) NX.out.way ⟨w4.heap.size, 0, none⟩ 1 1 rfl (by omega) (fun j u hj => by rw [add_plain, blkc PX.out j]; rw [cellsOf_one, Fl.cells] at hj; simpa using hj) (fun f' hf' => by rw [List.mem_singleton.1 hf']; exact ⟨rfl, rfl⟩) (by have h1 := HBB.out; have h2 := HPD.out; have h3 := BX.out.size; have h4 := HS3.out; have h5 := HS4.out; have h6 : W.drew.heap.size = W.heap.size := rfl; omega) HFL.out)
  obtain ⟨v7, w7, hrun, hgo, hgr, hat⟩ := HAPP.out
  have hln : (fls ++ [(⟨x, y, .slice A3 bs.length c3, .slice A4 bs.length c4, bs, bs⟩ : Fl)]).length = fls.length + 1 := by rw [List.length_append, List.length_singleton]
  rw [hln] at hgo
  obtain ⟨A7, c7, rfl⟩ := own_slice hgo
  have HLN := Lib.hid hln
  have HGO := Lib.hid hgo
  have HGR := Lib.hid hgr
  have HAT := Lib.hid hat
  have G7 := Lib.hid ((hgr.block g (blk_lt NX.out.net) (fun e => NX.out.g_not.1 e.symm)).trans NX.out.net)
  have P7 := Lib.hid ((hgr.block p (blk_lt QX.out) (fun e => by have h2 := (NX.out.ov p e.symm).2; omega)).trans QX.out)
  clear hln hgo hgr hat HAPP
  refine hK.out _ _ ⟨(blkc P4.out), (blkc N4.out.net)⟩ (fun hHeld => ?_)
  clear hK K
  refine norm_ (a' := ?_) ?_ ?_
  rotate_left
  · show Act.put _ (some 34) _ = _
    simp only [Act.put, List.setIfInBounds_toArray, List.set_cons_zero, List.set_cons_succ, i64_w, i32_w]
    rfl
  refine pure_ (i := 15) (N := some 35) (v := ?_) (a' := ?_) #[true, true, true, true, true, true, true, true, true, true, true, true, true, true, true, true, false, false, false, false, false] rfl rfl (by kernel_rfl) (fun _ _ _ h => h) (Or.inl ⟨by rfl, ?_⟩) ?_ ?_
  rotate_left
  · intro w'
    go_simp
    with_reducible rfl
  rotate_left
  · simp only [Act.put, List.setIfInBounds_toArray, List.set_cons_zero, List.set_cons_succ, i64_w, i32_w]
    rfl
  refine one_ (i := 16) (N := some 36) #[true, true, true, true, true, true, true, true, true, true, true, true, true, true, true, true, true, false, false, false, false] rfl rfl (by kernel_rfl) (by decide) (fun K hK => ?_)
  refine value_ (w1 := ?_) (v := ?_) (by rfl) rfl ?_ ?_
  rotate_left 2
  · go_simp
    constructor
    · rfl
    · rfl
  refine hK.out _ _ ⟨(blkc QX.out), (blkc NX.out.net)⟩ (fun hHeld => ?_)
  clear hK K
  refine norm_ (a' := ?_) ?_ ?_
  rotate_left
  · show Act.put _ (some 36) _ = _
    simp only [Act.put, List.setIfInBounds_toArray, List.set_cons_zero, List.set_cons_succ, i64_w, i32_w]
    rfl
  refine one_ (i := 17) (N := some 37) #[true, true, true, true, true, true, true, true, true, true, true, true, true, true, true, true, true, true, false, false, false] rfl rfl (by kernel_rfl) (by decide) (fun K hK => ?_)
  refine app_step (by rfl) (.tmp 24) (.tmp 36) tFls rfl rfl rfl hrun ?_
  refine hK.out _ _ ⟨(blkc P7.out), (blkc G7.out)⟩ (fun hHeld => ?_)
  clear hK K
  refine norm_ (a' := ?_) ?_ ?_
  rotate_left
  · show Act.put _ (some 37) _ = _
    simp only [Act.put, List.setIfInBounds_toArray, List.set_cons_zero, List.set_cons_succ, i64_w, i32_w]
    rfl
  refine pure_ (i := 18) (N := some 38) (v := ?_) (a' := ?_) #[true, true, true, true, true, true, true, true, true, true, true, true, true, true, true, true, true, true, true, false, false] rfl rfl (by kernel_rfl) (fun _ _ _ h => h) (Or.inl ⟨by rfl, ?_⟩) ?_ ?_
  rotate_left
  · intro w'
    go_simp
    with_reducible rfl
  rotate_left
  · simp only [Act.put, List.setIfInBounds_toArray, List.set_cons_zero, List.set_cons_succ, i64_w, i32_w]
    rfl
  refine pure_ (i := 19) (N := some 39) (v := ?_) (a' := ?_) #[true, true, true, true, true, true, true, true, true, true, true, true, true, true, true, true, true, true, true, true, false] rfl rfl (by kernel_rfl) (fun _ _ _ h => h) (Or.inl ⟨by rfl, ?_⟩) ?_ ?_
  rotate_left
  · intro w'
    go_simp
    with_reducible rfl
  rotate_left
  · simp only [Act.put, List.setIfInBounds_toArray, List.set_cons_zero, List.set_cons_succ, i64_w, i32_w]
    rfl
  refine last_ (i := 20) (N := none) #[true, true, true, true, true, true, true, true, true, true, true, true, true, true, true, true, true, true, true, true, true] rfl rfl (by kernel_rfl) (by decide) (fun K hK => ?_)
  have zg := blkz G7.out
  refine skip_ (w1 := ?_) (by rfl) rfl ?_ ?_
  rotate_left
  · go_simp
    rfl
  refine hK.out _ _ ?_
  clear hK K
  refine done_ (by kernel_rfl) ?_
  have hnp : ∀ k, (O k ∧ k < p) → k ≠ p := fun k hk e => by have := hk.2; omega
  have FX := fun f' hf' => NX.out.fl f' hf'
  have fr3 : ∀ k, (Value.slice A3 bs.length c3).ownBlock = some k → W.heap.size ≤ k ∧ k < w3.heap.size := fun k hk => ⟨own_base O3.out k hk, own_lt O3.out k hk⟩
  have fr4 : ∀ k, (Value.slice A4 bs.length c4).ownBlock = some k → w3.heap.size ≤ k := fun k hk => own_base O4.out k hk
  have hsz : p < W.heap.size ∧ W.heap.size ≤ w3.heap.size ∧ w3.heap.size ≤ w4.heap.size ∧ base ≤ p := ⟨HPD.out, HS3.out, HS4.out, by have := HBB.out; omega⟩
  have N8 := Lib.hid (NX.out.appended (O' := fun k => O k ∨ p ≤ k) (f := (⟨x, y, .slice A3 bs.length c3, .slice A4 bs.length c4, bs, bs⟩ : Fl)) (b := (w4.alloc (.cells #[.int .i64 x, .int .i64 y, .slice A3 bs.length c3, .slice A4 bs.length c4] tFl)).heap.size)
    ⟨((O3.out.below HB4.out).below BX.out).lower (by omega), (O4.out.below BX.out).lower (by omega), fun k hk => .inr (by have := fr3 k hk; omega), fun k hk => .inr (by have := fr4 k hk; omega), rfl, HRB.out.1, HRB.out.1, HRB.out.2⟩
    (fun k hk => .inl hk.1) (fun k hk => hk.elim (HOB.out k) (fun h => by omega))
    (NX.out.sep.snoc (fun k hk => ⟨fun e => by have h1 := fr3 k e; have h2 := fr4 k hk; omega, fun f' hf' => ⟨fun e => by have h1 := ((FX f' hf').os k e).2; have h2 := fr4 k hk; omega, fun e => by have h1 := ((FX f' hf').on k e).2; have h2 := fr4 k hk; omega⟩⟩)
      (fun f' hf' k hk => ⟨fun e => by have h1 := ((FX f' hf').on k hk).2; have h2 := fr3 k e; omega, fun e => by have h1 := ((FX f' hf').on k hk).2; have h2 := fr4 k e; omega⟩))
    (by rw [HLN.out]; exact HGO.out) HGR.out HAT.out (.inr (by have h2 := BX.out.size; omega)))
  have KP := Lib.hid (Kept.setCell (p := ⟨g, 2, none⟩) (S := O) (((Kept.of_below (by rw [hp]; exact B4.out) O).below BX.out).of_grown HGR.out (fun k hk => .inl (NX.out.ov k hk).1)) (.inl NX.out.og.1) (.slice A7 (fls.length + 1) c7))
  have BL := Lib.hid (Below.setCell (p := ⟨g, 2, none⟩) (Below.grown (below_then HBW.out HBW.out.size (below_then (show Below w.heap.size w w4 by rw [hp]; exact B4.out) (by rw [hp]; omega) BX.out)) HGR.out (by have h1 := HBB.out; have h2 := HBS.out; have h4 := BX.out.size; omega) (fun k hk => by rw [← HBS.out]; exact HOB.out k (NX.out.ov k hk).1)) (show w0.heap.size ≤ g by rw [← HBS.out]; exact HOB.out g NX.out.og.1) (.slice A7 (fls.length + 1) c7))
  have hpg : p ≠ g := fun e => by have := NX.out.og.2; omega
  have hpm : p ≠ m := fun e => by have := NX.out.om.2; omega
  have P8 := Lib.hid (blk_far (p := ⟨g, 2, none⟩) P7.out hpg (.slice A7 (fls.length + 1) c7))
  have C8 := Lib.hid (show kB.C (w7.setCell ⟨g, 2, none⟩ (.slice A7 (fls.length + 1) c7)) A bs.length bs from C_blk (Kd.C_below C4.out BX.out) (fun ad e hn hl => by
    have h1 := HA.out ad e hn
    rw [Below.heap_setCell _ ⟨g, 2, none⟩ _ ad.block (fun e2 => h1 (by rw [e2]; exact NX.out.og.1))]
    exact HGR.out.block ad.block hl (fun e2 => h1 (NX.out.ov _ e2.symm).1)))
  clear hsz FX fr3 fr4 hnp
  go_upto_region 6 with (fail)
  generalize (World.setCell w7 _ _) = W8 at *
  have N8 := Lib.hid (N8.out.move (w1 := W8.drew) (fun _ _ _ => rfl))
  have P8 := Lib.hid (blk_drew P8.out)
  have C8 := Lib.hid (show kB.C W8.drew A bs.length bs from C8.out)
  have KP := Lib.hid (show Kept w W8.drew O from KP.out)
  have BL := Lib.hid BL.out.drew
  have hent := entry_any N8.out.mp (x, y, strOfNums bs) HLT.out
  obtain ⟨cc, bb, es1, es2, n1, hcc, hlk, hme, hlk2, hst, hmo⟩ := hent
  have hw : wrap64 ((cc : Int) + 1) = ((cc + 1 : Nat) : Int) := by have := HSE.out; unfold wrap64; omega
  rw [show ((cc + 1 : Nat) : Int) = (cc : Int) + 1 from rfl] at hst
  replace hlk : (Instr.lookup tM (.map (some m)) (.agg #[.int .i64 x, .int .i64 y, .string (strOfNums bs)]) false).run Try.prog W8.drew = .ok (.int .i64 (cc : Int)) W8.drew := hlk
  replace hme : (Instr.mapEntry tM (.map (some m)) (.agg #[.int .i64 x, .int .i64 y, .string (strOfNums bs)])).run Try.prog W8.drew = .ok (.tuple #[.int .i64 (cc : Int), goInt (bb : Int)]) (setBlock W8.drew m (.map es1 n1)) := hme
  obtain ⟨es0, n0, hm8, _⟩ := N8.out.mp
  have M9 := Lib.hid (set_same (m := m) (o' := .map es1 n1) hm8)
  have P9 := Lib.hid (set_far (m := m) (o' := .map es1 n1) P8.out hpm)
  have G9 := Lib.hid (set_far (m := m) (o' := .map es1 n1) N8.out.net N8.out.gm)
  have hlk9 : (Instr.lookup tM (.map (some m)) (.agg #[.int .i64 x, .int .i64 y, .string (strOfNums bs)]) false).run Try.prog (setBlock W8.drew m (.map es1 n1)) = .ok (.int .i64 (cc : Int)) (setBlock W8.drew m (.map es1 n1)) := hlk2 _ M9.out
  have hs9 := hst _ M9.out
  simp only [goInt] at hs9 hme
  have M10 := Lib.hid (set_same (m := m) (o' := .map es2 n1) M9.out)
  have FIN := Lib.hid (N8.out.newMap (w1 := setBlock (setBlock W8.drew m (.map es1 n1)) m (.map es2 n1)) ⟨es2, n1, M10.out, hmo⟩ (fun k hk => by rw [setBlock_ne _ _ _ _ hk, setBlock_ne _ _ _ _ hk]))
  have HOM := Lib.hid NX.out.om.1
  have K10 := Lib.hid (kept_block (kept_block KP.out HOM.out (.map es1 n1)) HOM.out (.map es2 n1))
  have HM0 := Lib.hid (show w0.heap.size ≤ m by rw [← HBS.out]; exact HOB.out m HOM.out)
  have B10 := Lib.hid (below_block (o := .map es2 n1) (below_block (o := .map es1 n1) BL.out HM0.out) HM0.out)
  have HE := Lib.hid (And.intro hs9 hme)
  have FIN : Hid (∃ v' sv nv, NetR (setBlock (setBlock W8.drew m (.map es1 n1)) m (.map es2 n1)) base (fun k => O k ∨ w.heap.size ≤ k) g m nd cl v' (fls ++ [⟨x, y, sv, nv, bs, bs⟩]) (sent ++ [(x, y, strOfNums bs)])) := Lib.hid ⟨_, _, _, by rw [hp]; exact FIN.out⟩
  have HL := Lib.hid (And.intro hlk hlk9)
  clear hlk hme hlk2 hst hmo hm8 hlk9 hs9
  have C9 := Lib.hid (C_blk (w1 := setBlock W8.drew m (.map es1 n1)) C8.out (fun ad e hn hl => setBlock_ne _ _ _ _ (fun e2 => HA.out ad e hn (by rw [e2]; exact HOM.out))))
  have HV := Lib.hid (And.intro (Kd.C_string (src := 28) (dst := 9) (c := c) Try.underlying28 Try.underlying5 Try.underlying9 C8.out) (Kd.C_string (src := 28) (dst := 9) (c := c) Try.underlying28 Try.underlying5 Try.underlying9 C9.out))
  refine start_ (n := 17) (S := fun w' => (∀ o, w'.cell? ⟨p, o, none⟩ = #[Value.int .i64 x, .int .i64 y, .slice A bs.length c][o]?) ∧ (∀ o, w'.cell? ⟨g, o, none⟩ = #[Value.int .i64 nd, .int .i64 cl, .slice A7 (fls.length + 1) c7, .map (some m)][o]?) ∧ ((Instr.lookup tM (.map (some m)) (.agg #[.int .i64 x, .int .i64 y, .string (strOfNums bs)]) false).run Try.prog w' = .ok (.int .i64 (cc : Int)) w')) (ds := [16]) #[false, false, false, false, false, false, false, false, false, false, false, false, false, false, false, false, false] (by kernel_rfl) rfl rfl ⟨(blkc P8.out), (blkc N8.out.net), HL.out.1⟩ (fun hHeld => ?_)
  refine pure_ (i := 0) (N := some 40) (v := ?_) (a' := ?_) #[true, false, false, false, false, false, false, false, false, false, false, false, false, false, false, false, false] rfl rfl (by kernel_rfl) (fun _ _ _ h => h) (Or.inl ⟨by rfl, ?_⟩) ?_ ?_
  rotate_left
  · intro w'
    go_simp
    with_reducible rfl
  rotate_left
  · simp only [Act.put, List.setIfInBounds_toArray, List.set_cons_zero, List.set_cons_succ, i64_w, i32_w]
    rfl
  refine pure_ (i := 1) (N := some 41) (v := ?_) (a' := ?_) #[true, true, false, false, false, false, false, false, false, false, false, false, false, false, false, false, false] rfl rfl (by kernel_rfl) (fun _ _ _ h => h) (Or.inl ⟨by rfl, ?_⟩) ?_ ?_
  rotate_left
  · intro w'
    go_simp
    with_reducible rfl
  rotate_left
  · simp only [Act.put, List.setIfInBounds_toArray, List.set_cons_zero, List.set_cons_succ, i64_w, i32_w]
    rfl
  refine pure_ (i := 2) (N := some 42) (v := ?_) (a' := ?_) #[true, true, true, false, false, false, false, false, false, false, false, false, false, false, false, false, false] rfl rfl (by kernel_rfl) (fun _ _ _ h => h) (Or.inl ⟨by rfl, ?_⟩) ?_ ?_
  rotate_left
  · intro w'
    go_simp
    with_reducible rfl
  rotate_left
  · simp only [Act.put, List.setIfInBounds_toArray, List.set_cons_zero, List.set_cons_succ, i64_w, i32_w]
    rfl
  refine pure_ (i := 4) (N := some 44) (v := ?_) (a' := ?_) #[true, true, true, false, true, false, false, false, false, false, false, false, false, false, false, false, false] rfl rfl (by kernel_rfl) (fun _ _ _ h => h) (Or.inl ⟨by rfl, ?_⟩) ?_ ?_
  rotate_left
  · intro w'
    go_simp
    with_reducible rfl
  rotate_left
  · simp only [Act.put, List.setIfInBounds_toArray, List.set_cons_zero, List.set_cons_succ, i64_w, i32_w]
    rfl
  refine pure_ (i := 6) (N := some 46) (v := ?_) (a' := ?_) #[true, true, true, false, true, false, true, false, false, false, false, false, false, false, false, false, false] rfl rfl (by kernel_rfl) (fun _ _ _ h => h) (Or.inl ⟨by rfl, ?_⟩) ?_ ?_
  rotate_left
  · intro w'
    go_simp
    with_reducible rfl
  rotate_left
  · simp only [Act.put, List.setIfInBounds_toArray, List.set_cons_zero, List.set_cons_succ, i64_w, i32_w]
    rfl
  refine pure_ (i := 8) (N := some 48) (v := ?_) (a' := ?_) #[true, true, true, false, true, false, true, false, true, false, false, false, false, false, false, false, false] rfl rfl (by kernel_rfl) (fun _ _ _ h => h) (Or.inl ⟨by rfl, ?_⟩) ?_ ?_
  rotate_left
  · intro w'
    go_simp
    with_reducible rfl
  rotate_left
  · simp only [Act.put, List.setIfInBounds_toArray, List.set_cons_zero, List.set_cons_succ, i64_w, i32_w]
    rfl
  refine take_ (i := 3) (N := some 43) (v := ?_) (a' := ?_) #[true, true, true, true, true, false, true, false, true, false, false, false, false, false, false, false, false] rfl rfl (by kernel_rfl) (fun _ _ _ h => h) (Or.inl ⟨by rfl, ?_⟩) hHeld ?_ ?_
  rotate_left
  · rintro w' ⟨s0, s1, s2⟩
    go_simp
    with_reducible rfl
  rotate_left
  · simp only [Act.put, List.setIfInBounds_toArray, List.set_cons_zero, List.set_cons_succ, i64_w, i32_w]
    rfl
  refine take_ (i := 5) (N := some 45) (v := ?_) (a' := ?_) #[true, true, true, true, true, true, true, false, true, false, false, false, false, false, false, false, false] rfl rfl (by kernel_rfl) (fun _ _ _ h => h) (Or.inl ⟨by rfl, ?_⟩) hHeld ?_ ?_
  rotate_left
  · rintro w' ⟨s0, s1, s2⟩
    go_simp
    with_reducible rfl
  rotate_left
  · simp only [Act.put, List.setIfInBounds_toArray, List.set_cons_zero, List.set_cons_succ, i64_w, i32_w]
    rfl
  refine take_ (i := 7) (N := some 47) (v := ?_) (a' := ?_) #[true, true, true, true, true, true, true, true, true, false, false, false, false, false, false, false, false] rfl rfl (by kernel_rfl) (fun _ _ _ h => h) (Or.inl ⟨by rfl, ?_⟩) hHeld ?_ ?_
  rotate_left
  · rintro w' ⟨s0, s1, s2⟩
    go_simp
    with_reducible rfl
  rotate_left
  · simp only [Act.put, List.setIfInBounds_toArray, List.set_cons_zero, List.set_cons_succ, i64_w, i32_w]
    rfl
  refine take_ (i := 9) (N := some 49) (v := ?_) (a' := ?_) #[true, true, true, true, true, true, true, true, true, true, false, false, false, false, false, false, false] rfl rfl (by kernel_rfl) (fun _ _ _ h => h) (Or.inl ⟨by rfl, ?_⟩) hHeld ?_ ?_
  rotate_left
  · rintro w' ⟨s0, s1, s2⟩
    go_simp
    with_reducible rfl
  rotate_left
  · simp only [Act.put, List.setIfInBounds_toArray, List.set_cons_zero, List.set_cons_succ, i64_w, i32_w]
    rfl
  refine one_ (i := 10) (N := some 50) #[true, true, true, true, true, true, true, true, true, true, true, false, false, false, false, false, false] rfl rfl (by kernel_rfl) (by decide) (fun K hK => ?_)
  have st := HV.out.1
  refine value_ (w1 := ?_) (v := ?_) (by rfl) rfl ?_ ?_
  rotate_left 2
  · go_simp
    constructor
    · rfl
    · rfl
  refine hK.out _ _ ⟨(blkc P8.out), (blkc N8.out.net), HL.out.1⟩ (fun hHeld => ?_)
  clear hK K
  refine norm_ (a' := ?_) ?_ ?_
  rotate_left
  · show Act.put _ (some 50) _ = _
    simp only [Act.put, List.setIfInBounds_toArray, List.set_cons_zero, List.set_cons_succ, i64_w, i32_w]
    rfl
  refine pure_ (i := 11) (N := some 51) (v := ?_) (a' := ?_) #[true, true, true, true, true, true, true, true, true, true, true, true, false, false, false, false, false] rfl rfl (by kernel_rfl) (fun _ _ _ h => h) (Or.inl ⟨by rfl, ?_⟩) ?_ ?_
  rotate_left
  · intro w'
    go_simp
    with_reducible rfl
  rotate_left
  · simp only [Act.put, List.setIfInBounds_toArray, List.set_cons_zero, List.set_cons_succ, i64_w, i32_w]
    rfl
  refine take_ (i := 12) (N := some 52) (v := ?_) (a' := ?_) #[true, true, true, true, true, true, true, true, true, true, true, true, true, false, false, false, false] rfl rfl (by kernel_rfl) (fun _ _ _ h => h) (Or.inl ⟨by rfl, ?_⟩) hHeld ?_ ?_
  rotate_left
  · rintro w' ⟨s0, s1, s2⟩
    go_simp
    with_reducible rfl
  rotate_left
  · simp only [Act.put, List.setIfInBounds_toArray, List.set_cons_zero, List.set_cons_succ, i64_w, i32_w]
    rfl
  refine pure_ (i := 13) (N := some 53) (v := ?_) (a' := ?_) #[true, true, true, true, true, true, true, true, true, true, true, true, true, true, false, false, false] rfl rfl (by kernel_rfl) (fun _ _ _ h => h) (Or.inl ⟨by rfl, ?_⟩) ?_ ?_
  rotate_left
  · intro w'
    go_simp
    with_reducible rfl
  rotate_left
  · simp only [Act.put, List.setIfInBounds_toArray, List.set_cons_zero, List.set_cons_succ, i64_w, i32_w]
    rfl
  refine one_ (i := 14) (N := some 54) #[true, true, true, true, true, true, true, true, true, true, true, true, true, true, true, false, false] rfl rfl (by kernel_rfl) (by decide) (fun K hK => ?_)
  have he := HE.out.2
  refine value_ (w1 := ?_) (v := ?_) (by rfl) rfl ?_ ?_
  rotate_left 2
  · go_simp
    constructor
    · rfl
    · rfl
  refine hK.out _ _ ⟨(blkc P9.out), (blkc G9.out), HL.out.2⟩ (fun hHeld => ?_)
  clear hK K
  refine norm_ (a' := ?_) ?_ ?_
  rotate_left
  · show Act.put _ (some 54) _ = _
    simp only [Act.put, List.setIfInBounds_toArray, List.set_cons_zero, List.set_cons_succ, i64_w, i32_w]
    rfl
  refine pure_ (i := 15) (N := some 55) (v := ?_) (a' := ?_) #[true, true, true, true, true, true, true, true, true, true, true, true, true, true, true, true, false] rfl rfl (by kernel_rfl) (fun _ _ _ h => h) (Or.inl ⟨by rfl, ?_⟩) ?_ ?_
  rotate_left
  · intro w'
    go_simp
    with_reducible rfl
  rotate_left
  · simp only [Act.put, List.setIfInBounds_toArray, List.set_cons_zero, List.set_cons_succ, i64_w, i32_w]
    rfl
  refine last_ (i := 16) (N := none) #[true, true, true, true, true, true, true, true, true, true, true, true, true, true, true, true, true] rfl rfl (by kernel_rfl) (by decide) (fun K hK => ?_)
  have hs := HE.out.1
  refine skip_ (w1 := ?_) (by rfl) rfl ?_ ?_
  rotate_left
  · go_simp
    rfl
  refine hK.out _ _ ?_
  clear hK K
  refine done_ (by kernel_rfl) ?_
  go_wp2_with fail
  go_ret
  exact ⟨rfl, FIN.out, K10.out, B10.out⟩
end
end Go.Proofs.Ytpjbgcpieijeaaa.Net
