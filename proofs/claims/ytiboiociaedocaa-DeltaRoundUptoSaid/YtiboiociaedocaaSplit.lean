/- Split: what it takes of any bytes, the program's and the document's. -/
import Derived.Test.YtiboiociaedocaaSplPlain
set_option linter.unusedVariables false
set_option linter.unusedSimpArgs false
namespace Go.Proofs.Ytiboiociaedocaa.Leb
open Go.RowKit Go.Proofs.Ytiboiociaedocaa.CutPlain Go.Proofs.Ytiboiociaedocaa.PDeltaStreams Go.Proofs.YtiboiociaedocaaW.PrintWords Go.Proofs.YtiboiociaedocaaW.PrintLast Go.Proofs.Ytiboiociaedocaa.CutDec Go.Proofs.Ytiboiociaedocaa.Mem Go.Proofs.Ytiboiociaedocaa.Byt Go.Proofs.Ytiboiociaedocaa.Chk Go.Proofs.Ytiboiociaedocaa.Opn Go.Proofs.Ytiboiociaedocaa.Str
theorem wsub {a b m : Nat} (h : m = a - b) (hb : b ≤ a) (ha : a < 9223372036854775808) : wrap64 ((a : Int) - (b : Int)) = (m : Int) := by subst h; unfold wrap64; omega
theorem wadd {a b m : Nat} (h : m = a + b) (hm : m < 9223372036854775808) : wrap64 ((a : Int) + (b : Int)) = (m : Int) := by subst h; unfold wrap64; omega
theorem dlt {a b : Nat} {t : Bool} (h : decide (a < b) = t) : decide ((a : Int) < (b : Int)) = t := by rw [← h]; simp
def toSU (u : UpdT) : SU := ⟨u.1, u.2.1, u.2.2.1, ⟨u.2.2.2.1, u.2.2.2.2.1, u.2.2.2.2.2.1, u.2.2.2.2.2.2⟩⟩
theorem updOf_toSU (u : UpdT) : updOf (toSU u) = u := rfl
def encRU (x : RU) : List Value := [.int .i64 x.f0, .int .i64 x.f1, .int .i64 x.f2, .int .i64 x.f3.f0, .string x.f3.f1, .string x.f3.f2, .int .i64 x.f3.f3]
theorem kRU_lit (w : World) (l : List RU) (hl : l.length ≤ 1000) (cs : Array Value) (hcs : cs = (l.flatMap encRU).toArray) : kRU.C (w.alloc (.cells cs 46)) (some ⟨w.heap.size, 0, none⟩) l.length l :=
  Str.C_lit kRU encRU 46 (fun _ => rfl) (fun w x => k46_mk w x) w l hl cs hcs
theorem infoRU : (Try.prog.info? 46).map (fun i => (i.zero, i.size, i.bytes)) = some (some (.agg #[.int .i64 0, .int .i64 0, .int .i64 0, .int .i64 0, .string ⟨#[]⟩, .string ⟨#[]⟩, .int .i64 0]), 7, 72) := by kernel_rfl
theorem KR_M {w : World} {base : Nat} {ok : Nat → Prop} (w0 : World) (x : RU) (cs : List Value) (h : kRU.K w0 x cs) : kRU.M w base ok x cs := by
  rw [k46_open h]
  exact k46_mkM _ _ _ x
theorem out_none {ys : List Int} (h : decU ys = none) : outU ys = (zeroU, 86) := by rw [outU, h]
theorem out_some {ys : List Int} {u : UpdT} (h : decU ys = some u) : outU ys = (u, 0) := by rw [outU, h]
theorem rdT_bytes {bs : List Int} {s : ByteArray} {n : Nat} {r : List Int} (hB : IsB bs) (h : rd64 bs = some (n, r)) (hs : s = strOfNums (r.take n)) : bytesOf s = r.take n := by
  rw [hs, bytes_strOf]
  intro x hx
  have he := (rd64_drop hB h).1
  exact hB x (by rw [he]; exact List.mem_append_right _ (List.mem_of_mem_take hx))

set_option maxHeartbeats 12800000 in
set_option maxRecDepth 100000 in
theorem split_big {w : World} {A : Option Addr} {c : Nat} {bs : List Int} (hS : Src w A c bs) (hl : bs.length ≤ 1073741824) :
    Calls Try.prog 31 #[.slice A bs.length c] w fun e w' => ∃ v, e = .returned (.tuple #[v, .int .i64 (((splU bs).2 : Nat) : Int)]) ∧ kSU.R 38 w' w.heap.size (fun _ => True) v (((splU bs).1).map toSU) ∧ Below w.heap.size w w' := by
  have SR := Lib.hid hS
  have HL := Lib.hid hl
  clear hS hl
  go_enter Try.func31, Try.ntmps31
  go_wp2_with fail
  go_loopg [4, 5] (bs.length + 1) (fun kq v4 v5 w' => ∃ (p : Nat) (acc : List UpdT), v5 = .int .i64 (p : Int) ∧ Hid (bs.length + 1 ≤ p + kq) ∧ Hid (SplGo bs p acc) ∧ Hid (kSU.R 38 w' w.heap.size (fun _ => True) v4 ((acc).map toSU)) ∧ Hid (Below w.heap.size w w'))
  case atStart => exact ⟨0, [], rfl, (show _ ≤ _ by omega), SplGo.start bs, Kd.R_nil _ _ _ _ _, Below.refl _ _⟩
  case round =>
    obtain ⟨p, acc, rfl, HK, HG, HO, HB⟩ := hrel
    obtain ⟨k1, rfl⟩ : ∃ k, gk = k + 1 := ⟨gk - 1, by have := HK.out; have := HG.out.le; omega⟩
    obtain ⟨r, hr⟩ : ∃ r, bs.drop p = r := ⟨_, rfl⟩
    obtain ⟨Ap, SP, hcut⟩ := SR.out.place HG.out.le hr
    have SS := Lib.hid (SP.below HB.out)
    have HR := Lib.hid hr
    clear SP hr
    cases hd : rdT r with
    | none =>
      have FIN := Lib.hid (HG.out.none_ (by rw [HR.out]; exact hd))
      rcases rdT_no hd with h64 | ⟨n, q, h64, hn⟩
      · have HC := Lib.hid (lebd_none SS.out.C SS.out.c SS.out.B SS.out.l h64)
        clear hd h64
        go_wp2_with fail
        refine HC.out.mono ?_
        rintro e w1 ⟨⟨x, hx, rfl⟩, hb1⟩
        have B1 := Lib.hid (below_then HB.out HB.out.size hb1)
        have O1 := Lib.hid (Kd.R_below HO.out hb1)
        clear hb1 HC
        go_wp2_with fail
        go_ret2
        rw [FIN.out]
        exact ⟨_, rfl, O1.out, B1.out⟩
      · obtain ⟨hee, hn2, hq, hkl⟩ := rd64_drop SS.out.B h64
        clear hee
        have HC := Lib.hid (lebd_some SS.out.C SS.out.c SS.out.B SS.out.l h64)
        have hql := congrArg List.length hq
        have hrl := congrArg List.length HR.out
        rw [List.length_drop] at hql hrl
        generalize (lebL n).length = k at *
        have hpl := HG.out.le
        have hll := HL.out
        obtain ⟨m1, hm1⟩ : ∃ m1, m1 = bs.length - p := ⟨_, rfl⟩
        obtain ⟨m2, hm2⟩ : ∃ m2, m2 = m1 - k := ⟨_, rfl⟩
        have d2 : decide (m2 < n) = true := by simp; omega
        have i1 : k ≤ m1 ∧ bs.length < 9223372036854775808 ∧ m1 < 9223372036854775808 ∧ m2 < 18446744073709551616 := by omega
        obtain ⟨i1, i2, i3, i4⟩ := i1
        have w1 := wsub hm1 hpl i2
        have w2 := wsub hm2 i1 i3
        have w3 := u64_nat i4
        have d1 := dlt d2
        clear i1 i2 i3 i4
        clear hm1 hm2 hpl hll hql hrl hq hkl hn2 hd h64 hn
        go_wp2_with fail
        refine HC.out.mono ?_
        rintro e w1 ⟨rfl, hb1⟩
        have B1 := Lib.hid (below_then HB.out HB.out.size hb1)
        have O1 := Lib.hid (Kd.R_below HO.out hb1)
        clear hb1 HC
        go_wp2_with fail
        go_ret2
        rw [FIN.out]
        exact ⟨_, rfl, O1.out, B1.out⟩
    | some x =>
      obtain ⟨s, q⟩ := x
      have hdp : rdT (bs.drop p) = some (s, q) := by rw [HR.out]; exact hd
      obtain ⟨n, r2, h64, hn, hs, hq2⟩ := rdT_64 SS.out.l SS.out.B hd
      have hys := rdT_bytes SS.out.B h64 hs
      obtain ⟨hee, hn2, hq, hkl⟩ := rd64_drop SS.out.B h64
      clear hee
      have HC := Lib.hid (lebd_some SS.out.C SS.out.c SS.out.B SS.out.l h64)
      have hql := congrArg List.length hq
      have hrl := congrArg List.length HR.out
      rw [List.length_drop] at hql hrl
      generalize (lebL n).length = k at *
      have hpl := HG.out.le
      have hll := HL.out
      obtain ⟨p1, hp1⟩ : ∃ p1, p1 = p + k := ⟨_, rfl⟩
      obtain ⟨p2, hp2⟩ : ∃ p2, p2 = p1 + n := ⟨_, rfl⟩
      obtain ⟨m1, hm1⟩ : ∃ m1, m1 = bs.length - p := ⟨_, rfl⟩
      obtain ⟨m2, hm2⟩ : ∃ m2, m2 = m1 - k := ⟨_, rfl⟩
      have hdrop1 : bs.drop p1 = r2 := by rw [hp1, ← List.drop_drop, HR.out, hq]
      have hdrop2 : bs.drop p2 = q := by rw [hp2, ← List.drop_drop, hdrop1, hq2]
      obtain ⟨A2, hC2, hcut2⟩ := B_cut SR.out.C (i := p1) (j := p2) (by omega) (by omega) SR.out.c
      have htk : (bs.take p2).drop p1 = bytesOf s := by rw [hys, ← hdrop1, hp2, drop_take_at]
      have hlen : p2 - p1 = (bytesOf s).length := by rw [hys, List.length_take]; omega
      rw [htk] at hC2
      rw [hlen] at hC2 hcut2
      have SY := Lib.hid (show Src w A2 (c - p1) (bytesOf s) from ⟨hC2, by have := SR.out.c; omega, bytesOf_isB s, by have := SR.out.l; omega⟩)
      have d2 : decide (m2 < n) = false := by simp; omega
      have HP2 := Lib.hid (show p2 ≤ bs.length by omega)
      have i1 : k ≤ m1 ∧ bs.length < 9223372036854775808 ∧ m1 < 9223372036854775808 ∧ m2 < 18446744073709551616 ∧ n < 9223372036854775808 ∧ p1 < 9223372036854775808 ∧ p2 < 9223372036854775808 := by omega
      obtain ⟨i1, i2, i3, i4, i5, i6, i7⟩ := i1
      have w1 := wsub hm1 hpl i2
      have w2 := wsub hm2 i1 i3
      have w3 := u64_nat i4
      have w4 := w64_nat i5
      have w5 := wadd hp1 i6
      have w6 := wadd hp2 i7
      have d1 := dlt d2
      clear i1 i2 i3 i4 i5 i6 i7
      have HD2 := Lib.hid hdrop2
      have HDP := Lib.hid hdp
      clear hm1 hm2 hpl hll hql hrl hq hkl hn2 hd h64 hn hs hq2 hp1 hp2 hC2 htk hlen hdrop1 hdrop2 hys hdp
      go_wp2_with fail
      refine HC.out.mono ?_
      rintro e w1 ⟨rfl, hb1⟩
      have B1 := Lib.hid (below_then HB.out HB.out.size hb1)
      have O1 := Lib.hid (Kd.R_below HO.out hb1)
      clear hb1 HC HB HO SS
      go_wp2_with fail
      have SZ := Lib.hid (SY.out.below B1.out)
      refine (decode_any SZ.out.C SZ.out.c SZ.out.B SZ.out.l).mono ?_
      rintro e w2 ⟨he2, hb2⟩
      rw [he2.val]
      cases hu : decU (bytesOf s) with
      | none =>
        rw [out_none hu]
        simp only [updV, zeroU]
        have FIN := Lib.hid (HG.out.bad HDP.out hu)
        have bb := below_then hb2 hb2.size (below_alloc (Below.refl w2.heap.size w2) (.cells #[.int .i64 0, .int .i64 0, .int .i64 0, .int .i64 0, .string ⟨#[]⟩, .string ⟨#[]⟩, .int .i64 0] tU))
        have B2 := Lib.hid (below_then B1.out B1.out.size bb)
        have O2 := Lib.hid (Kd.R_below O1.out bb)
        clear he2 hb2 bb B1 O1 hu
        go_wp2_with fail
        go_ret2
        rw [FIN.out]
        exact ⟨_, rfl, O2.out, B2.out⟩
      | some u =>
        rw [out_some hu]
        simp only [updV]
        have GO := HG.out.step HDP.out hu HP2.out HD2.out
        have HG2 := Lib.hid GO.1
        have HLT := Lib.hid GO.2
        have bb := below_then hb2 hb2.size (below_alloc (Below.refl w2.heap.size w2) (.cells #[.int .i64 u.1, .int .i64 u.2.1, .int .i64 u.2.2.1, .int .i64 u.2.2.2.1, .string u.2.2.2.2.1, .string u.2.2.2.2.2.1, .int .i64 u.2.2.2.2.2.2] tU))
        have P2 := Lib.hid (blk_new w2 (.cells #[.int .i64 u.1, .int .i64 u.2.1, .int .i64 u.2.2.1, .int .i64 u.2.2.2.1, .string u.2.2.2.2.1, .string u.2.2.2.2.2.1, .int .i64 u.2.2.2.2.2.2] tU))
        have B2 := Lib.hid (below_then B1.out B1.out.size bb)
        have O2 := Lib.hid (Kd.R_below O1.out bb)
        clear he2 hb2 bb B1 O1 hu GO
        go_upto_region 8 with (fail)
        generalize w2.heap.size = b9 at *
        generalize (World.alloc w2 _) = W2 at *
        have cu := blkc P2.out
        go_wp2_with ((with_reducible refine gate_builtin (b := .append) (xs := #[.tmp 54, .tmp 56]) rfl ?_); at_builtin; refine Kd.R_append_rows kSU (Rr := kSU.K (W2.alloc _)) (w0 := w) w.heap.size rfl (.tmp 54) (.tmp 56) 54 38 _ 72 rfl Try.underlying54 infoSU rfl (by decide) (by decide) u4 (acc.map toSU) [toSU u] (some ⟨W2.heap.size, 0, none⟩) 1 1 (fun _ => True) (fun _ => False) rfl rfl (Kd.R_alloc O2.out _) (kSU_lit W2 [toSU u] (show 1 ≤ 1000 by decide) _ rfl) (fun x cs h => K_M _ x cs h) (fun _ hk => hk.elim) (fun _ _ => trivial) (below_alloc B2.out _) (below_size (below_alloc B2.out _)) (by have h1 := HG.out.n; have h2 := HG.out.le; have h3 := HL.out; rw [List.length_map]; omega) ?_; intro v3 w3 ho3 hb3 hg3 hat3; (have O3 := Lib.hid ho3); (have B3 := Lib.hid hb3); clear ho3 hb3 hg3 hat3)
        go_roundg k1
        case measure => exact Nat.lt_succ_self _
        case rel => exact ⟨p2, acc ++ [u], rfl, Lib.hid (by have := HK.out; have := HLT.out; omega), HG2, Lib.hid (by rw [List.map_append]; exact O3.out), B3⟩
theorem split_any {w : World} {A : Option Addr} {c : Nat} {bs : List Int} (hS : Src w A c bs) (hl : bs.length ≤ 1048576) :
    Calls Try.prog 31 #[.slice A bs.length c] w fun e w' => ∃ v, e = .returned (.tuple #[v, .int .i64 (((splU bs).2 : Nat) : Int)]) ∧ kSU.R 38 w' w.heap.size (fun _ => True) v ((splU bs).1.map toSU) ∧ Below w.heap.size w w' :=
  split_big hS (by omega)
theorem read_at_end : rdT [] = none := rfl
theorem bytes_src (W : World) (s : ByteArray) (hs : s.size < 1152921504606846976) : Src (Lib.bytesWorld W 5 s) (some ⟨W.heap.size, 0, none⟩) (grownCap W s.size 0 5) (bytesOf s) := by
  have h1 : kB.C (Lib.bytesWorld W 5 s) (some ⟨W.heap.size, 0, none⟩) s.size (bytesOf s) := Kd.C_of_reads (enc := Value.int .u8) (d := (0 : Int)) (h1 := fun _ => rfl) (bytes_reads W 5 s (by omega))
  rw [← bytesOf_length] at h1
  exact ⟨h1, by rw [bytesOf_length]; exact grownCap_ge _ _ _ _, bytesOf_isB s, by rw [bytesOf_length]; exact hs⟩
theorem rdecode_str (W : World) (s : ByteArray) (hs : s.size < 1152921504606846976) : Calls Try.prog 30 #[.slice (some ⟨W.heap.size, 0, none⟩) s.size (grownCap W s.size 0 5)] (Lib.bytesWorld W 5 s) fun e w' => e = .returned (.tuple #[updV (outU (bytesOf s)).1, .int .i64 (outU (bytesOf s)).2]) ∧ Below W.heap.size W w' := by
  have h1 := rdecode_any (bytes_src W s hs)
  rw [bytesOf_length] at h1
  have hb := bytes_below (Below.refl W.heap.size W) (Nat.le_refl _) 5 s
  exact h1.mono fun e w' ⟨he, hb2⟩ => ⟨he.val, below_then hb hb.size hb2⟩

set_option maxHeartbeats 12800000 in
set_option maxRecDepth 100000 in
theorem rsplit_any {w : World} {A : Option Addr} {c : Nat} {bs : List Int} (hS : Src w A c bs) (hl : bs.length ≤ 1048576) :
    Calls Try.prog 32 #[.slice A bs.length c] w fun e w' => ∃ v, e = .returned (.tuple #[v, .int .i64 (((splU bs).2 : Nat) : Int)]) ∧ kRU.R 46 w' w.heap.size (fun _ => True) v ((((splU bs).1).map toSU).map toR) ∧ Below w.heap.size w w' := by
  have SR := Lib.hid hS
  have HL := Lib.hid hl
  clear hS hl
  go_enter Try.func32, Try.ntmps32
  go_wp2_with fail
  go_loopg [4, 5] (bs.length + 1) (fun kq v4 v5 w' => ∃ (p : Nat) (acc : List UpdT), v5 = .int .i64 (p : Int) ∧ Hid (bs.length + 1 ≤ p + kq) ∧ Hid (SplGo bs p acc) ∧ Hid (kRU.R 46 w' w.heap.size (fun _ => True) v4 (((acc).map toSU).map toR)) ∧ Hid (Below w.heap.size w w'))
  case atStart => exact ⟨0, [], rfl, (show _ ≤ _ by omega), SplGo.start bs, Kd.R_nil _ _ _ _ _, Below.refl _ _⟩
  case round =>
    obtain ⟨p, acc, rfl, HK, HG, HO, HB⟩ := hrel
    obtain ⟨k1, rfl⟩ : ∃ k, gk = k + 1 := ⟨gk - 1, by have := HK.out; have := HG.out.le; omega⟩
    obtain ⟨r, hr⟩ : ∃ r, bs.drop p = r := ⟨_, rfl⟩
    obtain ⟨Ap, SP, hcut⟩ := SR.out.place HG.out.le hr
    have SS := Lib.hid (SP.below HB.out)
    have HR := Lib.hid hr
    clear SP hr
    cases hd : rdT r with
    | none =>
      have FIN := Lib.hid (HG.out.none_ (by rw [HR.out]; exact hd))
      have HC := Lib.hid (SS.out.taken_none hd)
      clear hd
      go_wp2_with fail
      refine HC.out.mono ?_
      rintro e w1 ⟨rfl, hb1⟩
      have B1 := Lib.hid (below_then HB.out HB.out.size hb1)
      have O1 := Lib.hid (Kd.R_below HO.out hb1)
      clear hb1 HC
      go_wp2_with fail
      go_ret2
      rw [FIN.out]
      exact ⟨_, rfl, O1.out, B1.out⟩
    | some x =>
      obtain ⟨s, q⟩ := x
      have hdp : rdT (bs.drop p) = some (s, q) := by rw [HR.out]; exact hd
      have hsz : s.size < 1152921504606846976 := Nat.lt_of_le_of_lt (rdT_size hd SS.out.B) SS.out.l
      obtain ⟨k, hk0, hkl, hkq, hcall⟩ := SS.out.taken_some hd
      obtain ⟨hp2a, hp2b⟩ := place_next HG.out.le HR.out hkl hkq
      obtain ⟨p2, hp2⟩ : ∃ p2, p2 = p + k := ⟨_, rfl⟩
      rw [← hp2] at hp2a hp2b
      have hll := HL.out
      have i1 : p2 < 9223372036854775808 := by omega
      have w5 := wadd hp2 i1
      have k0 : ((k : Int) == 0) = false := by simp; omega
      have kb := fun W => print_bytes (P := Try.prog) 9 tBs 5 Try.underlying9 Try.underlying49 Try.underlying5 s W
      have HC := Lib.hid hcall
      have HSZ := Lib.hid hsz
      have HP2 := Lib.hid hp2a
      have HD2 := Lib.hid hp2b
      have HDP := Lib.hid hdp
      clear hd hk0 hkl hkq hcall hp2a hp2b hp2 hll i1 hsz hdp
      go_wp2_with fail
      refine HC.out.mono ?_
      rintro e w1 ⟨rfl, hb1⟩
      have B1 := Lib.hid (below_then HB.out HB.out.size hb1)
      have O1 := Lib.hid (Kd.R_below HO.out hb1)
      clear hb1 HC HB HO SS
      go_wp2_with fail
      refine (rdecode_str w1 s HSZ.out).mono ?_
      rintro e w2 ⟨rfl, hb2⟩
      clear kb
      cases hu : decU (bytesOf s) with
      | none =>
        rw [out_none hu]
        simp only [updV, zeroU]
        have FIN := Lib.hid (HG.out.bad HDP.out hu)
        have bb := below_then hb2 hb2.size (below_alloc (Below.refl w2.heap.size w2) (.cells #[.int .i64 0, .int .i64 0, .int .i64 0, .int .i64 0, .string ⟨#[]⟩, .string ⟨#[]⟩, .int .i64 0] tRU))
        have B2 := Lib.hid (below_then B1.out B1.out.size bb)
        have O2 := Lib.hid (Kd.R_below O1.out bb)
        clear hb2 bb B1 O1 hu
        go_wp2_with fail
        go_ret2
        rw [FIN.out]
        exact ⟨_, rfl, O2.out, B2.out⟩
      | some u =>
        rw [out_some hu]
        simp only [updV]
        have GO := HG.out.step HDP.out hu HP2.out HD2.out
        have HG2 := Lib.hid GO.1
        have HLT := Lib.hid GO.2
        have bb := below_then hb2 hb2.size (below_alloc (Below.refl w2.heap.size w2) (.cells #[.int .i64 u.1, .int .i64 u.2.1, .int .i64 u.2.2.1, .int .i64 u.2.2.2.1, .string u.2.2.2.2.1, .string u.2.2.2.2.2.1, .int .i64 u.2.2.2.2.2.2] tRU))
        have P2 := Lib.hid (blk_new w2 (.cells #[.int .i64 u.1, .int .i64 u.2.1, .int .i64 u.2.2.1, .int .i64 u.2.2.2.1, .string u.2.2.2.2.1, .string u.2.2.2.2.2.1, .int .i64 u.2.2.2.2.2.2] tRU))
        have B2 := Lib.hid (below_then B1.out B1.out.size bb)
        have O2 := Lib.hid (Kd.R_below O1.out bb)
        clear hb2 bb B1 O1 hu GO
        go_upto_region 7 with (fail)
        generalize w2.heap.size = b9 at *
        generalize (World.alloc w2 _) = W2 at *
        have cu := blkc P2.out
        go_wp2_with ((with_reducible refine gate_builtin (b := .append) (xs := #[.tmp 31, .tmp 33]) rfl ?_); at_builtin; refine Kd.R_append_rows kRU (Rr := kRU.K (W2.alloc _)) (w0 := w) w.heap.size rfl (.tmp 31) (.tmp 33) 57 46 _ 72 rfl Try.underlying57 infoRU rfl (by decide) (by decide) u4 ((acc.map toSU).map toR) [toR (toSU u)] (some ⟨W2.heap.size, 0, none⟩) 1 1 (fun _ => True) (fun _ => False) rfl rfl (Kd.R_alloc O2.out _) (kRU_lit W2 [toR (toSU u)] (show 1 ≤ 1000 by decide) _ rfl) (fun x cs h => KR_M _ x cs h) (fun _ hk => hk.elim) (fun _ _ => trivial) (below_alloc B2.out _) (below_size (below_alloc B2.out _)) (by have h1 := HG.out.n; have h2 := HG.out.le; have h3 := HL.out; rw [List.length_map, List.length_map]; omega) ?_; intro v3 w3 ho3 hb3 hg3 hat3; (have O3 := Lib.hid ho3); (have B3 := Lib.hid hb3); clear ho3 hb3 hg3 hat3)
        go_roundg k1
        case measure => exact Nat.lt_succ_self _
        case rel => exact ⟨p2, acc ++ [u], by rw [w5], Lib.hid (by have := HK.out; have := HLT.out; omega), HG2, Lib.hid (by rw [List.map_append, List.map_append]; exact O3.out), B3⟩
end Go.Proofs.Ytiboiociaedocaa.Leb
