/- Flip: a bit is turned. -/
import Derived.Test.YtpjbgcpieijeaaaNetMut
set_option linter.unusedVariables false
set_option linter.unusedSimpArgs false
namespace Go.Proofs.Ytpjbgcpieijeaaa.Net
open Go.RowKit Go.Proofs.Ytpjbgcpieijeaaa.Mem Go.Proofs.YtpjbgcpieijeaaaW.PrintWords Go.Proofs.YtpjbgcpieijeaaaW.PrintLast Go.Proofs.Ytpjbgcpieijeaaa.Byt Go.Proofs.Ytpjbgcpieijeaaa.Opn Go.Deep
/-- A byte with a bit turned. -/
def turnB (x : Int) (k : Nat) : Int := ((x.toNat ^^^ (2 ^ (k % 8)) : Nat) : Int)
/-- Is there such a bit? -/
def bitB (n : Nat) (k : Int) : Bool := decide (0 ≤ k) && decide (Int.tdiv k 8 < n)
theorem shl_u8 (r : Nat) (hr : r < 8) (u : World) : (Op.shift .shl .u8 1 .i64 (r : Int)).run Try.prog u = .ok (.int .u8 ((2 ^ r : Nat) : Int)) u := by
  rcases r with _ | _ | _ | _ | _ | _ | _ | _ | r
  all_goals first | rfl | (exfalso; omega)
section
variable {w w0 : World} {base g m : Nat} {O : Nat → Prop} {nd cl : Int} {v : Value} {fls : List Fl} {sent : List LtT}
set_option maxHeartbeats 3200000 in
set_option maxRecDepth 100000 in
theorem flip_not (h : NetR w base O g m nd cl v fls sent) {i : Int} (hi : atB fls.length i = false) (k : Int) : Calls Try.prog 14 #[.pointer (some ⟨g, 0, none⟩), .int .i64 i, .int .i64 k] w fun e w' => e = .returned (.int .i64 241) ∧ Below w.heap.size w w' := by
  have BS := Lib.hid (below_alloc (Below.refl w.heap.size w) (.cells #[.int .i64 i] tI))
  have PI := Lib.hid (blk_new w (.cells #[.int .i64 i] tI))
  have HN := Lib.hid (h.below BS.out)
  have HE := Lib.hid (atE_no hi)
  clear h hi
  go_enter Try.func14, Try.ntmps14
  go_wp2_with fail
  refine (at1_any HN.out PI.out).mono ?_
  rintro e w1 ⟨rfl, rfl⟩
  rw [HE.out]
  go_wp2_with fail
  go_ret
  exact ⟨rfl, BS.out⟩
set_option maxHeartbeats 3200000 in
set_option maxRecDepth 100000 in
theorem flip_bit (h : NetR w base O g m nd cl v fls sent) {i : Nat} {f : Fl} (hi : fls[i]? = some f) {k : Int} (hk : bitB f.nb.length k = false) (hkr : k ≤ 9223372036854775807) : Calls Try.prog 14 #[.pointer (some ⟨g, 0, none⟩), .int .i64 (i : Int), .int .i64 k] w fun e w' => e = .returned (.int .i64 242) ∧ Below w.heap.size w w' := by
  have hil : i < fls.length := (List.getElem?_eq_some_iff.1 hi).1
  have BS := Lib.hid (below_alloc (Below.refl w.heap.size w) (.cells #[.int .i64 (i : Int)] tI))
  have PI := Lib.hid (blk_new w (.cells #[.int .i64 (i : Int)] tI))
  have HN := Lib.hid (h.below BS.out)
  have HE := Lib.hid (atE_yes (n := fls.length) (i := (i : Int)) (by simp [atB]; omega))
  have HI := Lib.hid hi
  clear h hi
  have HK := Lib.hid hk
  clear hk
  go_enter Try.func14, Try.ntmps14
  go_wp2_with fail
  generalize (World.alloc w _) = W at *
  refine (at1_any HN.out PI.out).mono ?_
  rintro e w1 ⟨rfl, rfl⟩
  rw [HE.out]
  obtain ⟨ad, c, rfl, hc, hob, y0, y1, y2, y3⟩ := HN.out.way.at HI.out
  have FR := HN.out.fl f (List.mem_of_getElem? HI.out)
  obtain ⟨A2, c2, hv2, hl2, hC2⟩ := FR.n.reads
  rw [hv2] at y3
  have HLB := Lib.hid FR.lb
  have cn := blkc HN.out.net
  have p0 := eq_true (show 0 ≤ (i : Int) by omega)
  have p1 := eq_true hil
  clear hc hob hv2 hl2 hC2 FR HE PI hil
  generalize f.src = fs at *
  generalize f.dst = fd at *
  generalize f.nb = nb at *
  by_cases h0 : k < 0
  · have d0 : decide (k < 0) = true := by simpa using h0
    clear h0 HK
    go_wp2_with fail
    go_ret
    exact ⟨rfl, BS.out⟩
  · obtain ⟨kn, rfl⟩ : ∃ n : Nat, k = (n : Int) := ⟨k.toNat, by omega⟩
    have d0 : decide ((kn : Int) < 0) = false := by simp
    have h1 : nb.length ≤ kn / 8 := by
      have h2 := HK.out
      have h3 : Int.tdiv (kn : Int) 8 = ((kn / 8 : Nat) : Int) := rfl
      simp [bitB, h3] at h2
      omega
    have hq : wrap64 ((kn : Int) / 8) = ((kn / 8 : Nat) : Int) := by
      unfold wrap64
      omega
    generalize kn / 8 = q at *
    have d1 : decide (nb.length ≤ q) = true := by simpa using h1
    have d2 : decide ((nb.length : Int) ≤ (q : Int)) = true := by simp; omega
    clear h0 h1 HK hkr
    go_wp2_with fail
    go_ret
    exact ⟨rfl, BS.out⟩
set_option maxHeartbeats 3200000 in
set_option maxRecDepth 100000 in
theorem flip_net (h : NetR w base O g m nd cl v fls sent) {i : Nat} {f : Fl} (hi : fls[i]? = some f) {k : Int} (hk0 : 0 ≤ k) (hkr : k ≤ 9223372036854775807) {x : Int} (hx : f.nb[k.toNat / 8]? = some x) (HB : Below w0.heap.size w0 w) (hbs : base = w0.heap.size) : Calls Try.prog 14 #[.pointer (some ⟨g, 0, none⟩), .int .i64 (i : Int), .int .i64 k] w fun e w' => e = .returned (.int .i64 0) ∧ NetR w' base O g m nd cl v (fls.set i ⟨f.src, f.dst, f.sv, f.nv, f.sb, f.nb.set (k.toNat / 8) (turnB x k.toNat)⟩) sent ∧ Kept w w' O ∧ Below w0.heap.size w0 w' := by
  have hil : i < fls.length := (List.getElem?_eq_some_iff.1 hi).1
  have BS := Lib.hid (below_alloc (Below.refl w.heap.size w) (.cells #[.int .i64 (i : Int)] tI))
  have PI := Lib.hid (blk_new w (.cells #[.int .i64 (i : Int)] tI))
  have HN := Lib.hid (h.below BS.out)
  have HE := Lib.hid (atE_yes (n := fls.length) (i := (i : Int)) (by simp [atB]; omega))
  have HI := Lib.hid hi
  clear h hi
  obtain ⟨kn, rfl⟩ : ∃ n : Nat, k = (n : Int) := ⟨k.toNat, by omega⟩
  simp only [Int.toNat_natCast] at hx ⊢
  have HX := Lib.hid hx
  have HBW := Lib.hid HB
  have HBB := Lib.hid hbs
  clear hx hk0 HB hbs
  go_enter Try.func14, Try.ntmps14
  go_wp2_with fail
  generalize (World.alloc w _) = W at *
  refine (at1_any HN.out PI.out).mono ?_
  rintro e w1 ⟨rfl, rfl⟩
  rw [HE.out]
  obtain ⟨ad, c, rfl, hc, hob, y0, y1, y2, y3⟩ := HN.out.way.at HI.out
  have FR := HN.out.fl f (List.mem_of_getElem? HI.out)
  obtain ⟨ad2, c2, hv2, z1, z2, hO2, hset⟩ := HN.out.setNow HI.out HX.out
  rw [hv2] at y3
  have HSET := Lib.hid (And.intro hO2 hset)
  have hjl : kn / 8 < f.nb.length := (List.getElem?_eq_some_iff.1 HX.out).1
  clear hO2 hset
  have HLB := Lib.hid FR.lb
  have cn := blkc HN.out.net
  have p0 := eq_true (show 0 ≤ (i : Int) by omega)
  have p1 := eq_true hil
  clear hc hob hv2 FR HE PI hil
  skip
  skip
  have hxr := (HN.out.fl f (List.mem_of_getElem? HI.out)).rn x (List.mem_of_getElem? HX.out)
  obtain ⟨xn, rfl⟩ : ∃ n : Nat, x = (n : Int) := ⟨x.toNat, by omega⟩
  have hxl : xn < 256 := by omega
  have hbt : turnB (xn : Int) kn = ((xn ^^^ 2 ^ (kn % 8) : Nat) : Int) := rfl
  have hr8 : kn % 8 < 8 := Nat.mod_lt _ (by decide)
  have hpw : 2 ^ (kn % 8) < 256 := Nat.pow_lt_pow_right (a := 2) (n := 8) (by decide) hr8
  have hxy := Nat.xor_lt_two_pow (n := 8) hxl hpw
  have hxor := u8_xor hxl hpw
  have HS := Lib.hid (HSET.out.2 (turnB (xn : Int) kn) (by rw [hbt]; omega))
  have HO := Lib.hid HSET.out.1
  rw [hbt] at HS
  have hq : (kn : Int) / 8 = ((kn / 8 : Nat) : Int) := by omega
  have hr : (kn : Int) % 8 = ((kn % 8 : Nat) : Int) := by omega
  have ht : Int.tmod (kn : Int) 8 = ((kn % 8 : Nat) : Int) := rfl
  have hsh := fun u => shl_u8 (kn % 8) hr8 u
  have hxv : bits .xor .u8 (xn : Int) (IntKind.u8.wrap (2 ^ (kn % 8))) = ((xn ^^^ 2 ^ (kn % 8) : Nat) : Int) := by
    have e : ((2 : Int) ^ (kn % 8)) = ((2 ^ (kn % 8) : Nat) : Int) := by simp
    rw [e, wraps_u8 _ (Int.natCast_nonneg _) (by exact_mod_cast hpw)]
    exact hxor
  have HXV := Lib.hid hxv
  clear hxv
  have hqw : wrap64 ((kn / 8 : Nat) : Int) = ((kn / 8 : Nat) : Int) := by unfold wrap64; omega
  have hrw : wrap64 ((kn % 8 : Nat) : Int) = ((kn % 8 : Nat) : Int) := by unfold wrap64; omega
  have hnb : f.nb.length ≤ 140737488351232 := HLB.out
  have HBT := Lib.hid hbt
  clear hbt hxr HSET hkr
  generalize hg1 : kn / 8 = q at *
  generalize kn % 8 = rr at *
  generalize hg3 : xn ^^^ 2 ^ rr = yy at *
  have HG1 := Lib.hid hg1
  have HR8 := Lib.hid hr8
  clear hg1 hg3 hr8
  have d0 : decide ((kn : Int) < 0) = false := by simp
  have d1 : decide (f.nb.length ≤ q) = false := by simpa using hjl
  have d2 : decide ((f.nb.length : Int) ≤ (q : Int)) = false := by simp; omega
  have q0 := eq_true (show 0 ≤ (q : Int) by omega)
  have q1 := eq_true hjl
  go_upto_region 7 with (fail)
  replace z1 : W.drew.cell? (ad2.add q) = some (.int .u8 xn) := z1
  replace z2 : W.drew.frozen? (ad2.add q) = false := z2
  refine start_ (n := 11) (S := fun w' => w'.cell? (ad2.add q) = some (.int .u8 xn)) (ds := [10]) #[false, false, false, false, false, false, false, false, false, false, false] (by kernel_rfl) rfl rfl (z1) (fun hHeld => ?_)
  refine pure_ (i := 0) (N := some 33) (v := ?_) (a' := ?_) #[true, false, false, false, false, false, false, false, false, false, false] rfl rfl (by kernel_rfl) (fun _ _ _ h => h) (Or.inl ⟨by rfl, ?_⟩) ?_ ?_
  rotate_left
  · intro w'
    go_simp
    with_reducible rfl
  rotate_left
  · simp only [Act.put, List.setIfInBounds_toArray, List.set_cons_zero, List.set_cons_succ, i64_w, i32_w]
    rfl
  refine pure_ (i := 1) (N := some 34) (v := ?_) (a' := ?_) #[true, true, false, false, false, false, false, false, false, false, false] rfl rfl (by kernel_rfl) (fun _ _ _ h => h) (Or.inl ⟨by rfl, ?_⟩) ?_ ?_
  rotate_left
  · intro w'
    go_simp
    with_reducible rfl
  rotate_left
  · simp only [Act.put, List.setIfInBounds_toArray, List.set_cons_zero, List.set_cons_succ, i64_w, i32_w]
    rfl
  refine pure_ (i := 2) (N := some 35) (v := ?_) (a' := ?_) #[true, true, true, false, false, false, false, false, false, false, false] rfl rfl (by kernel_rfl) (fun _ _ _ h => h) (Or.inl ⟨by rfl, ?_⟩) ?_ ?_
  rotate_left
  · intro w'
    go_simp
    with_reducible rfl
  rotate_left
  · simp only [Act.put, List.setIfInBounds_toArray, List.set_cons_zero, List.set_cons_succ, i64_w, i32_w]
    rfl
  refine pure_ (i := 3) (N := some 36) (v := ?_) (a' := ?_) #[true, true, true, true, false, false, false, false, false, false, false] rfl rfl (by kernel_rfl) (fun _ _ _ h => h) (Or.inl ⟨by rfl, ?_⟩) ?_ ?_
  rotate_left
  · intro w'
    go_simp
    with_reducible rfl
  rotate_left
  · simp only [Act.put, List.setIfInBounds_toArray, List.set_cons_zero, List.set_cons_succ, i64_w, i32_w]
    rfl
  refine pure_ (i := 5) (N := some 38) (v := ?_) (a' := ?_) #[true, true, true, true, false, true, false, false, false, false, false] rfl rfl (by kernel_rfl) (fun _ _ _ h => h) (Or.inl ⟨by rfl, ?_⟩) ?_ ?_
  rotate_left
  · intro w'
    go_simp
    with_reducible rfl
  rotate_left
  · simp only [Act.put, List.setIfInBounds_toArray, List.set_cons_zero, List.set_cons_succ, i64_w, i32_w]
    rfl
  refine pure_ (i := 6) (N := some 39) (v := ?_) (a' := ?_) #[true, true, true, true, false, true, true, false, false, false, false] rfl rfl (by kernel_rfl) (fun _ _ _ h => h) (Or.inl ⟨by rfl, ?_⟩) ?_ ?_
  rotate_left
  · intro w'
    go_simp
    with_reducible rfl
  rotate_left
  · simp only [Act.put, List.setIfInBounds_toArray, List.set_cons_zero, List.set_cons_succ, i64_w, i32_w]
    rfl
  refine pure_ (i := 7) (N := some 40) (v := ?_) (a' := ?_) #[true, true, true, true, false, true, true, true, false, false, false] rfl rfl (by kernel_rfl) (fun _ _ _ h => h) (Or.inl ⟨by rfl, ?_⟩) ?_ ?_
  rotate_left
  · intro w'
    go_simp
    with_reducible rfl
  rotate_left
  · simp only [Act.put, List.setIfInBounds_toArray, List.set_cons_zero, List.set_cons_succ, i64_w, i32_w]
    rfl
  refine take_ (i := 4) (N := some 37) (v := ?_) (a' := ?_) #[true, true, true, true, true, true, true, true, false, false, false] rfl rfl (by kernel_rfl) (fun _ _ _ h => h) (Or.inl ⟨by rfl, ?_⟩) hHeld ?_ ?_
  rotate_left
  · intro w' s0
    go_simp
    with_reducible rfl
  rotate_left
  · simp only [Act.put, List.setIfInBounds_toArray, List.set_cons_zero, List.set_cons_succ, i64_w, i32_w]
    rfl
  refine pure_ (i := 8) (N := some 41) (v := ?_) (a' := ?_) #[true, true, true, true, true, true, true, true, true, false, false] rfl rfl (by kernel_rfl) (fun _ _ _ h => h) (Or.inl ⟨by rfl, ?_⟩) ?_ ?_
  rotate_left
  · intro w'
    go_simp
    with_reducible rfl
  rotate_left
  · simp only [Act.put, List.setIfInBounds_toArray, List.set_cons_zero, List.set_cons_succ, i64_w, i32_w]
    rfl
  refine pure_ (i := 9) (N := some 42) (v := ?_) (a' := ?_) #[true, true, true, true, true, true, true, true, true, true, false] rfl rfl (by kernel_rfl) (fun _ _ _ h => h) (Or.inl ⟨by rfl, ?_⟩) ?_ ?_
  rotate_left
  · intro w'
    go_simp
    with_reducible rfl
  rotate_left
  · simp only [Act.put, List.setIfInBounds_toArray, List.set_cons_zero, List.set_cons_succ, i64_w, i32_w]
    rfl
  refine last_ (i := 10) (N := none) #[true, true, true, true, true, true, true, true, true, true, true] rfl rfl (by kernel_rfl) (by decide) (fun K hK => ?_)
  refine skip_ (w1 := ?_) (by rfl) rfl ?_ ?_
  rotate_left
  · go_simp
    rfl
  refine hK.out _ _ ?_
  clear hK K
  refine done_ (by kernel_rfl) ?_
  go_wp2_with fail
  go_ret
  refine ⟨rfl, ?_, ((Kept.of_below BS.out O).drew).setCell (p := ad2.add q) (.inl HO.out) _, Below.setCell (p := ad2.add q) (below_then HBW.out HBW.out.size BS.out).drew (by rw [← HBB.out]; exact HN.out.ob _ HO.out) _⟩
  rw [HG1.out, HBT.out, HXV.out]
  exact HS.out.move (fun k _ _ => rfl)
end
end Go.Proofs.Ytpjbgcpieijeaaa.Net
