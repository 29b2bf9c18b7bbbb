/- DeltaCanon, walked: what Decode takes Encode writes again, what Split takes is the Stream of it (of bulk at most 1048576). -/
import Derived.Test.YtiboiociaedocaaSplit
set_option linter.unusedVariables false
set_option linter.unusedSimpArgs false
namespace Go.Proofs.Ytiboiociaedocaa.Leb
open Go.RowKit Go.Proofs.Ytiboiociaedocaa.CutPlain Go.Proofs.Ytiboiociaedocaa.PDeltaStreams Go.Proofs.YtiboiociaedocaaW.PrintWords Go.Proofs.YtiboiociaedocaaW.PrintLast Go.Proofs.Ytiboiociaedocaa.CutDec Go.Proofs.Ytiboiociaedocaa.Mem Go.Proofs.Ytiboiociaedocaa.Byt Go.Proofs.Ytiboiociaedocaa.Chk Go.Proofs.Ytiboiociaedocaa.Opn Go.Proofs.Ytiboiociaedocaa.Str
theorem spl_str (bs : List Int) (hB : IsB bs) : strE (splU bs).1 = 0 ∧ Str.strB (splU bs).1 = bs.take (splU bs).2 ∧ ∀ u ∈ (splU bs).1, checkUpd u = 0 := by
  induction h : bs.length using Nat.strongRecOn generalizing bs with
  | ind m ih =>
    cases hd : rdT bs with
    | none =>
      rw [splU_none hd]
      exact ⟨rfl, rfl, fun u hu => absurd hu (by simp)⟩
    | some x =>
      obtain ⟨s, q⟩ := x
      obtain ⟨he, hq⟩ := rdT_some hB hd
      cases hu : decU (bytesOf s) with
      | none =>
        rw [splU_bad hd hu]
        exact ⟨rfl, rfl, fun u hu => absurd hu (by simp)⟩
      | some u =>
        have h1 := rdT_lt hd
        obtain ⟨i1, i2, i3⟩ := ih q.length (by omega) q hq rfl
        obtain ⟨c1, c2⟩ := enc_decU (bytesOf_isB s) hu
        have hl : bs.length - q.length = (Leb.strB s).length := by
          have := congrArg List.length he
          rw [List.length_append] at this
          omega
        rw [splU_some hd hu]
        refine ⟨by rw [strE, if_pos c1]; exact i1, ?_, fun v hv => ?_⟩
        · simp only
          rw [Str.strB, i2, c2, bytesOf_length, hl, ← List.append_assoc]
          show Leb.strB s ++ _ = _
          rw [he, List.take_length_add_append]
        · rcases List.mem_cons.1 hv with rfl | hv
          · exact c1
          · exact i3 v hv
theorem map_toSU (l : List UpdT) : (l.map toSU).map updOf = l := by
  rw [List.map_map]
  exact (List.map_congr_left (fun x _ => rfl)).trans (List.map_id l)
theorem fourth_check : checkUpd (1, 1, 1, 1, ⟨#[97]⟩, ⟨#[120]⟩, 0) = 0 := by decide +kernel
theorem fourth_enc : encU (1, 1, 1, 1, ⟨#[97]⟩, ⟨#[120]⟩, 0) = [1, 1, 1, 1, 1, 97, 1, 120] := by
  simp [encU, lebs, Leb.strB, lebL_small, bytesOf]
  show lebL 1 ++ 97 :: (lebL 1 ++ [120]) = [1, 97, 1, 120]
  rw [lebL_small (by decide)]
  rfl
theorem decode_lit4 {w : World} {A : Option Addr} {c : Nat} (hC : kB.C w A 8 [1, 1, 1, 1, 1, 97, 1, 120]) (hc : 8 ≤ c) :
    Calls Try.prog 29 #[.slice A 8 c] w fun e w' => e = .returned (.tuple #[.agg #[.int .i64 1, .int .i64 1, .int .i64 1, .int .i64 1, .string ⟨#[97]⟩, .string ⟨#[120]⟩, .int .i64 0], .int .i64 0]) ∧ Below w.heap.size w w' :=
  (decode_any (bs := [1, 1, 1, 1, 1, 97, 1, 120]) hC hc (by intro x hx; simp at hx; omega) (by decide)).mono fun e w' ⟨he, hb⟩ => ⟨by have h2 := he.val; rwa [outU, ← fourth_enc, decU_enc fourth_check] at h2, hb⟩
set_option maxHeartbeats 25600000 in
set_option maxRecDepth 100000 in
theorem canon_any {w : World} {A : Option Addr} {c : Nat} {bs : List Int} (hS : Src w A c bs) (hl : bs.length ≤ 1048576) :
    Calls Try.prog 11 #[.slice A bs.length c] w fun e w' => e = .returned (.bool true) ∧ Below w.heap.size w w' := by
  have SR := Lib.hid hS
  have HL := Lib.hid hl
  obtain ⟨s1, s2, s3⟩ := spl_str bs hS.B
  have hle := splU_le bs
  have hkey : ∀ x ∈ (splU bs).1.map toSU, x.f3.f1.size ≤ 9223372036854775807 := fun x hx => by
    obtain ⟨u, hu, rfl⟩ := List.mem_map.1 hx
    have h1 := isUser_bounds (checkUpd_bounds (s3 u hu)).2.2.2.2.2.2.2.2.1
    have h2 : (toSU u).f3.f1.size = u.2.2.2.2.1.size := rfl
    omega
  have hE : strE (((splU bs).1.map toSU).map updOf) = 0 := by rw [map_toSU]; exact s1
  have hO : strOut (((splU bs).1.map toSU).map updOf) = bs.take (splU bs).2 := by rw [map_toSU, strOut, if_pos s1]; exact s2
  have hlen : ((splU bs).1.map toSU).length ≤ 1048576 := by rw [List.length_map]; omega
  obtain ⟨L, hL⟩ : ∃ L, (splU bs).1.map toSU = L := ⟨_, rfl⟩
  obtain ⟨N, hN⟩ : ∃ N, (splU bs).2 = N := ⟨_, rfl⟩
  rw [hL] at hkey hE hO hlen
  rw [hN] at hO hle
  have HKEY := Lib.hid hkey
  have HE := Lib.hid hE
  have HO := Lib.hid hO
  have HLL := Lib.hid hlen
  have HNL := Lib.hid hle.1
  have HLN := Lib.hid (And.intro hL hN)
  clear hS hl s1 s2 s3 hkey hE hO hlen hL hN hle
  go_enter Try.func11, Try.ntmps11
  go_wp2_with fail
  refine (decode_any SR.out.C SR.out.c SR.out.B SR.out.l).mono ?_
  rintro e w1 ⟨he1, hb1⟩
  rw [he1.val]
  cases hu : decU bs with
  | none =>
    rw [out_none hu]
    simp only [updV, zeroU]
    have B2 := Lib.hid (below_then hb1 hb1.size (below_alloc (Below.refl w1.heap.size w1) (.cells #[.int .i64 0, .int .i64 0, .int .i64 0, .int .i64 0, .string ⟨#[]⟩, .string ⟨#[]⟩, .int .i64 0] tU)))
    clear he1 hb1 hu
    go_upto_region 6 with (fail)
    generalize w1.heap.size = b3 at *
    generalize (World.alloc w1 _) = W2 at *
    go_wp2_with fail
    refine (split_any (SR.out.below B2.out) HL.out).mono ?_
    rintro e w4 ⟨v4, rfl, hr4, hb4⟩
    obtain ⟨A4, c4, rfl, hc4, hC4⟩ := Kd.R_reads hr4
    rw [HLN.out.1] at hC4 hc4 ⊢
    rw [HLN.out.2]
    have C4 := Lib.hid hC4
    have HC4 := Lib.hid hc4
    have B4 := Lib.hid (below_then B2.out B2.out.size hb4)
    have d0 : decide ((N : Int) < 0) = false := by simp
    have d1 : decide (bs.length < N) = false := by have := HNL.out; simp; omega
    have d2 : decide ((bs.length : Int) < (N : Int)) = false := by have := HNL.out; simp; omega
    clear hr4 hb4 hc4 hC4 B2
    go_wp2_with fail
    refine (stream_any L A4 c4 HC4.out HLL.out HKEY.out w4 C4.out).mono ?_
    rw [HE.out, HO.out]
    rintro e w5 ⟨v5, rfl, ho5, hb5⟩
    have O5 := Lib.hid ho5
    have B5 := Lib.hid (below_then B4.out B4.out.size hb5)
    clear ho5 hb5 B4 C4 d0 d1 d2
    have hcv : (convert tBs tBs (.slice (some ⟨w5.heap.size, 0, none⟩) 8 8)).run Try.prog (w5.alloc (.cells #[.int .u8 1, .int .u8 1, .int .u8 1, .int .u8 1, .int .u8 1, .int .u8 97, .int .u8 1, .int .u8 120] 5)) = .ok (.slice (some ⟨w5.heap.size, 0, none⟩) 8 8) (w5.alloc (.cells #[.int .u8 1, .int .u8 1, .int .u8 1, .int .u8 1, .int .u8 1, .int .u8 97, .int .u8 1, .int .u8 120] 5 (8, 9))) := Lib.run_convert_bytes_const w5 tBs 5 #[.int .u8 1, .int .u8 1, .int .u8 1, .int .u8 1, .int .u8 1, .int .u8 97, .int .u8 1, .int .u8 120] 8 8 Try.underlying49 Try.underlying5
    have hC9 := Leb.C_lit w5 [1, 1, 1, 1, 1, 97, 1, 120] (by decide) (8, 9)
    have ba := below_alloc (Below.refl w5.heap.size w5) (.cells #[.int .u8 1, .int .u8 1, .int .u8 1, .int .u8 1, .int .u8 1, .int .u8 97, .int .u8 1, .int .u8 120] 5 (8, 9))
    have HC9 := Lib.hid hC9
    have O5 := Lib.hid (pw_own_below O5.out ba)
    have B5 := Lib.hid (below_then B5.out B5.out.size ba)
    clear hC9 ba
    go_wp2_with fail
    refine (decode_lit4 HC9.out (Nat.le_refl _)).mono ?_
    rintro e w6 ⟨rfl, hb6⟩
    have bb := below_then hb6 hb6.size (below_alloc (Below.refl w6.heap.size w6) (.cells #[.int .i64 1, .int .i64 1, .int .i64 1, .int .i64 1, .string ⟨#[97]⟩, .string ⟨#[120]⟩, .int .i64 0] tU))
    have P6 := Lib.hid (blk_new w6 (.cells #[.int .i64 1, .int .i64 1, .int .i64 1, .int .i64 1, .string ⟨#[97]⟩, .string ⟨#[120]⟩, .int .i64 0] tU))
    have O6 := Lib.hid (pw_own_below O5.out bb)
    have B6 := Lib.hid (below_then B5.out B5.out.size bb)
    clear hb6 bb O5 B5 HC9 hcv
    go_upto_region 11 with (fail)
    generalize w6.heap.size = b11 at *
    generalize (World.alloc w6 _) = W6 at *
    have bd := below_drew (Below.refl W6.heap.size W6)
    have P7 := Lib.hid (blk_below P6.out bd)
    have O7 := Lib.hid (pw_own_below O6.out bd)
    have B7 := Lib.hid (below_then B6.out B6.out.size bd)
    clear bd
    obtain ⟨hT, hcut⟩ := B_to .i64 SR.out.C HNL.out SR.out.c
    have HT := Lib.hid hT
    clear hT
    refine start_ (n := 22) (S := fun w' => (∀ o, w'.cell? ⟨b11, o, none⟩ = #[.int .i64 1, .int .i64 1, .int .i64 1, .int .i64 1, .string ⟨#[97]⟩, .string ⟨#[120]⟩, .int .i64 0][o]?)) (ds := []) #[false, false, false, false, false, false, false, false, false, false, false, false, false, false, false, false, false, false, false, false, false, false] (by kernel_rfl) rfl rfl ((blkc P6.out)) (fun hHeld => ?_)
    refine pure_ (i := 0) (N := some 58) (v := ?_) (a' := ?_) #[true, false, false, false, false, false, false, false, false, false, false, false, false, false, false, false, false, false, false, false, false, false] rfl rfl (by kernel_rfl) (fun _ _ _ h => h) (Or.inl ⟨by rfl, ?_⟩) ?_ ?_
    rotate_left
    · intro w'
      go_simp
      with_reducible rfl
    rotate_left
    · simp only [Act.put, List.setIfInBounds_toArray, List.set_cons_zero, List.set_cons_succ, i64_w, i32_w]
      rfl
    refine pure_ (i := 1) (N := some 59) (v := ?_) (a' := ?_) #[true, true, false, false, false, false, false, false, false, false, false, false, false, false, false, false, false, false, false, false, false, false] rfl rfl (by kernel_rfl) (fun _ _ _ h => h) (Or.inl ⟨by rfl, ?_⟩) ?_ ?_
    rotate_left
    · intro w'
      go_simp
      with_reducible rfl
    rotate_left
    · simp only [Act.put, List.setIfInBounds_toArray, List.set_cons_zero, List.set_cons_succ, i64_w, i32_w]
      rfl
    refine pure_ (i := 2) (N := some 60) (v := ?_) (a' := ?_) #[true, true, true, false, false, false, false, false, false, false, false, false, false, false, false, false, false, false, false, false, false, false] rfl rfl (by kernel_rfl) (fun _ _ _ h => h) (Or.inl ⟨by rfl, ?_⟩) ?_ ?_
    rotate_left
    · intro w'
      go_simp
      with_reducible rfl
    rotate_left
    · simp only [Act.put, List.setIfInBounds_toArray, List.set_cons_zero, List.set_cons_succ, i64_w, i32_w]
      rfl
    refine pure_ (i := 3) (N := some 61) (v := ?_) (a' := ?_) #[true, true, true, true, false, false, false, false, false, false, false, false, false, false, false, false, false, false, false, false, false, false] rfl rfl (by kernel_rfl) (fun _ _ _ h => h) (Or.inl ⟨by rfl, ?_⟩) ?_ ?_
    rotate_left
    · intro w'
      go_simp
      with_reducible rfl
    rotate_left
    · simp only [Act.put, List.setIfInBounds_toArray, List.set_cons_zero, List.set_cons_succ, i64_w, i32_w]
      rfl
    refine pure_ (i := 5) (N := some 63) (v := ?_) (a' := ?_) #[true, true, true, true, false, true, false, false, false, false, false, false, false, false, false, false, false, false, false, false, false, false] rfl rfl (by kernel_rfl) (fun _ _ _ h => h) (Or.inl ⟨by rfl, ?_⟩) ?_ ?_
    rotate_left
    · intro w'
      go_simp
      with_reducible rfl
    rotate_left
    · simp only [Act.put, List.setIfInBounds_toArray, List.set_cons_zero, List.set_cons_succ, i64_w, i32_w]
      rfl
    refine pure_ (i := 6) (N := some 64) (v := ?_) (a' := ?_) #[true, true, true, true, false, true, true, false, false, false, false, false, false, false, false, false, false, false, false, false, false, false] rfl rfl (by kernel_rfl) (fun _ _ _ h => h) (Or.inl ⟨by rfl, ?_⟩) ?_ ?_
    rotate_left
    · intro w'
      go_simp
      with_reducible rfl
    rotate_left
    · simp only [Act.put, List.setIfInBounds_toArray, List.set_cons_zero, List.set_cons_succ, i64_w, i32_w]
      rfl
    refine pure_ (i := 7) (N := some 65) (v := ?_) (a' := ?_) #[true, true, true, true, false, true, true, true, false, false, false, false, false, false, false, false, false, false, false, false, false, false] rfl rfl (by kernel_rfl) (fun _ _ _ h => h) (Or.inl ⟨by rfl, ?_⟩) ?_ ?_
    rotate_left
    · intro w'
      go_simp
      with_reducible rfl
    rotate_left
    · simp only [Act.put, List.setIfInBounds_toArray, List.set_cons_zero, List.set_cons_succ, i64_w, i32_w]
      rfl
    refine join_ (σ := Unit) 13 #[true, true, true, true, true, true, true, true, true, false, false, false, false, false, false, false, false, false, false, false, false, false] (fun _ => [(62, .string (strOfNums (bs.take N))), (65, .slice A N c), (66, .string (strOfNums (bs.take N)))]) (fun _ w' => W6.drew = w') ?_ ?_
    rotate_left
    · intro hCont
      refine two_ (i := 4) (j := 8) (Ni := some 62) (Nj := some 66) #[true, true, true, true, true, true, true, true, false, false, false, false, false, false, false, false, false, false, false, false, false, false] #[true, true, true, true, false, true, true, true, true, false, false, false, false, false, false, false, false, false, false, false, false, false] rfl rfl rfl rfl (by kernel_rfl) (by decide) (by decide) (fun K hK => ?_) (fun K hK => ?_)
      · skip
        have st1 := own_string Try.underlying49 Try.underlying5 Try.underlying9 O7.out
        refine value_ (w1 := ?_) (v := ?_) (by rfl) rfl ?_ ?_
        rotate_left 2
        · go_simp
          constructor
          · rfl
          · rfl
        refine hK.out _ _ ((blkc P7.out)) (fun hHeld => ?_)
        clear hK K
        refine norm_ (a' := ?_) ?_ ?_
        rotate_left
        · show Act.put _ (some 62) _ = _
          simp only [Act.put, List.setIfInBounds_toArray, List.set_cons_zero, List.set_cons_succ, i64_w, i32_w]
          rfl
        refine one_ (i := 8) (N := some 66) #[true, true, true, true, true, true, true, true, true, false, false, false, false, false, false, false, false, false, false, false, false, false] rfl rfl (by kernel_rfl) (by decide) (fun K hK => ?_)
        have st2 := Kd.C_string (src := tBs) (dst := 9) (c := c) Try.underlying49 Try.underlying5 Try.underlying9 (Kd.C_below HT.out B7.out)
        refine value_ (w1 := ?_) (v := ?_) (by rfl) rfl ?_ ?_
        rotate_left 2
        · go_simp
          constructor
          · rfl
          · rfl
        refine hK.out _ _ ((blkc P7.out)) (fun hHeld => ?_)
        clear hK K
        refine norm_ (a' := ?_) ?_ ?_
        rotate_left
        · show Act.put _ (some 66) _ = _
          simp only [Act.put, List.setIfInBounds_toArray, List.set_cons_zero, List.set_cons_succ, i64_w, i32_w]
          rfl
        exact norm_ (by simp only [putAll, Act.put, List.setIfInBounds_toArray, List.set_cons_zero, List.set_cons_succ]) (hCont () _ rfl)
      · skip
        have st2 := Kd.C_string (src := tBs) (dst := 9) (c := c) Try.underlying49 Try.underlying5 Try.underlying9 (Kd.C_below HT.out B7.out)
        refine value_ (w1 := ?_) (v := ?_) (by rfl) rfl ?_ ?_
        rotate_left 2
        · go_simp
          constructor
          · rfl
          · rfl
        refine hK.out _ _ ((blkc P7.out)) (fun hHeld => ?_)
        clear hK K
        refine norm_ (a' := ?_) ?_ ?_
        rotate_left
        · show Act.put _ (some 66) _ = _
          simp only [Act.put, List.setIfInBounds_toArray, List.set_cons_zero, List.set_cons_succ, i64_w, i32_w]
          rfl
        refine one_ (i := 4) (N := some 62) #[true, true, true, true, true, true, true, true, true, false, false, false, false, false, false, false, false, false, false, false, false, false] rfl rfl (by kernel_rfl) (by decide) (fun K hK => ?_)
        have st1 := own_string Try.underlying49 Try.underlying5 Try.underlying9 O7.out
        refine value_ (w1 := ?_) (v := ?_) (by rfl) rfl ?_ ?_
        rotate_left 2
        · go_simp
          constructor
          · rfl
          · rfl
        refine hK.out _ _ ((blkc P7.out)) (fun hHeld => ?_)
        clear hK K
        refine norm_ (a' := ?_) ?_ ?_
        rotate_left
        · show Act.put _ (some 62) _ = _
          simp only [Act.put, List.setIfInBounds_toArray, List.set_cons_zero, List.set_cons_succ, i64_w, i32_w]
          rfl
        exact norm_ (by simp only [putAll, Act.put, List.setIfInBounds_toArray, List.set_cons_zero, List.set_cons_succ]) (hCont () _ rfl)
    rintro _ _ rfl
    refine norm_ (a' := ?_) ?_ ?_
    rotate_left
    · simp only [putAll, Act.put, List.setIfInBounds_toArray, List.set_cons_zero, List.set_cons_succ]
      rfl
    refine pure_ (i := 9) (N := some 67) (v := ?_) (a' := ?_) #[true, true, true, true, true, true, true, true, true, true, false, false, false, false, false, false, false, false, false, false, false, false] rfl rfl (by kernel_rfl) (fun _ _ _ h => h) (Or.inl ⟨by rfl, ?_⟩) ?_ ?_
    rotate_left
    · intro w'
      go_simp
      with_reducible rfl
    rotate_left
    · simp only [Act.put, List.setIfInBounds_toArray, List.set_cons_zero, List.set_cons_succ, i64_w, i32_w]
      rfl
    refine pure_ (i := 10) (N := some 68) (v := ?_) (a' := ?_) #[true, true, true, true, true, true, true, true, true, true, true, false, false, false, false, false, false, false, false, false, false, false] rfl rfl (by kernel_rfl) (fun _ _ _ h => h) (Or.inl ⟨by rfl, ?_⟩) ?_ ?_
    rotate_left
    · intro w'
      go_simp
      with_reducible rfl
    rotate_left
    · simp only [Act.put, List.setIfInBounds_toArray, List.set_cons_zero, List.set_cons_succ, i64_w, i32_w]
      rfl
    refine pure_ (i := 11) (N := some 69) (v := ?_) (a' := ?_) #[true, true, true, true, true, true, true, true, true, true, true, true, false, false, false, false, false, false, false, false, false, false] rfl rfl (by kernel_rfl) (fun _ _ _ h => h) (Or.inl ⟨by rfl, ?_⟩) ?_ ?_
    rotate_left
    · intro w'
      go_simp
      with_reducible rfl
    rotate_left
    · simp only [Act.put, List.setIfInBounds_toArray, List.set_cons_zero, List.set_cons_succ, i64_w, i32_w]
      rfl
    refine pure_ (i := 12) (N := some 70) (v := ?_) (a' := ?_) #[true, true, true, true, true, true, true, true, true, true, true, true, true, false, false, false, false, false, false, false, false, false] rfl rfl (by kernel_rfl) (fun _ _ _ h => h) (Or.inl ⟨by rfl, ?_⟩) ?_ ?_
    rotate_left
    · intro w'
      go_simp
      with_reducible rfl
    rotate_left
    · simp only [Act.put, List.setIfInBounds_toArray, List.set_cons_zero, List.set_cons_succ, i64_w, i32_w]
      rfl
    refine pure_ (i := 13) (N := some 71) (v := ?_) (a' := ?_) #[true, true, true, true, true, true, true, true, true, true, true, true, true, true, false, false, false, false, false, false, false, false] rfl rfl (by kernel_rfl) (fun _ _ _ h => h) (Or.inl ⟨by rfl, ?_⟩) ?_ ?_
    rotate_left
    · intro w'
      go_simp
      with_reducible rfl
    rotate_left
    · simp only [Act.put, List.setIfInBounds_toArray, List.set_cons_zero, List.set_cons_succ, i64_w, i32_w]
      rfl
    refine pure_ (i := 14) (N := some 72) (v := ?_) (a' := ?_) #[true, true, true, true, true, true, true, true, true, true, true, true, true, true, true, false, false, false, false, false, false, false] rfl rfl (by kernel_rfl) (fun _ _ _ h => h) (Or.inl ⟨by rfl, ?_⟩) ?_ ?_
    rotate_left
    · intro w'
      go_simp
      with_reducible rfl
    rotate_left
    · simp only [Act.put, List.setIfInBounds_toArray, List.set_cons_zero, List.set_cons_succ, i64_w, i32_w]
      rfl
    refine pure_ (i := 15) (N := some 73) (v := ?_) (a' := ?_) #[true, true, true, true, true, true, true, true, true, true, true, true, true, true, true, true, false, false, false, false, false, false] rfl rfl (by kernel_rfl) (fun _ _ _ h => h) (Or.inl ⟨by rfl, ?_⟩) ?_ ?_
    rotate_left
    · intro w'
      go_simp
      with_reducible rfl
    rotate_left
    · simp only [Act.put, List.setIfInBounds_toArray, List.set_cons_zero, List.set_cons_succ, i64_w, i32_w]
      rfl
    refine pure_ (i := 16) (N := some 74) (v := ?_) (a' := ?_) #[true, true, true, true, true, true, true, true, true, true, true, true, true, true, true, true, true, false, false, false, false, false] rfl rfl (by kernel_rfl) (fun _ _ _ h => h) (Or.inl ⟨by rfl, ?_⟩) ?_ ?_
    rotate_left
    · intro w'
      go_simp
      with_reducible rfl
    rotate_left
    · simp only [Act.put, List.setIfInBounds_toArray, List.set_cons_zero, List.set_cons_succ, i64_w, i32_w]
      rfl
    refine pure_ (i := 17) (N := some 75) (v := ?_) (a' := ?_) #[true, true, true, true, true, true, true, true, true, true, true, true, true, true, true, true, true, true, false, false, false, false] rfl rfl (by kernel_rfl) (fun _ _ _ h => h) (Or.inl ⟨by rfl, ?_⟩) ?_ ?_
    rotate_left
    · intro w'
      go_simp
      with_reducible rfl
    rotate_left
    · simp only [Act.put, List.setIfInBounds_toArray, List.set_cons_zero, List.set_cons_succ, i64_w, i32_w]
      rfl
    refine take_ (i := 18) (N := some 76) (v := ?_) (a' := ?_) #[true, true, true, true, true, true, true, true, true, true, true, true, true, true, true, true, true, true, true, false, false, false] rfl rfl (by kernel_rfl) (fun _ _ _ h => h) (Or.inl ⟨by rfl, ?_⟩) hHeld ?_ ?_
    rotate_left
    · intro w' s0
      go_simp
      with_reducible rfl
    rotate_left
    · simp only [Act.put, List.setIfInBounds_toArray, List.set_cons_zero, List.set_cons_succ, i64_w, i32_w]
      rfl
    refine pure_ (i := 19) (N := some 77) (v := ?_) (a' := ?_) #[true, true, true, true, true, true, true, true, true, true, true, true, true, true, true, true, true, true, true, true, false, false] rfl rfl (by kernel_rfl) (fun _ _ _ h => h) (Or.inl ⟨by rfl, ?_⟩) ?_ ?_
    rotate_left
    · intro w'
      go_simp
      with_reducible rfl
    rotate_left
    · simp only [Act.put, List.setIfInBounds_toArray, List.set_cons_zero, List.set_cons_succ, i64_w, i32_w]
      rfl
    refine pure_ (i := 20) (N := some 78) (v := ?_) (a' := ?_) #[true, true, true, true, true, true, true, true, true, true, true, true, true, true, true, true, true, true, true, true, true, false] rfl rfl (by kernel_rfl) (fun _ _ _ h => h) (Or.inl ⟨by rfl, ?_⟩) ?_ ?_
    rotate_left
    · intro w'
      go_simp
      with_reducible rfl
    rotate_left
    · simp only [Act.put, List.setIfInBounds_toArray, List.set_cons_zero, List.set_cons_succ, i64_w, i32_w]
      rfl
    refine pure_ (i := 21) (N := some 2) (v := ?_) (a' := ?_) #[true, true, true, true, true, true, true, true, true, true, true, true, true, true, true, true, true, true, true, true, true, true] rfl rfl (by kernel_rfl) (fun _ _ _ h => h) (Or.inl ⟨by rfl, ?_⟩) ?_ ?_
    rotate_left
    · intro w'
      go_simp
      with_reducible rfl
    rotate_left
    · simp only [Act.put, List.setIfInBounds_toArray, List.set_cons_zero, List.set_cons_succ, i64_w, i32_w]
      rfl
    refine done_ (by kernel_rfl) ?_
    go_wp2_with fail
    go_ret
    exact ⟨by simp, B7.out⟩
  | some u =>
    rw [out_some hu]
    simp only [updV]
    obtain ⟨hc, henc⟩ := enc_decU SR.out.B hu
    have hks := isUser_bounds (checkUpd_bounds hc).2.2.2.2.2.2.2.2.1
    have bb := below_then hb1 hb1.size (below_alloc (Below.refl w1.heap.size w1) (.cells #[.int .i64 u.1, .int .i64 u.2.1, .int .i64 u.2.2.1, .int .i64 u.2.2.2.1, .string u.2.2.2.2.1, .string u.2.2.2.2.2.1, .int .i64 u.2.2.2.2.2.2] tU))
    have P2 := Lib.hid (blk_new w1 (.cells #[.int .i64 u.1, .int .i64 u.2.1, .int .i64 u.2.2.1, .int .i64 u.2.2.2.1, .string u.2.2.2.2.1, .string u.2.2.2.2.2.1, .int .i64 u.2.2.2.2.2.2] tU))
    have B1 := Lib.hid bb
    have HEN := Lib.hid (encode_any u.1 u.2.1 u.2.2.1 u.2.2.2.1 u.2.2.2.2.2.2 u.2.2.2.2.1 u.2.2.2.2.2.1 (by omega) (w1.alloc (.cells #[.int .i64 u.1, .int .i64 u.2.1, .int .i64 u.2.2.1, .int .i64 u.2.2.2.1, .string u.2.2.2.2.1, .string u.2.2.2.2.2.1, .int .i64 u.2.2.2.2.2.2] tU)))
    have HCE := Lib.hid (show checkUpd (u.1, u.2.1, u.2.2.1, u.2.2.2.1, u.2.2.2.2.1, u.2.2.2.2.2.1, u.2.2.2.2.2.2) = 0 ∧ encE (u.1, u.2.1, u.2.2.1, u.2.2.2.1, u.2.2.2.2.1, u.2.2.2.2.2.1, u.2.2.2.2.2.2) = bs from ⟨hc, (if_pos hc).trans henc⟩)
    clear he1 hb1 hu hc henc hks bb
    go_upto_region 2 with (fail)
    generalize w1.heap.size = b3 at *
    generalize (World.alloc w1 _) = W1 at *
    have cu := blkc P2.out
    go_wp2_with fail
    refine HEN.out.mono ?_
    rintro e w3 ⟨v3, rfl, ho3, hb3⟩
    rw [HCE.out.1]
    rw [HCE.out.2] at ho3
    have B2 := Lib.hid (below_then B1.out B1.out.size hb3)
    have st1 := own_string Try.underlying49 Try.underlying5 Try.underlying9 ho3
    have st2 := Kd.C_string (src := tBs) (dst := 9) (c := c) Try.underlying49 Try.underlying5 Try.underlying9 (SR.out.below B2.out).C
    clear hb3 B1 P2 cu HEN ho3
    go_upto_region 6 with (fail)
    clear st1 st2
    generalize w3 = W2 at *
    go_wp2_with fail
    refine (split_any (SR.out.below B2.out) HL.out).mono ?_
    rintro e w4 ⟨v4, rfl, hr4, hb4⟩
    obtain ⟨A4, c4, rfl, hc4, hC4⟩ := Kd.R_reads hr4
    rw [HLN.out.1] at hC4 hc4 ⊢
    rw [HLN.out.2]
    have C4 := Lib.hid hC4
    have HC4 := Lib.hid hc4
    have B4 := Lib.hid (below_then B2.out B2.out.size hb4)
    have d0 : decide ((N : Int) < 0) = false := by simp
    have d1 : decide (bs.length < N) = false := by have := HNL.out; simp; omega
    have d2 : decide ((bs.length : Int) < (N : Int)) = false := by have := HNL.out; simp; omega
    clear hr4 hb4 hc4 hC4 B2
    go_wp2_with fail
    refine (stream_any L A4 c4 HC4.out HLL.out HKEY.out w4 C4.out).mono ?_
    rw [HE.out, HO.out]
    rintro e w5 ⟨v5, rfl, ho5, hb5⟩
    have O5 := Lib.hid ho5
    have B5 := Lib.hid (below_then B4.out B4.out.size hb5)
    clear ho5 hb5 B4 C4 d0 d1 d2
    have hcv : (convert tBs tBs (.slice (some ⟨w5.heap.size, 0, none⟩) 8 8)).run Try.prog (w5.alloc (.cells #[.int .u8 1, .int .u8 1, .int .u8 1, .int .u8 1, .int .u8 1, .int .u8 97, .int .u8 1, .int .u8 120] 5)) = .ok (.slice (some ⟨w5.heap.size, 0, none⟩) 8 8) (w5.alloc (.cells #[.int .u8 1, .int .u8 1, .int .u8 1, .int .u8 1, .int .u8 1, .int .u8 97, .int .u8 1, .int .u8 120] 5 (8, 9))) := Lib.run_convert_bytes_const w5 tBs 5 #[.int .u8 1, .int .u8 1, .int .u8 1, .int .u8 1, .int .u8 1, .int .u8 97, .int .u8 1, .int .u8 120] 8 8 Try.underlying49 Try.underlying5
    have hC9 := Leb.C_lit w5 [1, 1, 1, 1, 1, 97, 1, 120] (by decide) (8, 9)
    have ba := below_alloc (Below.refl w5.heap.size w5) (.cells #[.int .u8 1, .int .u8 1, .int .u8 1, .int .u8 1, .int .u8 1, .int .u8 97, .int .u8 1, .int .u8 120] 5 (8, 9))
    have HC9 := Lib.hid hC9
    have O5 := Lib.hid (pw_own_below O5.out ba)
    have B5 := Lib.hid (below_then B5.out B5.out.size ba)
    clear hC9 ba
    go_wp2_with fail
    refine (decode_lit4 HC9.out (Nat.le_refl _)).mono ?_
    rintro e w6 ⟨rfl, hb6⟩
    have bb := below_then hb6 hb6.size (below_alloc (Below.refl w6.heap.size w6) (.cells #[.int .i64 1, .int .i64 1, .int .i64 1, .int .i64 1, .string ⟨#[97]⟩, .string ⟨#[120]⟩, .int .i64 0] tU))
    have P6 := Lib.hid (blk_new w6 (.cells #[.int .i64 1, .int .i64 1, .int .i64 1, .int .i64 1, .string ⟨#[97]⟩, .string ⟨#[120]⟩, .int .i64 0] tU))
    have O6 := Lib.hid (pw_own_below O5.out bb)
    have B6 := Lib.hid (below_then B5.out B5.out.size bb)
    clear hb6 bb O5 B5 HC9 hcv
    go_upto_region 11 with (fail)
    generalize w6.heap.size = b11 at *
    generalize (World.alloc w6 _) = W6 at *
    have bd := below_drew (Below.refl W6.heap.size W6)
    have P7 := Lib.hid (blk_below P6.out bd)
    have O7 := Lib.hid (pw_own_below O6.out bd)
    have B7 := Lib.hid (below_then B6.out B6.out.size bd)
    clear bd
    obtain ⟨hT, hcut⟩ := B_to .i64 SR.out.C HNL.out SR.out.c
    have HT := Lib.hid hT
    clear hT
    refine start_ (n := 22) (S := fun w' => (∀ o, w'.cell? ⟨b11, o, none⟩ = #[.int .i64 1, .int .i64 1, .int .i64 1, .int .i64 1, .string ⟨#[97]⟩, .string ⟨#[120]⟩, .int .i64 0][o]?)) (ds := []) #[false, false, false, false, false, false, false, false, false, false, false, false, false, false, false, false, false, false, false, false, false, false] (by kernel_rfl) rfl rfl ((blkc P6.out)) (fun hHeld => ?_)
    refine pure_ (i := 0) (N := some 58) (v := ?_) (a' := ?_) #[true, false, false, false, false, false, false, false, false, false, false, false, false, false, false, false, false, false, false, false, false, false] rfl rfl (by kernel_rfl) (fun _ _ _ h => h) (Or.inl ⟨by rfl, ?_⟩) ?_ ?_
    rotate_left
    · intro w'
      go_simp
      with_reducible rfl
    rotate_left
    · simp only [Act.put, List.setIfInBounds_toArray, List.set_cons_zero, List.set_cons_succ, i64_w, i32_w]
      rfl
    refine pure_ (i := 1) (N := some 59) (v := ?_) (a' := ?_) #[true, true, false, false, false, false, false, false, false, false, false, false, false, false, false, false, false, false, false, false, false, false] rfl rfl (by kernel_rfl) (fun _ _ _ h => h) (Or.inl ⟨by rfl, ?_⟩) ?_ ?_
    rotate_left
    · intro w'
      go_simp
      with_reducible rfl
    rotate_left
    · simp only [Act.put, List.setIfInBounds_toArray, List.set_cons_zero, List.set_cons_succ, i64_w, i32_w]
      rfl
    refine pure_ (i := 2) (N := some 60) (v := ?_) (a' := ?_) #[true, true, true, false, false, false, false, false, false, false, false, false, false, false, false, false, false, false, false, false, false, false] rfl rfl (by kernel_rfl) (fun _ _ _ h => h) (Or.inl ⟨by rfl, ?_⟩) ?_ ?_
    rotate_left
    · intro w'
      go_simp
      with_reducible rfl
    rotate_left
    · simp only [Act.put, List.setIfInBounds_toArray, List.set_cons_zero, List.set_cons_succ, i64_w, i32_w]
      rfl
    refine pure_ (i := 3) (N := some 61) (v := ?_) (a' := ?_) #[true, true, true, true, false, false, false, false, false, false, false, false, false, false, false, false, false, false, false, false, false, false] rfl rfl (by kernel_rfl) (fun _ _ _ h => h) (Or.inl ⟨by rfl, ?_⟩) ?_ ?_
    rotate_left
    · intro w'
      go_simp
      with_reducible rfl
    rotate_left
    · simp only [Act.put, List.setIfInBounds_toArray, List.set_cons_zero, List.set_cons_succ, i64_w, i32_w]
      rfl
    refine pure_ (i := 5) (N := some 63) (v := ?_) (a' := ?_) #[true, true, true, true, false, true, false, false, false, false, false, false, false, false, false, false, false, false, false, false, false, false] rfl rfl (by kernel_rfl) (fun _ _ _ h => h) (Or.inl ⟨by rfl, ?_⟩) ?_ ?_
    rotate_left
    · intro w'
      go_simp
      with_reducible rfl
    rotate_left
    · simp only [Act.put, List.setIfInBounds_toArray, List.set_cons_zero, List.set_cons_succ, i64_w, i32_w]
      rfl
    refine pure_ (i := 6) (N := some 64) (v := ?_) (a' := ?_) #[true, true, true, true, false, true, true, false, false, false, false, false, false, false, false, false, false, false, false, false, false, false] rfl rfl (by kernel_rfl) (fun _ _ _ h => h) (Or.inl ⟨by rfl, ?_⟩) ?_ ?_
    rotate_left
    · intro w'
      go_simp
      with_reducible rfl
    rotate_left
    · simp only [Act.put, List.setIfInBounds_toArray, List.set_cons_zero, List.set_cons_succ, i64_w, i32_w]
      rfl
    refine pure_ (i := 7) (N := some 65) (v := ?_) (a' := ?_) #[true, true, true, true, false, true, true, true, false, false, false, false, false, false, false, false, false, false, false, false, false, false] rfl rfl (by kernel_rfl) (fun _ _ _ h => h) (Or.inl ⟨by rfl, ?_⟩) ?_ ?_
    rotate_left
    · intro w'
      go_simp
      with_reducible rfl
    rotate_left
    · simp only [Act.put, List.setIfInBounds_toArray, List.set_cons_zero, List.set_cons_succ, i64_w, i32_w]
      rfl
    refine join_ (σ := Unit) 13 #[true, true, true, true, true, true, true, true, true, false, false, false, false, false, false, false, false, false, false, false, false, false] (fun _ => [(62, .string (strOfNums (bs.take N))), (65, .slice A N c), (66, .string (strOfNums (bs.take N)))]) (fun _ w' => W6.drew = w') ?_ ?_
    rotate_left
    · intro hCont
      refine two_ (i := 4) (j := 8) (Ni := some 62) (Nj := some 66) #[true, true, true, true, true, true, true, true, false, false, false, false, false, false, false, false, false, false, false, false, false, false] #[true, true, true, true, false, true, true, true, true, false, false, false, false, false, false, false, false, false, false, false, false, false] rfl rfl rfl rfl (by kernel_rfl) (by decide) (by decide) (fun K hK => ?_) (fun K hK => ?_)
      · skip
        have st1 := own_string Try.underlying49 Try.underlying5 Try.underlying9 O7.out
        refine value_ (w1 := ?_) (v := ?_) (by rfl) rfl ?_ ?_
        rotate_left 2
        · go_simp
          constructor
          · rfl
          · rfl
        refine hK.out _ _ ((blkc P7.out)) (fun hHeld => ?_)
        clear hK K
        refine norm_ (a' := ?_) ?_ ?_
        rotate_left
        · show Act.put _ (some 62) _ = _
          simp only [Act.put, List.setIfInBounds_toArray, List.set_cons_zero, List.set_cons_succ, i64_w, i32_w]
          rfl
        refine one_ (i := 8) (N := some 66) #[true, true, true, true, true, true, true, true, true, false, false, false, false, false, false, false, false, false, false, false, false, false] rfl rfl (by kernel_rfl) (by decide) (fun K hK => ?_)
        have st2 := Kd.C_string (src := tBs) (dst := 9) (c := c) Try.underlying49 Try.underlying5 Try.underlying9 (Kd.C_below HT.out B7.out)
        refine value_ (w1 := ?_) (v := ?_) (by rfl) rfl ?_ ?_
        rotate_left 2
        · go_simp
          constructor
          · rfl
          · rfl
        refine hK.out _ _ ((blkc P7.out)) (fun hHeld => ?_)
        clear hK K
        refine norm_ (a' := ?_) ?_ ?_
        rotate_left
        · show Act.put _ (some 66) _ = _
          simp only [Act.put, List.setIfInBounds_toArray, List.set_cons_zero, List.set_cons_succ, i64_w, i32_w]
          rfl
        exact norm_ (by simp only [putAll, Act.put, List.setIfInBounds_toArray, List.set_cons_zero, List.set_cons_succ]) (hCont () _ rfl)
      · skip
        have st2 := Kd.C_string (src := tBs) (dst := 9) (c := c) Try.underlying49 Try.underlying5 Try.underlying9 (Kd.C_below HT.out B7.out)
        refine value_ (w1 := ?_) (v := ?_) (by rfl) rfl ?_ ?_
        rotate_left 2
        · go_simp
          constructor
          · rfl
          · rfl
        refine hK.out _ _ ((blkc P7.out)) (fun hHeld => ?_)
        clear hK K
        refine norm_ (a' := ?_) ?_ ?_
        rotate_left
        · show Act.put _ (some 66) _ = _
          simp only [Act.put, List.setIfInBounds_toArray, List.set_cons_zero, List.set_cons_succ, i64_w, i32_w]
          rfl
        refine one_ (i := 4) (N := some 62) #[true, true, true, true, true, true, true, true, true, false, false, false, false, false, false, false, false, false, false, false, false, false] rfl rfl (by kernel_rfl) (by decide) (fun K hK => ?_)
        have st1 := own_string Try.underlying49 Try.underlying5 Try.underlying9 O7.out
        refine value_ (w1 := ?_) (v := ?_) (by rfl) rfl ?_ ?_
        rotate_left 2
        · go_simp
          constructor
          · rfl
          · rfl
        refine hK.out _ _ ((blkc P7.out)) (fun hHeld => ?_)
        clear hK K
        refine norm_ (a' := ?_) ?_ ?_
        rotate_left
        · show Act.put _ (some 62) _ = _
          simp only [Act.put, List.setIfInBounds_toArray, List.set_cons_zero, List.set_cons_succ, i64_w, i32_w]
          rfl
        exact norm_ (by simp only [putAll, Act.put, List.setIfInBounds_toArray, List.set_cons_zero, List.set_cons_succ]) (hCont () _ rfl)
    rintro _ _ rfl
    refine norm_ (a' := ?_) ?_ ?_
    rotate_left
    · simp only [putAll, Act.put, List.setIfInBounds_toArray, List.set_cons_zero, List.set_cons_succ]
      rfl
    refine pure_ (i := 9) (N := some 67) (v := ?_) (a' := ?_) #[true, true, true, true, true, true, true, true, true, true, false, false, false, false, false, false, false, false, false, false, false, false] rfl rfl (by kernel_rfl) (fun _ _ _ h => h) (Or.inl ⟨by rfl, ?_⟩) ?_ ?_
    rotate_left
    · intro w'
      go_simp
      with_reducible rfl
    rotate_left
    · simp only [Act.put, List.setIfInBounds_toArray, List.set_cons_zero, List.set_cons_succ, i64_w, i32_w]
      rfl
    refine pure_ (i := 10) (N := some 68) (v := ?_) (a' := ?_) #[true, true, true, true, true, true, true, true, true, true, true, false, false, false, false, false, false, false, false, false, false, false] rfl rfl (by kernel_rfl) (fun _ _ _ h => h) (Or.inl ⟨by rfl, ?_⟩) ?_ ?_
    rotate_left
    · intro w'
      go_simp
      with_reducible rfl
    rotate_left
    · simp only [Act.put, List.setIfInBounds_toArray, List.set_cons_zero, List.set_cons_succ, i64_w, i32_w]
      rfl
    refine pure_ (i := 11) (N := some 69) (v := ?_) (a' := ?_) #[true, true, true, true, true, true, true, true, true, true, true, true, false, false, false, false, false, false, false, false, false, false] rfl rfl (by kernel_rfl) (fun _ _ _ h => h) (Or.inl ⟨by rfl, ?_⟩) ?_ ?_
    rotate_left
    · intro w'
      go_simp
      with_reducible rfl
    rotate_left
    · simp only [Act.put, List.setIfInBounds_toArray, List.set_cons_zero, List.set_cons_succ, i64_w, i32_w]
      rfl
    refine pure_ (i := 12) (N := some 70) (v := ?_) (a' := ?_) #[true, true, true, true, true, true, true, true, true, true, true, true, true, false, false, false, false, false, false, false, false, false] rfl rfl (by kernel_rfl) (fun _ _ _ h => h) (Or.inl ⟨by rfl, ?_⟩) ?_ ?_
    rotate_left
    · intro w'
      go_simp
      with_reducible rfl
    rotate_left
    · simp only [Act.put, List.setIfInBounds_toArray, List.set_cons_zero, List.set_cons_succ, i64_w, i32_w]
      rfl
    refine pure_ (i := 13) (N := some 71) (v := ?_) (a' := ?_) #[true, true, true, true, true, true, true, true, true, true, true, true, true, true, false, false, false, false, false, false, false, false] rfl rfl (by kernel_rfl) (fun _ _ _ h => h) (Or.inl ⟨by rfl, ?_⟩) ?_ ?_
    rotate_left
    · intro w'
      go_simp
      with_reducible rfl
    rotate_left
    · simp only [Act.put, List.setIfInBounds_toArray, List.set_cons_zero, List.set_cons_succ, i64_w, i32_w]
      rfl
    refine pure_ (i := 14) (N := some 72) (v := ?_) (a' := ?_) #[true, true, true, true, true, true, true, true, true, true, true, true, true, true, true, false, false, false, false, false, false, false] rfl rfl (by kernel_rfl) (fun _ _ _ h => h) (Or.inl ⟨by rfl, ?_⟩) ?_ ?_
    rotate_left
    · intro w'
      go_simp
      with_reducible rfl
    rotate_left
    · simp only [Act.put, List.setIfInBounds_toArray, List.set_cons_zero, List.set_cons_succ, i64_w, i32_w]
      rfl
    refine pure_ (i := 15) (N := some 73) (v := ?_) (a' := ?_) #[true, true, true, true, true, true, true, true, true, true, true, true, true, true, true, true, false, false, false, false, false, false] rfl rfl (by kernel_rfl) (fun _ _ _ h => h) (Or.inl ⟨by rfl, ?_⟩) ?_ ?_
    rotate_left
    · intro w'
      go_simp
      with_reducible rfl
    rotate_left
    · simp only [Act.put, List.setIfInBounds_toArray, List.set_cons_zero, List.set_cons_succ, i64_w, i32_w]
      rfl
    refine pure_ (i := 16) (N := some 74) (v := ?_) (a' := ?_) #[true, true, true, true, true, true, true, true, true, true, true, true, true, true, true, true, true, false, false, false, false, false] rfl rfl (by kernel_rfl) (fun _ _ _ h => h) (Or.inl ⟨by rfl, ?_⟩) ?_ ?_
    rotate_left
    · intro w'
      go_simp
      with_reducible rfl
    rotate_left
    · simp only [Act.put, List.setIfInBounds_toArray, List.set_cons_zero, List.set_cons_succ, i64_w, i32_w]
      rfl
    refine pure_ (i := 17) (N := some 75) (v := ?_) (a' := ?_) #[true, true, true, true, true, true, true, true, true, true, true, true, true, true, true, true, true, true, false, false, false, false] rfl rfl (by kernel_rfl) (fun _ _ _ h => h) (Or.inl ⟨by rfl, ?_⟩) ?_ ?_
    rotate_left
    · intro w'
      go_simp
      with_reducible rfl
    rotate_left
    · simp only [Act.put, List.setIfInBounds_toArray, List.set_cons_zero, List.set_cons_succ, i64_w, i32_w]
      rfl
    refine take_ (i := 18) (N := some 76) (v := ?_) (a' := ?_) #[true, true, true, true, true, true, true, true, true, true, true, true, true, true, true, true, true, true, true, false, false, false] rfl rfl (by kernel_rfl) (fun _ _ _ h => h) (Or.inl ⟨by rfl, ?_⟩) hHeld ?_ ?_
    rotate_left
    · intro w' s0
      go_simp
      with_reducible rfl
    rotate_left
    · simp only [Act.put, List.setIfInBounds_toArray, List.set_cons_zero, List.set_cons_succ, i64_w, i32_w]
      rfl
    refine pure_ (i := 19) (N := some 77) (v := ?_) (a' := ?_) #[true, true, true, true, true, true, true, true, true, true, true, true, true, true, true, true, true, true, true, true, false, false] rfl rfl (by kernel_rfl) (fun _ _ _ h => h) (Or.inl ⟨by rfl, ?_⟩) ?_ ?_
    rotate_left
    · intro w'
      go_simp
      with_reducible rfl
    rotate_left
    · simp only [Act.put, List.setIfInBounds_toArray, List.set_cons_zero, List.set_cons_succ, i64_w, i32_w]
      rfl
    refine pure_ (i := 20) (N := some 78) (v := ?_) (a' := ?_) #[true, true, true, true, true, true, true, true, true, true, true, true, true, true, true, true, true, true, true, true, true, false] rfl rfl (by kernel_rfl) (fun _ _ _ h => h) (Or.inl ⟨by rfl, ?_⟩) ?_ ?_
    rotate_left
    · intro w'
      go_simp
      with_reducible rfl
    rotate_left
    · simp only [Act.put, List.setIfInBounds_toArray, List.set_cons_zero, List.set_cons_succ, i64_w, i32_w]
      rfl
    refine pure_ (i := 21) (N := some 2) (v := ?_) (a' := ?_) #[true, true, true, true, true, true, true, true, true, true, true, true, true, true, true, true, true, true, true, true, true, true] rfl rfl (by kernel_rfl) (fun _ _ _ h => h) (Or.inl ⟨by rfl, ?_⟩) ?_ ?_
    rotate_left
    · intro w'
      go_simp
      with_reducible rfl
    rotate_left
    · simp only [Act.put, List.setIfInBounds_toArray, List.set_cons_zero, List.set_cons_succ, i64_w, i32_w]
      rfl
    refine done_ (by kernel_rfl) ?_
    go_wp2_with fail
    go_ret
    exact ⟨by simp, B7.out⟩
end Go.Proofs.Ytiboiociaedocaa.Leb
namespace Go.Proofs.Ytiboiociaedocaa.Walk
open Go.RowKit Go.Proofs.Ytiboiociaedocaa.Leb Go.Proofs.Ytiboiociaedocaa.Opn Go.Proofs.YtiboiociaedocaaW.PrintWords
theorem DeltaCanon (l : List Int) (A : Option Addr) (n : Nat) (W : World) (hl : l.length ≤ n) (hC : (Kd.int .u8).C W A l.length l) (hm : l.length ≤ 9223372036854775807) (hq : ∀ a ∈ l, u8ok a) (hb : sumOf (fun _ => 1) l + 1 ≤ 1048576) :
    Calls Try.prog 11 #[.slice A l.length n] W fun e W' => e = .returned (.bool true) ∧ Below W.heap.size W W' := by
  have := sumOf_len (m := fun (_ : Int) => 1) (fun x => Nat.le_refl _) l
  exact Leb.canon_any ⟨hC, hl, fun x hx => u8ok_range (hq x hx), by omega⟩ (by omega)
end Go.Proofs.Ytiboiociaedocaa.Walk
