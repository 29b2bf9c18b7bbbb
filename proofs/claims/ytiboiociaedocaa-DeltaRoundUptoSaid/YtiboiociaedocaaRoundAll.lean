/- A stream, and a stream's beginning, taken apart again, in plain words. -/
import Derived.Test.YtiboiociaedocaaCanon
set_option linter.unusedVariables false
set_option linter.unusedSimpArgs false
namespace Go.Proofs.Ytiboiociaedocaa.Leb
open Go.RowKit Go.Proofs.YtiboiociaedocaaW.PrintWords Go.Proofs.Ytiboiociaedocaa.Byt Go.Proofs.Ytiboiociaedocaa.Mem Go.Proofs.Ytiboiociaedocaa.Chk Go.Proofs.Ytiboiociaedocaa.Opn Go.Proofs.Ytiboiociaedocaa.Str
/-- One update of a stream. -/
def oneU (u : UpdT) : List Int := lebL (encU u).length ++ encU u
theorem strB_cons (u : UpdT) (l : List UpdT) : Str.strB (u :: l) = oneU u ++ Str.strB l := by
  rw [Str.strB, oneU, List.append_assoc]
theorem strB_append : ∀ (a b : List UpdT), Str.strB (a ++ b) = Str.strB a ++ Str.strB b
  | [], b => rfl
  | u :: a, b => by rw [List.cons_append, strB_cons, strB_cons, strB_append a b, List.append_assoc]
theorem oneU_str (u : UpdT) : oneU u = Leb.strB (strOfNums (encU u)) := by
  rw [Leb.strB, bytes_strOf (encU_isB u), strOfNums_size]
  rfl
theorem rd1_part : ∀ (n i : Nat), i < (lebL n).length → rd1 ((lebL n).take i) = none := by
  intro n
  induction n using Nat.strongRecOn with
  | ind n ih =>
    intro i hi
    cases i with
    | zero => rfl
    | succ i =>
      by_cases h : n > 127
      · rw [lebL_big h] at hi ⊢
        rw [List.take_succ_cons, rd1_big (by omega), ih (n / 128) (by omega) i (by simpa using hi)]
      · rw [lebL_small h] at hi
        simp at hi
theorem rdT_part {u : UpdT} {k : Nat} (hk : k < (oneU u).length) : rdT ((oneU u).take k) = none := by
  by_cases h : k < (lebL (encU u).length).length
  · rw [oneU, List.take_append_of_le_length (by omega), rdT, rd1_part _ _ h]
  · rw [oneU, List.take_append, List.take_of_length_le (by omega), rdT, rd1_leb]
    simp only
    rw [if_neg]
    rw [oneU, List.length_append] at hk
    rw [List.length_take]
    omega
theorem rdT_one (u : UpdT) (q : List Int) : rdT (oneU u ++ q) = some (strOfNums (encU u), q) := by
  rw [oneU_str, rdT_str]
theorem dec_one {u : UpdT} (h : checkUpd u = 0) : decU (bytesOf (strOfNums (encU u))) = some u := by
  rw [bytes_strOf (encU_isB u), decU_enc h]
/-- Of a stream's beginning those come back that are whole in it. -/
theorem spl_part : ∀ (l : List UpdT) (k : Nat), (∀ u ∈ l, checkUpd u = 0) → ∃ j, j ≤ l.length ∧ (splU ((Str.strB l).take k)).1 = l.take j ∧ (splU ((Str.strB l).take k)).2 = (Str.strB (l.take j)).length ∧ (Str.strB (l.take j)).length ≤ k ∧ ∀ u, l[j]? = some u → k < (Str.strB (l.take j)).length + (oneU u).length
  | [], k, _ => ⟨0, Nat.le_refl _, by rw [show (Str.strB []).take k = [] from List.take_nil, splU_none rfl]; rfl, by rw [show (Str.strB []).take k = [] from List.take_nil, splU_none rfl]; rfl, Nat.zero_le _, fun u hu => by simp at hu⟩
  | u :: l, k, h => by
    by_cases hk : k < (oneU u).length
    · refine ⟨0, Nat.zero_le _, ?_, ?_, Nat.zero_le _, fun v hv => ?_⟩
      · rw [strB_cons, List.take_append_of_le_length (by omega), splU_none (rdT_part hk)]
        rfl
      · rw [strB_cons, List.take_append_of_le_length (by omega), splU_none (rdT_part hk)]
        rfl
      · have e : u = v := by simpa using hv
        subst e
        show k < 0 + _
        omega
    · obtain ⟨j, h1, h2, h3, h4, h5⟩ := spl_part l (k - (oneU u).length) (fun v hv => h v (List.mem_cons_of_mem _ hv))
      have e : (Str.strB (u :: l)).take k = oneU u ++ (Str.strB l).take (k - (oneU u).length) := by
        rw [strB_cons, List.take_append, List.take_of_length_le (by omega)]
      have es := splU_some (rdT_one u ((Str.strB l).take (k - (oneU u).length))) (dec_one (h u (List.mem_cons_self ..)))
      refine ⟨j + 1, by rw [List.length_cons]; omega, ?_, ?_, ?_, fun v hv => ?_⟩
      · rw [e, es, h2, List.take_succ_cons]
      · rw [e, es, h3, List.take_succ_cons, strB_cons]
        simp only [List.length_append]
        omega
      · rw [List.take_succ_cons, strB_cons, List.length_append]
        omega
      · have := h5 v (by simpa using hv)
        rw [List.take_succ_cons, strB_cons, List.length_append]
        omega
/-- Of a whole stream all come back. -/
theorem spl_whole (l : List UpdT) (h : ∀ u ∈ l, checkUpd u = 0) : splU (Str.strB l) = (l, (Str.strB l).length) := by
  obtain ⟨j, h1, h2, h3, h4, h5⟩ := spl_part l (Str.strB l).length h
  rw [List.take_of_length_le (Nat.le_refl _)] at h2 h3
  have hj : j = l.length := by
    apply Classical.byContradiction
    intro hne
    have hlt : j < l.length := by omega
    have h6 := h5 _ (List.getElem?_eq_getElem hlt)
    have h7 : Str.strB l = Str.strB (l.take j) ++ (oneU l[j] ++ Str.strB (l.drop (j + 1))) := by
      rw [← strB_cons, ← List.drop_eq_getElem_cons hlt, ← strB_append, List.take_append_drop]
    have h8 := congrArg List.length h7
    rw [List.length_append, List.length_append] at h8
    omega
  subst hj
  rw [List.take_of_length_le (Nat.le_refl _)] at h2 h3
  exact Prod.ext h2 h3
end Go.Proofs.Ytiboiociaedocaa.Leb

set_option linter.unusedVariables false
set_option linter.unusedSimpArgs false
namespace Go.Proofs.Ytiboiociaedocaa.Leb
open Go.RowKit Go.Proofs.Ytiboiociaedocaa.CutPlain Go.Proofs.Ytiboiociaedocaa.PDeltaStreams Go.Proofs.YtiboiociaedocaaW.PrintWords Go.Proofs.YtiboiociaedocaaW.PrintLast Go.Proofs.Ytiboiociaedocaa.CutDec Go.Proofs.Ytiboiociaedocaa.Mem Go.Proofs.Ytiboiociaedocaa.Byt Go.Proofs.Ytiboiociaedocaa.Chk Go.Proofs.Ytiboiociaedocaa.Opn Go.Proofs.Ytiboiociaedocaa.Str
def uOwn : SU := ⟨7, 2, 3, ⟨1, ⟨#[107]⟩, ⟨#[118]⟩, 0⟩⟩
set_option maxRecDepth 100000 in
theorem res_put {W : World} {bu : Nat} {a0 a1 a2 a3 a4 a5 a6 : Value} {tm : Array Value} (h2 : tm[10]? = some (.pointer (some ⟨bu, 0, none⟩))) (hU : W.heap[bu]? = some (.cells #[a0, a1, a2, a3, a4, a5, a6] tU (0, 0))) :
    (results Try.f33 tm).run Try.prog W = .ok (.agg #[a0, a1, a2, a3, a4, a5, a6]) W := by
  have cu := blkc hU
  have zu := blkz hU
  have hus := Try.underlying38
  have huo := Try.underlying35
  simp [results, Try.results33, go_sem, h2, cu, hus, huo]
set_option maxHeartbeats 1600000 in
set_option maxRecDepth 100000 in
theorem put_own (w : World) : Calls Try.prog 33 #[.int .i64 7, .int .i64 2, .int .i64 3, .string ⟨#[107]⟩, .string ⟨#[118]⟩] w fun e w' => e = .returned (.agg #[.int .i64 7, .int .i64 2, .int .i64 3, .int .i64 1, .string ⟨#[107]⟩, .string ⟨#[118]⟩, .int .i64 0]) ∧ Below w.heap.size w w' := by
  have U0 := Lib.hid (blk_new w (.cells UZ tU))
  have B0 := Lib.hid (below_alloc (Below.refl w.heap.size w) (.cells UZ tU))
  have N0 := Lib.hid (Nat.le_refl w.heap.size)
  go_enter Try.func33, Try.ntmps33
  go_upto_region 1 with (fail)
  obtain ⟨b, hb⟩ : ∃ b, w.heap.size = b := ⟨_, rfl⟩
  have N1 : Hid (w.heap.size ≤ b) := Lib.hid (Nat.le_of_eq hb)
  rw [hb] at U0 ⊢
  clear hb N0
  generalize (World.alloc w _) = W1 at *
  have cu := blkc U0.out
  have zu := blkz U0.out
  have HF := Lib.hid (setU_blk U0.out (v0 := .int .i64 7) (v1 := .int .i64 2) (v2 := .int .i64 3) (v3 := .int .i64 1) (v4 := .string ⟨#[107]⟩) (v5 := .string ⟨#[118]⟩) (v6 := .int .i64 0))
  have HB := Lib.hid (setU_below B0.out N1.out (v0 := .int .i64 7) (v1 := .int .i64 2) (v2 := .int .i64 3) (v3 := .int .i64 1) (v4 := .string ⟨#[107]⟩) (v5 := .string ⟨#[118]⟩) (v6 := .int .i64 0))
  go_wp2_with fail
  clear cu zu
  exact bodyPost_ret (res_put rfl HF.out) rfl ⟨rfl, HB.out⟩
set_option maxHeartbeats 1600000 in
set_option maxRecDepth 100000 in
theorem same2_any (l : List SU) (A B : Option Addr) (c c' : Nat) (hc : l.length ≤ c) (hc' : l.length ≤ c') (hl : l.length ≤ 1048576) (w : World) (h : kSU.C w A l.length l) (h' : kSU.C w B l.length l) :
    Calls Try.prog 35 #[.slice A l.length c, .slice B l.length c'] w fun e w' => e = .returned (.bool true) ∧ Below w.heap.size w w' := by
  have HA := Lib.hid h
  have HP := Lib.hid (plainAll_any l B c' hc' hl w h')
  clear h h'
  go_enter Try.func35, Try.ntmps35
  go_wp2_with fail
  refine HP.out.mono ?_
  rintro e w1 ⟨v1, rfl, hr1, hb1⟩
  obtain ⟨A1, c1, rfl, hc1, hC1⟩ := Kd.R_reads hr1
  rw [List.length_map] at hc1 hC1 ⊢
  have HS := Lib.hid (Str.same_any l A A1 c c1 hc hc1 hl w1 (Kd.C_below HA.out hb1) hC1)
  have B1 := Lib.hid hb1
  clear hr1 hc1 hC1 hb1 HP HA
  go_wp2_with fail
  refine HS.out.mono ?_
  rintro e w2 ⟨rfl, hb2⟩
  have B2 := Lib.hid (below_then B1.out B1.out.size hb2)
  clear hb2
  go_wp2
  go_ret
  exact ⟨rfl, B2.out⟩
theorem strOut_one {u : UpdT} (h : checkUpd u = 0) : strE [u] = 0 ∧ strOut [u] = oneU u := by
  have h1 : strE [u] = 0 := by rw [strE, if_pos h]; rfl
  refine ⟨h1, ?_⟩
  rw [strOut, if_pos h1, strB_cons]
  exact List.append_nil _
set_option maxHeartbeats 1600000 in
set_option maxRecDepth 100000 in
theorem size_any (x : SU) (hx : checkUpd (updOf x) = 0) (w : World) :
    Calls Try.prog 36 #[.agg #[.int .i64 x.f0, .int .i64 x.f1, .int .i64 x.f2, .int .i64 x.f3.f0, .string x.f3.f1, .string x.f3.f2, .int .i64 x.f3.f3]] w fun e w' => e = .returned (.int .i64 (((oneU (updOf x)).length : Nat) : Int)) ∧ Below w.heap.size w w' := by
  have h1 := isUser_bounds (checkUpd_bounds hx).2.2.2.2.2.2.2.2.1
  have HK := Lib.hid (show ∀ y ∈ [x], y.f3.f1.size ≤ 9223372036854775807 from fun y hy => by rw [List.mem_singleton.1 hy]; have h2 : x.f3.f1.size = (updOf x).2.2.2.2.1.size := rfl; omega)
  have HX := Lib.hid (show strE ([x].map updOf) = 0 ∧ strOut ([x].map updOf) = oneU (updOf x) from strOut_one hx)
  have bb := below_alloc (Below.refl w.heap.size w) (.cells #[.int .i64 x.f0, .int .i64 x.f1, .int .i64 x.f2, .int .i64 x.f3.f0, .string x.f3.f1, .string x.f3.f2, .int .i64 x.f3.f3] tU)
  have P0 := Lib.hid (blk_new w (.cells #[.int .i64 x.f0, .int .i64 x.f1, .int .i64 x.f2, .int .i64 x.f3.f0, .string x.f3.f1, .string x.f3.f2, .int .i64 x.f3.f3] tU))
  have B0 := Lib.hid bb
  clear bb h1 hx
  go_enter Try.func36, Try.ntmps36
  go_upto_region 1 with (fail)
  generalize w.heap.size = b1 at P0 ⊢
  generalize (World.alloc w _) = W1 at *
  have cu := blkc P0.out
  go_wp2_with fail
  refine (stream_any [x] (some ⟨W1.heap.size, 0, none⟩) 1 (Nat.le_refl _) (show 1 ≤ 1048576 by decide) HK.out _ (kSU_lit W1 [x] (show 1 ≤ 1000 by decide) _ rfl)).mono ?_
  rw [HX.out.1, HX.out.2]
  rintro e w2 ⟨v2, rfl, ho2, hb2⟩
  obtain ⟨A2, c2, rfl, _⟩ := own_reads ho2
  have ba := below_alloc B0.out (.cells ([x].flatMap encSU).toArray tU)
  have B2 := Lib.hid (below_then ba ba.size hb2)
  clear hb2 ba ho2
  go_wp2
  go_ret
  exact ⟨rfl, B2.out⟩
end Go.Proofs.Ytiboiociaedocaa.Leb

set_option linter.unusedVariables false
set_option linter.unusedSimpArgs false
namespace Go.Proofs.Ytiboiociaedocaa.Leb
open Go.RowKit Go.Proofs.Ytiboiociaedocaa.CutPlain Go.Proofs.Ytiboiociaedocaa.PDeltaStreams Go.Proofs.YtiboiociaedocaaW.PrintWords Go.Proofs.YtiboiociaedocaaW.PrintLast Go.Proofs.Ytiboiociaedocaa.CutDec Go.Proofs.Ytiboiociaedocaa.Mem Go.Proofs.Ytiboiociaedocaa.Byt Go.Proofs.Ytiboiociaedocaa.Chk Go.Proofs.Ytiboiociaedocaa.Opn Go.Proofs.Ytiboiociaedocaa.Str
/-- May an update be? -/
def okU (x : SU) : Bool := checkUpd (updOf x) == 0
theorem filter_no {l : List SU} {i : Nat} {x : SU} (h : l[i]? = some x) (hx : okU x = false) : (l.take (i + 1)).filter okU = (l.take i).filter okU := by
  rw [List.take_add_one, h]
  simp [hx]
theorem filter_yes {l : List SU} {i : Nat} {x : SU} (h : l[i]? = some x) (hx : okU x = true) : (l.take (i + 1)).filter okU = (l.take i).filter okU ++ [x] := by
  rw [List.take_add_one, h]
  simp [hx]
set_option maxHeartbeats 3200000 in
set_option maxRecDepth 100000 in
theorem may_any (l : List SU) (A : Option Addr) (c : Nat) (hc : l.length ≤ c) (hl : l.length ≤ 1048576) (hk : ∀ x ∈ l, x.f3.f1.size ≤ 9223372036854775807) (w : World) (h : kSU.C w A l.length l) :
    Calls Try.prog 34 #[.slice A l.length c] w fun e w' => ∃ v, e = .returned v ∧ kSU.R 38 w' w.heap.size (fun _ => True) v (l.filter okU) ∧ Below w.heap.size w w' := by
  have HR := Lib.hid h
  have HL := Lib.hid hl
  have HK := Lib.hid hk
  clear h hk hl
  go_enter Try.func34, Try.ntmps34
  go_wp2_with fail
  go_loopg [3, 4] l.length (fun kq v3 v4 w' => ∃ (i : Nat), v4 = .int .i64 (i : Int) ∧ Hid (i + kq = l.length) ∧ Hid (kSU.R 38 w' w.heap.size (fun _ => True) v3 ((l.take i).filter okU)) ∧ Hid (Below w.heap.size w w'))
  case atStart => exact ⟨0, rfl, (show _ + _ = _ by omega), Kd.R_nil _ _ _ _ _, Below.refl _ _⟩
  case round =>
    obtain ⟨i, rfl, HI, HO, HB⟩ := hrel
    cases gk with
    | zero =>
      have hi : i = l.length := HI.out
      have c2 : decide (i < l.length) = false := by simp; omega
      have FIN := Lib.hid (show (l.take i).filter okU = l.filter okU by rw [List.take_of_length_le (by omega)])
      clear hi HI
      go_wp2_with fail
      go_ret
      rw [← FIN.out]
      exact ⟨_, rfl, HO.out, HB.out⟩
    | succ k1 =>
      have hi : i < l.length := by have := HI.out; omega
      have c2 : decide (i < l.length) = true := by simp; omega
      have hx : l[i].f3.f1.size ≤ 9223372036854775807 := HK.out _ (List.getElem_mem hi)
      have hxi := List.getElem?_eq_getElem hi
      obtain ⟨ad229, e229, hx229_0, hx229_1, hx229_2, hx229_3, hx229_4, hx229_5, hx229_6⟩ := at_T38 HR.out (i : Int) (by omega) (by omega)
      cases e229
      simp only [Int.toNat_natCast] at hx229_0 hx229_1 hx229_2 hx229_3 hx229_4 hx229_5 hx229_6
      rw [rd_get hi] at hx229_0 hx229_1 hx229_2 hx229_3 hx229_4 hx229_5 hx229_6
      generalize l[i] = x at *
      have HXI := Lib.hid hxi
      replace hx229_0 := (HB.out.cell (World.block_lt_of_cell? w _ hx229_0)).trans hx229_0
      replace hx229_1 := (HB.out.cell (World.block_lt_of_cell? w _ hx229_1)).trans hx229_1
      replace hx229_2 := (HB.out.cell (World.block_lt_of_cell? w _ hx229_2)).trans hx229_2
      replace hx229_3 := (HB.out.cell (World.block_lt_of_cell? w _ hx229_3)).trans hx229_3
      replace hx229_4 := (HB.out.cell (World.block_lt_of_cell? w _ hx229_4)).trans hx229_4
      replace hx229_5 := (HB.out.cell (World.block_lt_of_cell? w _ hx229_5)).trans hx229_5
      replace hx229_6 := (HB.out.cell (World.block_lt_of_cell? w _ hx229_6)).trans hx229_6
      have p229 := eq_true (show 0 ≤ (i : Int) by omega)
      have q229 := eq_true (show i < l.length by omega)
      have HI1 := Lib.hid (show wrap64 ((i : Int) + 1) = ((i + 1 : Nat) : Int) from wrap_succ (by have := HL.out; omega))
      have HC := Lib.hid (checkUpd_any x.f0 x.f1 x.f2 x.f3.f0 x.f3.f3 x.f3.f1 x.f3.f2 hx wr)
      have HLF := Lib.hid (show ((l.take i).filter okU).length ≤ 1048576 from Nat.le_trans (List.length_filter_le _ _) (by rw [List.length_take]; have := HL.out; omega))
      clear hxi hi hx
      go_wp2_with fail
      refine HC.out.mono ?_
      rintro e w1 ⟨rfl, hb1⟩
      replace hx229_0 := (hb1.cell (World.block_lt_of_cell? _ _ hx229_0)).trans hx229_0
      replace hx229_1 := (hb1.cell (World.block_lt_of_cell? _ _ hx229_1)).trans hx229_1
      replace hx229_2 := (hb1.cell (World.block_lt_of_cell? _ _ hx229_2)).trans hx229_2
      replace hx229_3 := (hb1.cell (World.block_lt_of_cell? _ _ hx229_3)).trans hx229_3
      replace hx229_4 := (hb1.cell (World.block_lt_of_cell? _ _ hx229_4)).trans hx229_4
      replace hx229_5 := (hb1.cell (World.block_lt_of_cell? _ _ hx229_5)).trans hx229_5
      replace hx229_6 := (hb1.cell (World.block_lt_of_cell? _ _ hx229_6)).trans hx229_6
      have B1 := Lib.hid (below_then HB.out HB.out.size hb1)
      have O1 := Lib.hid (Kd.R_below HO.out hb1)
      clear hb1 HO HB HC
      obtain ⟨z, hz⟩ : ∃ z, checkUpd (x.f0, x.f1, x.f2, x.f3.f0, x.f3.f1, x.f3.f2, x.f3.f3) = z := ⟨_, rfl⟩
      rw [hz]
      by_cases hz0 : z = 0
      · subst hz0
        have HF := Lib.hid (filter_yes HXI.out (show okU x = true from beq_iff_eq.2 hz))
        clear hz
        go_wp2_with (((with_reducible refine gate_builtin (b := .append) (xs := #[.tmp 17, .tmp 22]) rfl ?_); at_builtin; refine Kd.R_append_rows kSU (Rr := kSU.K (w1.alloc _)) (w0 := w) w.heap.size rfl (.tmp 17) (.tmp 22) 54 38 _ 72 rfl Try.underlying54 infoSU rfl (by decide) (by decide) u3 ((l.take i).filter okU) [x] (some ⟨w1.heap.size, 0, none⟩) 1 1 (fun _ => True) (fun _ => False) rfl rfl (Kd.R_alloc O1.out _) (kSU_lit w1 [x] (show 1 ≤ 1000 by decide) _ rfl) (fun x cs h => K_M _ x cs h) (fun _ hk => hk.elim) (fun _ _ => trivial) (below_alloc B1.out _) (below_size (below_alloc B1.out _)) (by have h1 := HLF.out; omega) ?_; intro v3 w3 ho3 hb3 hg3 hat3; (have O3 := Lib.hid ho3); (have B3 := Lib.hid hb3); clear ho3 hb3 hg3 hat3))
        go_roundg k1
        case measure => exact Nat.lt_succ_self _
        case rel => exact ⟨i + 1, by rw [HI1.out], Lib.hid (by have := HI.out; omega), Lib.hid (by rw [HF.out]; exact O3.out), B3⟩
      · have hz1 : (z == 0) = false := by simpa using hz0
        have HF := Lib.hid (filter_no HXI.out (show okU x = false from beq_eq_false_iff_ne.2 (by rw [show checkUpd (updOf x) = z from hz]; exact hz0)))
        clear hz hz0
        go_wp2_with fail
        go_roundg k1
        case measure => exact Nat.lt_succ_self _
        case rel => exact ⟨i + 1, by rw [HI1.out], Lib.hid (by have := HI.out; omega), Lib.hid (by rw [HF.out]; exact O1.out), B1⟩
end Go.Proofs.Ytiboiociaedocaa.Leb

set_option linter.unusedVariables false
set_option linter.unusedSimpArgs false
namespace Go.Proofs.Ytiboiociaedocaa.Leb
open Go.RowKit Go.Proofs.Ytiboiociaedocaa.PDeltaStreams Go.Proofs.YtiboiociaedocaaW.PrintWords Go.Proofs.Ytiboiociaedocaa.Byt Go.Proofs.Ytiboiociaedocaa.Mem Go.Proofs.Ytiboiociaedocaa.Chk Go.Proofs.Ytiboiociaedocaa.Opn Go.Proofs.Ytiboiociaedocaa.Str
theorem one_len {u : UpdT} (h : checkUpd u = 0) : (oneU u).length ≤ 100 * mUpd u := by
  have h1 := encU_len h
  have h10 := lebL_len10 (n := (encU u).length) (by omega)
  obtain ⟨b1, b2, b3, b4, b5, b6, b7, b8, b9, b10, b11, b12, _, _⟩ := checkUpd_bounds h
  have hu := isUser_bounds b9
  obtain ⟨sq, cl, nu, kd, key, val, ver⟩ := u
  dsimp only at b1 b2 b3 b4 b5 b6 b7 b8 b10 b11 b12 hu h1 h10 ⊢
  have h4 := lebs4_len (a := sq.toNat) (b := cl.toNat) (c := nu.toNat) (d := kd.toNat) (by omega) (by omega) (by omega) (by omega)
  have hk := strB_len key (by omega)
  have hv := strB_len val (by omega)
  have hn := lebL_len10 (n := ver.toNat) (by omega)
  have hl : (encU (sq, cl, nu, kd, key, val, ver)).length ≤ key.size + val.size + 80 := by
    simp only [encU, List.length_append]
    have e1 : (if kd = 2 then ([] : List Int) else Leb.strB val).length ≤ val.size + 10 := by split <;> (try simp only [List.length_nil]) <;> omega
    have e2 : (if kd = 3 then lebL ver.toNat else ([] : List Int)).length ≤ 10 := by split <;> (try simp only [List.length_nil]) <;> omega
    omega
  rw [oneU, List.length_append]
  simp only [mUpd, mOp]
  omega
theorem strB_bulk : ∀ (l : List SU), (∀ x ∈ l, checkUpd (updOf x) = 0) → (Str.strB (l.map updOf)).length ≤ 100 * sumOf (fun x => mUpd (updOf x)) l
  | [], _ => by simp [Str.strB]
  | x :: l, h => by
    have h1 := one_len (h x (List.mem_cons_self ..))
    have h2 := strB_bulk l (fun y hy => h y (List.mem_cons_of_mem _ hy))
    rw [List.map_cons, strB_cons, List.length_append]
    simp only [sumOf]
    omega
theorem sum_filter (m : SU → Nat) (p : SU → Bool) : ∀ (l : List SU), sumOf m (l.filter p) ≤ sumOf m l
  | [] => Nat.le_refl _
  | x :: l => by
    have := sum_filter m p l
    rw [List.filter_cons]
    split <;> simp only [sumOf] <;> omega
theorem own_check : checkUpd (updOf uOwn) = 0 := by decide +kernel
/-- What goes in. -/
def someU (l : List SU) : List SU := uOwn :: l.filter okU
theorem some_ok (l : List SU) : ∀ x ∈ someU l, checkUpd (updOf x) = 0 := fun x hx => by
  rcases List.mem_cons.1 hx with rfl | hx
  · exact own_check
  · exact beq_iff_eq.1 (List.mem_filter.1 hx).2
theorem some_bulk (l : List SU) (h : sumOf (fun x => mUpd (updOf x)) l + 1 ≤ 1048576) : (Str.strB ((someU l).map updOf)).length ≤ 1073741823 ∧ (someU l).length ≤ 1048576 := by
  have h1 := strB_bulk (someU l) (some_ok l)
  have h2 := sum_filter (fun x => mUpd (updOf x)) okU l
  have h3 := sumOf_len (m := fun x => mUpd (updOf x)) (fun x => mUpd_one _) (l.filter okU)
  have h4 : mUpd (updOf uOwn) ≤ 100 := by decide +kernel
  simp only [someU, sumOf] at h1 ⊢
  rw [List.length_cons]
  omega
end Go.Proofs.Ytiboiociaedocaa.Leb

