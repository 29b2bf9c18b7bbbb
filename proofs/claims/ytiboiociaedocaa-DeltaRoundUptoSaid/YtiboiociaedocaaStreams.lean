/- DeltaStreams: of any updates (of bulk at most 1048576) the program's stream is the document's; the updates stay, and what stands behind them. -/
import Derived.Test.YtiboiociaedocaaStream
set_option linter.unusedVariables false
set_option linter.unusedSimpArgs false
namespace Go.Proofs.Ytiboiociaedocaa.Str
open Go.RowKit Go.Proofs.Ytiboiociaedocaa.CutPlain Go.Proofs.Ytiboiociaedocaa.PDeltaStreams Go.Proofs.YtiboiociaedocaaW.PrintWords Go.Proofs.Ytiboiociaedocaa.Byt Go.Proofs.Ytiboiociaedocaa.Mem Go.Proofs.Ytiboiociaedocaa.Chk Go.Proofs.Ytiboiociaedocaa.Opn Go.Proofs.Ytiboiociaedocaa.Leb
def encSU (x : SU) : List Value := [.int .i64 x.f0, .int .i64 x.f1, .int .i64 x.f2, .int .i64 x.f3.f0, .string x.f3.f1, .string x.f3.f2, .int .i64 x.f3.f3]
theorem flat_get {α : Type} {enc : α → List Value} {s : Nat} (hs : ∀ x, (enc x).length = s) : ∀ (l : List α) (j : Nat) (p : α) (i : Nat) (u : Value), l[j]? = some p → (enc p)[i]? = some u → (l.flatMap enc)[j * s + i]? = some u
  | [], j, p, i, u, h, _ => by simp at h
  | a :: l, 0, p, i, u, h, hu => by
    have hi : i < (enc p).length := (List.getElem?_eq_some_iff.1 hu).1
    simp only [List.getElem?_cons_zero, Option.some.injEq] at h
    subst h
    rw [Nat.zero_mul, Nat.zero_add, List.flatMap_cons, List.getElem?_append_left hi, hu]
  | a :: l, j + 1, p, i, u, h, hu => by
    have h' : l[j]? = some p := by simpa using h
    have e : (j + 1) * s + i = s + (j * s + i) := by rw [Nat.succ_mul]; omega
    rw [List.flatMap_cons, e, List.getElem?_append_right (by rw [hs]; omega), hs, Nat.add_sub_cancel_left]
    exact flat_get hs l j p i u h' hu
theorem C_lit {α : Type} (d : Kd α) (enc : α → List Value) (t : TypeId) (hs : ∀ x, (enc x).length = d.sz) (hK : ∀ w x, d.K w x (enc x)) (w : World) (l : List α) (hl : l.length ≤ 1000) (cs : Array Value) (hcs : cs = (l.flatMap enc).toArray) : d.C (w.alloc (.cells cs t)) (some ⟨w.heap.size, 0, none⟩) l.length l := by
  subst hcs
  refine ⟨rfl, by omega, fun _ => ⟨_, rfl, fun j p hp => ⟨enc p, hs p, hK _ p, fun i u hu => ?_⟩⟩⟩
  rw [add_plain, blk_cell (blk_new w _)]
  simp only [List.getElem?_toArray]
  exact flat_get hs l j p i u hp hu
theorem kSU_lit (w : World) (l : List SU) (hl : l.length ≤ 1000) (cs : Array Value) (hcs : cs = (l.flatMap encSU).toArray) : kSU.C (w.alloc (.cells cs 38)) (some ⟨w.heap.size, 0, none⟩) l.length l :=
  C_lit kSU encSU 38 (fun _ => rfl) (fun w x => k38_mk w x) w l hl cs hcs
theorem infoSU : (Try.prog.info? 38).map (fun i => (i.zero, i.size, i.bytes)) = some (some (.agg #[.int .i64 0, .int .i64 0, .int .i64 0, .int .i64 0, .string ⟨#[]⟩, .string ⟨#[]⟩, .int .i64 0]), 7, 72) := by kernel_rfl
theorem K_M {w : World} {base : Nat} {ok : Nat → Prop} (w0 : World) (x : SU) (cs : List Value) (h : kSU.K w0 x cs) : kSU.M w base ok x cs := by
  rw [k38_open h]
  exact k38_mkM _ _ _ x
def u91 : SU := ⟨-91, 0, 0, ⟨0, ⟨#[]⟩, ⟨#[]⟩, 0⟩⟩
def u92 : SU := ⟨-92, 0, 0, ⟨0, ⟨#[]⟩, ⟨#[]⟩, 0⟩⟩
def uFirst : SU := ⟨1, 1, 1, ⟨2, ⟨#[97]⟩, ⟨#[]⟩, 0⟩⟩
theorem first_strE : strE ([uFirst].map updOf) = 0 := by decide +kernel
theorem first_strOut : (strOut ([uFirst].map updOf)).length = 7 := by
  have h : checkUpd (updOf uFirst) = 0 := by decide +kernel
  rw [strOut, if_pos first_strE]
  have e := first_bytes
  rw [encE, if_pos first_check] at e
  show (lebL (encU (updOf uFirst)).length ++ (encU (updOf uFirst) ++ [])).length = 7
  have e' : encU (updOf uFirst) = [1, 1, 1, 2, 1, 97] := e
  rw [e', List.append_nil]
  show (lebL 6 ++ [1, 1, 1, 2, 1, 97]).length = 7
  rw [lebL_small (by decide)]
  rfl
theorem plainAll_any (l : List SU) (A : Option Addr) (c : Nat) (hc : l.length ≤ c) (hl : l.length ≤ 1048576) (w : World) (h : kSU.C w A l.length l) :
    Calls Try.prog 27 #[.slice A l.length c] w fun e w' => ∃ v, e = .returned v ∧ kRU.R 46 w' w.heap.size (fun _ => True) v (l.map toR) ∧ Below w.heap.size w w' :=
  hawserlaw08_plainAll.calls (l.length + 1) A c l _ w h hc (plainAll_eq l hl)
theorem same_any (l : List SU) (A B : Option Addr) (c c' : Nat) (hc : l.length ≤ c) (hc' : l.length ≤ c') (hl : l.length ≤ 1048576) (w : World) (h : kSU.C w A l.length l) (h' : kRU.C w B l.length (l.map toR)) :
    Calls Try.prog 28 #[.slice A l.length c, .slice B l.length c'] w fun e w' => e = .returned (.bool true) ∧ Below w.heap.size w w' := by
  have := hawserlaw08_sameUpdates.calls (l.length + l.length + 2) A c l B c' (l.map toR) true w h hc (by rw [List.length_map]; exact h') (by rw [List.length_map]; exact hc') (same_eq l hl)
  rw [List.length_map] at this
  exact this
theorem map_updR (l : List SU) : (l.map toR).map updR = l.map updOf := by rw [List.map_map]; rfl
theorem rStream_map (l : List SU) (A : Option Addr) (c : Nat) (hc : l.length ≤ c) (hl : l.length ≤ 1048576) (hk : ∀ x ∈ l, x.f3.f1.size ≤ 9223372036854775807) (w : World) (h : kRU.C w A l.length (l.map toR)) :
    Calls Try.prog 26 #[.slice A l.length c] w fun e w' => ∃ v, e = .returned (.tuple #[v, .int .i64 (strE (l.map updOf))]) ∧ w'.ownsRow w.heap.size 5 1 v (strOut (l.map updOf)).length (nums .u8 (strOut (l.map updOf))) ∧ Below w.heap.size w w' := by
  have := rStream_any (l.map toR) A c (by rw [List.length_map]; exact hc) (by rw [List.length_map]; exact hl) (fun x hx => by obtain ⟨y, hy, rfl⟩ := List.mem_map.1 hx; exact hk y hy) w (by rw [List.length_map]; exact h)
  rw [List.length_map, map_updR] at this
  exact this
set_option maxHeartbeats 1600000 in
set_option maxRecDepth 100000 in
theorem streams_any (l : List SU) (A : Option Addr) (c : Nat) (hc : l.length ≤ c) (hl : l.length ≤ 1048576) (hk : ∀ x ∈ l, x.f3.f1.size ≤ 9223372036854775807) (w : World) (h : kSU.C w A l.length l) :
    Calls Try.prog 7 #[.slice A l.length c] w fun e w' => e = .returned (.bool true) ∧ Below w.heap.size w w' := by
  have HR := Lib.hid h
  have HC := Lib.hid hc
  have HK := Lib.hid hk
  have HB := Lib.hid (Below.refl w.heap.size w)
  have hu38 := Try.underlying38
  clear h hc hk
  go_enter Try.func7, Try.ntmps7
  go_wp2_with (first
    | ((with_reducible refine gate_builtin (b := .append) (xs := #[.const (.slice none 0 0), .tmp 12]) rfl ?_); at_builtin; refine Kd.R_append_rows kSU (Rr := kSU.K w) (w0 := w) w.heap.size rfl (.const (.slice none 0 0)) (.tmp 12) 54 38 _ 72 rfl Try.underlying54 infoSU rfl (by decide) (by decide) (.slice none 0 0) [] l A l.length c (fun _ => True) (fun _ => False) rfl rfl (Kd.R_nil _ _ _ _ _) HR.out (fun x cs h => K_M w x cs h) (fun _ hk => hk.elim) (fun _ _ => trivial) HB.out HB.out.size (by simp only [List.length_nil]; omega) ?_; intro v1 w1 ho1 hb1 hg1 hat1; (have HO1 := Lib.hid ho1); (have HB1 := Lib.hid hb1); clear ho1 hb1 hg1 hat1)
    | ((with_reducible refine gate_builtin (b := .append) (xs := #[.tmp 13, .tmp 16]) rfl ?_); at_builtin; refine Kd.R_append_rows kSU (Rr := kSU.K (w1.alloc _)) (w0 := w) w.heap.size rfl (.tmp 13) (.tmp 16) 54 38 _ 72 rfl Try.underlying54 infoSU rfl (by decide) (by decide) v1 ([] ++ l) [u91, u92] (some ⟨w1.heap.size, 0, none⟩) 2 2 (fun _ => True) (fun _ => False) rfl rfl (Kd.R_alloc HO1.out _) (kSU_lit w1 [u91, u92] (by decide) _ rfl) (fun x cs h => K_M _ x cs h) (fun _ hk => hk.elim) (fun _ _ => trivial) (below_alloc HB1.out _) (below_size (below_alloc HB1.out _)) (by rw [List.length_append, List.length_nil]; omega) ?_; intro v2 w2 ho2 hb2 hg2 hat2; (have HO2 := Lib.hid ho2); (have HB2 := Lib.hid hb2); clear ho2 hb2 hg2 hat2; (obtain ⟨AF, cF, hv2, hlF, hCF⟩ := Kd.R_reads HO2.out); (subst hv2); (have hlF' : l.length + 2 ≤ cF := by simpa using hlF); (have hcF : l.length ≤ cF := by omega); (have hcF2 : ¬ cF < l.length := by omega); (obtain ⟨adF, rfl, _⟩ := hCF.2.2 (by simp)); (have HCF := Lib.hid hCF); clear hCF hlF))
  have hM0 : kSU.C w2 (some adF) l.length l := by
    have := Kd.C_take (m := l.length) HCF.out (by simp)
    simpa using this
  have HM := Lib.hid hM0
  clear hM0
  refine (stream_any l (some adF) cF hcF hl HK.out w2 HM.out).mono ?_
  rintro e w3 ⟨v3, rfl, ho3, hb3⟩
  have S1 := Lib.hid ho3
  have HB := Lib.hid (below_then HB2.out HB2.out.size hb3)
  have HCF := Lib.hid (Kd.C_below HCF.out hb3)
  have HM := Lib.hid (Kd.C_below HM.out hb3)
  clear ho3 hb3
  generalize hS : strE (l.map updOf) = sE
  have HS := Lib.hid hS
  clear hS
  go_wp2_with fail
  refine (plainAll_any l A c HC.out hl w3 (Kd.C_below HR.out HB.out)).mono ?_
  rintro e w4 ⟨v4, rfl, ho4, hb4⟩
  obtain ⟨A4, c4, hv4, hl4, hr4⟩ := Kd.R_reads ho4
  subst hv4
  rw [List.length_map] at hl4 hr4 ⊢
  have HR4 := Lib.hid hr4
  have S1 := Lib.hid (pw_own_below S1.out hb4)
  have HB := Lib.hid (below_then HB.out HB.out.size hb4)
  have HCF := Lib.hid (Kd.C_below HCF.out hb4)
  have HM := Lib.hid (Kd.C_below HM.out hb4)
  clear ho4 hb4 hr4
  go_wp2_with fail
  refine (rStream_map l A4 c4 hl4 hl HK.out w4 HR4.out).mono ?_
  rw [HS.out]
  rintro e w5 ⟨v5, rfl, ho5, hb5⟩
  have S1 := Lib.hid (pw_own_below S1.out hb5)
  have S2 := Lib.hid ho5
  have HB := Lib.hid (below_then HB.out HB.out.size hb5)
  have HCF := Lib.hid (Kd.C_below HCF.out hb5)
  have HM := Lib.hid (Kd.C_below HM.out hb5)
  clear ho5 hb5 hl4
  go_wp2_with fail
  refine (stream_any [uFirst] (some ⟨w5.heap.size, 0, none⟩) 1 (by decide) (by decide) (fun x hx => by rw [List.mem_singleton.1 hx]; decide) _ (kSU_lit w5 [uFirst] (by decide) _ rfl)).mono ?_
  rw [first_strE]
  rintro e w6 ⟨v6, rfl, ho6, hb6⟩
  obtain ⟨A6, c6, hv6, _⟩ := own_reads ho6
  rw [first_strOut] at hv6
  subst hv6
  have hb6 := below_then (below_alloc (Below.refl w5.heap.size w5) _) (below_size (below_alloc (Below.refl w5.heap.size w5) _)) hb6
  have S1 := Lib.hid (pw_own_below S1.out hb6)
  have S2 := Lib.hid (pw_own_below S2.out hb6)
  have HB := Lib.hid (below_then HB.out HB.out.size hb6)
  have HCF := Lib.hid (Kd.C_below HCF.out hb6)
  have HM := Lib.hid (Kd.C_below HM.out hb6)
  clear ho6 hb6
  go_wp2_with fail
  refine (plainAll_any l A c HC.out hl w6 (Kd.C_below HR.out HB.out)).mono ?_
  rintro e w7 ⟨v7, rfl, ho7, hb7⟩
  obtain ⟨A7, c7, hv7, hl7, hr7⟩ := Kd.R_reads ho7
  subst hv7
  rw [List.length_map] at hl7 hr7 ⊢
  have HR7 := Lib.hid hr7
  have S1 := Lib.hid (pw_own_below S1.out hb7)
  have S2 := Lib.hid (pw_own_below S2.out hb7)
  have HB := Lib.hid (below_then HB.out HB.out.size hb7)
  have HCF := Lib.hid (Kd.C_below HCF.out hb7)
  have HM := Lib.hid (Kd.C_below HM.out hb7)
  clear ho7 hb7 hr7
  go_wp2_with fail
  refine (same_any l (some adF) A7 cF c7 hcF hl7 hl w7 HM.out HR7.out).mono ?_
  rintro e w8 ⟨rfl, hb8⟩
  have S1 := Lib.hid (pw_own_below S1.out hb8)
  have S2 := Lib.hid (pw_own_below S2.out hb8)
  have HB := Lib.hid (below_then HB.out HB.out.size hb8)
  have HCF := Lib.hid (Kd.C_below HCF.out hb8)
  clear hb8
  obtain ⟨_, e1, p1, _⟩ := at_T38 HCF.out ((l.length : Nat) : Int) (by omega) (by simp; omega)
  cases e1
  obtain ⟨_, e2, p2, _⟩ := at_T38 HCF.out ((l.length + 1 : Nat) : Int) (by omega) (by simp)
  cases e2
  rw [rd_get (by simp)] at p1 p2
  simp [u91, u92] at p1 p2
  have s1 := own_string Try.underlying49 Try.underlying5 Try.underlying9 S1.out
  have s2 := own_string Try.underlying49 Try.underlying5 Try.underlying9 S2.out
  have hw1 : wrap64 ((l.length : Int) + 1) = (l.length : Int) + 1 := by unfold wrap64; omega
  go_wp2_with ((go_at_call 14; refine (num_any _ _).mono ?_; rintro e w1 ⟨rfl, rfl⟩))
  go_ret
  exact ⟨rfl, HB.out⟩
end Go.Proofs.Ytiboiociaedocaa.Str
namespace Go.Proofs.Ytiboiociaedocaa.Walk
open Go.RowKit Go.Proofs.Ytiboiociaedocaa.Str Go.Proofs.Ytiboiociaedocaa.Opn Go.Proofs.YtiboiociaedocaaW.PrintWords
theorem DeltaStreams (l : List SU) (A : Option Addr) (c : Nat) (W : World) (hc : l.length ≤ c) (h : kSU.C W A l.length l) (hl : l.length ≤ 9223372036854775807) (hp : ∀ x ∈ l, pUpd (updOf x)) (hb : sumOf (fun x => mUpd (updOf x)) l + 1 ≤ 1048576) :
    Calls Try.prog 7 #[.slice A l.length c] W fun e W' => e = .returned (.bool true) ∧ Below W.heap.size W W' := by
  have := sumOf_len (m := fun x => mUpd (updOf x)) (fun x => mUpd_one _) l
  exact Str.streams_any l A c hc (by omega) (fun x hx => (hp x hx).2.2.2.2.1) W h
end Go.Proofs.Ytiboiociaedocaa.Walk
