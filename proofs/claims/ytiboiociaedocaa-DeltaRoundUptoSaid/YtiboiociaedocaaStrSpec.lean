/- Streams of updates: kinds of the printed texts, plain words, and what the printed functions come to. -/
import Derived.Test.YtiboiociaedocaaEncodes
import Derived.Test.YtiboiociaedocaaCutPlain
import Derived.Test.YtiboiociaedocaaKinds
set_option linter.unusedVariables false
set_option linter.unusedSimpArgs false
namespace Go.Proofs.Ytiboiociaedocaa.Str
open Go.RowKit Go.Proofs.Ytiboiociaedocaa.CutPlain Go.Proofs.Ytiboiociaedocaa.PDeltaStreams Go.Proofs.YtiboiociaedocaaW.PrintWords Go.Proofs.Ytiboiociaedocaa.Byt Go.Proofs.Ytiboiociaedocaa.Mem Go.Proofs.Ytiboiociaedocaa.Chk Go.Proofs.Ytiboiociaedocaa.Opn Go.Proofs.Ytiboiociaedocaa.Leb
abbrev SU := S38
abbrev RU := S46
abbrev kSU : Kd SU := k38
abbrev kRU : Kd RU := k46
def updOf (x : SU) : UpdT := (x.f0, x.f1, x.f2, x.f3.f0, x.f3.f1, x.f3.f2, x.f3.f3)
def updR (x : RU) : UpdT := (x.f0, x.f1, x.f2, x.f3.f0, x.f3.f1, x.f3.f2, x.f3.f3)
def toR (x : SU) : RU := ⟨x.f0, x.f1, x.f2, ⟨x.f3.f0, x.f3.f1, x.f3.f2, x.f3.f3⟩⟩
theorem updR_toR (x : SU) : updR (toR x) = updOf x := rfl
theorem opSO : Op_ Try.prog 35 k35 (fun x => pOp (x.f0, x.f1, x.f2, x.f3)) (fun x => mOp (x.f0, x.f1, x.f2, x.f3)) :=
  op_iso opOp (fun x : S35 => (x.f0, x.f1, x.f2, x.f3)) (fun t => ⟨t.1, t.2.1, t.2.2.1, t.2.2.2⟩) (fun _ => rfl)
theorem opSU : Op_ Try.prog 38 kSU (fun x => pUpd (updOf x)) (fun x => mUpd (updOf x)) :=
  op_iso (op_struct4 Try.underlying38 rfl rfl rfl rfl cellsInt cellsInt cellsInt cellsOp opInt opInt opInt opSO cellsUpd) (fun x : SU => (x.f0, x.f1, x.f2, x.f3)) (fun t => ⟨t.1, t.2.1, t.2.2.1, t.2.2.2⟩) (fun _ => rfl)
theorem mUpd_one (u : UpdT) : 1 ≤ mUpd u := by simp only [mUpd]; omega

/-- The first error; 0: none. -/
def strE : List UpdT → Int
  | [] => 0
  | u :: l => if checkUpd u = 0 then strE l else checkUpd u
def strB : List UpdT → List Int
  | [] => []
  | u :: l => lebL (encU u).length ++ (encU u ++ strB l)
def strOut (l : List UpdT) : List Int := if strE l = 0 then strB l else []
def StrGo (xs : List Int) (l rest : List UpdT) : Prop := strE rest = strE l ∧ xs ++ strB rest = strB l

theorem encU_len {u : UpdT} (h : checkUpd u = 0) : (encU u).length ≤ 70000 := by
  obtain ⟨sq, cl, nu, kd, key, val, ver⟩ := u
  obtain ⟨b1, b2, b3, b4, b5, b6, b7, b8, b9, b10, b11, b12, _, _⟩ := checkUpd_bounds h
  have hu := isUser_bounds b9
  dsimp only at b1 b2 b3 b4 b5 b6 b7 b8 b10 b11 b12 hu
  have h4 := lebs4_len (a := sq.toNat) (b := cl.toNat) (c := nu.toNat) (d := kd.toNat) (by omega) (by omega) (by omega) (by omega)
  have hk := strB_len key (by omega)
  have hv := strB_len val (by omega)
  have hn := lebL_len10 (n := ver.toNat) (by omega)
  simp only [encU, List.length_append]
  have e1 : (if kd = 2 then ([] : List Int) else Leb.strB val).length ≤ val.size + 10 := by split <;> (try simp only [List.length_nil]) <;> omega
  have e2 : (if kd = 3 then lebL ver.toNat else ([] : List Int)).length ≤ 10 := by split <;> (try simp only [List.length_nil]) <;> omega
  omega

theorem StrGo.start (l : List UpdT) : StrGo [] l l := ⟨rfl, rfl⟩
theorem StrGo.step {xs : List Int} {l rest : List UpdT} {u : UpdT} (h : StrGo xs l (u :: rest)) (hu : checkUpd u = 0) : StrGo (xs ++ lebL (encU u).length ++ encU u) l rest := by
  obtain ⟨h1, h2⟩ := h
  rw [strE, if_pos hu] at h1
  rw [strB] at h2
  exact ⟨h1, by rw [List.append_assoc, List.append_assoc, h2]⟩
theorem StrGo.bad {xs : List Int} {l rest : List UpdT} {u : UpdT} (h : StrGo xs l (u :: rest)) (hu : checkUpd u ≠ 0) : strE l = checkUpd u ∧ strOut l = [] := by
  obtain ⟨h1, _⟩ := h
  rw [strE, if_neg hu] at h1
  exact ⟨h1.symm, by rw [strOut, if_neg (by rw [← h1]; exact hu)]⟩
theorem StrGo.fin {xs : List Int} {l : List UpdT} (h : StrGo xs l []) : strE l = 0 ∧ strOut l = xs := by
  obtain ⟨h1, h2⟩ := h
  have h1' : strE l = 0 := h1.symm
  refine ⟨h1', ?_⟩
  rw [strOut, if_pos h1', ← h2]
  simp [strB]

/-! ### what the printed functions come to -/
theorem rd_get {l : List SU} {i : Nat} (h : i < l.length) : rd_T38 l (i : Int) = l[i] := by
  simp [rd_T38, List.getElem?_eq_getElem h]
theorem rdR_get {l : List RU} {i : Nat} (h : i < l.length) : rd_T46 l (i : Int) = l[i] := by
  simp [rd_T46, List.getElem?_eq_getElem h]
theorem wrap_succ {i : Nat} (h : i < 9223372036854775807) : wrap64 ((i : Int) + 1) = ((i + 1 : Nat) : Int) := by
  unfold wrap64
  omega
theorem plainAll_go (l : List SU) (hl : l.length ≤ 1048576) : ∀ (n i : Nat) (acc : List RU), i + n = l.length → acc.length = i → hawserlaw08_plainAll.l0 (n + 1) l acc (i : Int) = some (acc ++ (l.drop i).map toR)
  | 0, i, acc, hi, ha => by
    rw [hawserlaw08_plainAll.l0, if_neg (by omega), List.drop_eq_nil_of_le (by omega)]
    simp
  | n + 1, i, acc, hi, ha => by
    have hlt : i < l.length := by omega
    rw [hawserlaw08_plainAll.l0, if_pos (by omega), if_pos (by omega), rd_get hlt]
    have e : hawserlaw08_plain.f l[i].f0 l[i].f1 l[i].f2 l[i].f3.f0 l[i].f3.f1 l[i].f3.f2 l[i].f3.f3 = some (l[i].f0, l[i].f1, l[i].f2, l[i].f3.f0, l[i].f3.f1, l[i].f3.f2, l[i].f3.f3) := rfl
    rw [e, Option.bind_some, if_pos (by omega), wrap_succ (by omega), plainAll_go l hl n (i + 1) _ (by omega) (by simp [ha]), List.drop_eq_getElem_cons hlt]
    rw [List.map_cons, List.append_assoc, List.singleton_append]
    rfl
theorem plainAll_eq (l : List SU) (hl : l.length ≤ 1048576) : hawserlaw08_plainAll.f (l.length + 1) l = some (l.map toR) := by
  have := plainAll_go l hl l.length 0 [] (by omega) rfl
  simpa [hawserlaw08_plainAll.f] using this
theorem same_go (l : List SU) (hl : l.length ≤ 1048576) : ∀ (n i : Nat), i + n = l.length → hawserlaw08_sameUpdates.l0 (n + n + 2) l (l.map toR) (i : Int) = some true
  | 0, i, hi => by
    rw [hawserlaw08_sameUpdates.l0, if_neg (by omega), hawserlaw08_sameUpdates.j1, if_neg (by decide)]
    simp
  | n + 1, i, hi => by
    have hlt : i < l.length := by omega
    rw [show n + 1 + (n + 1) + 2 = (n + n + 2) + 1 + 1 by omega, hawserlaw08_sameUpdates.l0, if_pos (by omega), hawserlaw08_sameUpdates.j1, if_pos (by simp; omega), if_pos (by omega), if_pos (by omega), rd_get hlt]
    have e : hawserlaw08_plain.f l[i].f0 l[i].f1 l[i].f2 l[i].f3.f0 l[i].f3.f1 l[i].f3.f2 l[i].f3.f3 = some (l[i].f0, l[i].f1, l[i].f2, l[i].f3.f0, l[i].f3.f1, l[i].f3.f2, l[i].f3.f3) := rfl
    have e2 : rd_T46 (l.map toR) (i : Int) = toR l[i] := by rw [rdR_get (by simpa using hlt)]; simp
    rw [e, Option.bind_some, if_pos (by simp; omega), e2, if_neg (by simp [toR]), wrap_succ (by omega), same_go l hl n (i + 1) (by omega)]
theorem same_eq (l : List SU) (hl : l.length ≤ 1048576) : hawserlaw08_sameUpdates.f (l.length + l.length + 2) l (l.map toR) = some true := by
  have := same_go l hl l.length 0 (by omega)
  simpa [hawserlaw08_sameUpdates.f] using this
end Go.Proofs.Ytiboiociaedocaa.Str
