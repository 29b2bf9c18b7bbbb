/- The kinds of what the layer's statements take. -/
import Derived.Test.YtofmgijdeeikeaaHopLives
import Derived.Test.YtofmgijdeeikeaaOpen
set_option linter.unusedVariables false
set_option linter.unusedSimpArgs false
namespace Go.Proofs.Ytofmgijdeeikeaa.Opn
open Go.RowKit Go.Proofs.YtofmgijdeeikeaaW.PrintWords Go.Proofs.Ytofmgijdeeikeaa.Hop
theorem op_to {α β : Type} {P : Program} {t : TypeId} {d : Kd α} {d' : Kd β} {p : α → Prop} {m : α → Nat} (h : Op_ P t d p m) (f : β → α) (g : α → β) (hg : ∀ x, f (g x) = x) (hK : ∀ {w : World} {b : β} {cs : List Value}, d.K w (f b) cs → d'.K w b cs) : Op_ P t d' (fun b => p (f b)) (fun b => m (f b)) := by
  intro H enc w base spare held fuel cs x hx
  obtain ⟨a, hk, hp, hm⟩ := h hx
  exact ⟨g a, hK (by rw [hg]; exact hk), by show p (f (g a)); rw [hg]; exact hp, by show m (f (g a)) ≤ _; rw [hg]; exact hm⟩
abbrev SetT := Int × Int × Int × Int × Int
def i64ok (n : Int) : Prop := (Lit.int .i64 n).wf = true
def strok (s : ByteArray) : Prop := s.size ≤ 9223372036854775807
abbrev kI : Kd Int := Kd.int .i64
def kSet : Kd SetT := Kd.pair kI (Kd.pair kI (Kd.pair kI (Kd.pair kI kI)))
def pSet (x : SetT) : Prop := i64ok x.1 ∧ i64ok x.2.1 ∧ i64ok x.2.2.1 ∧ i64ok x.2.2.2.1 ∧ i64ok x.2.2.2.2
theorem cellsInt : Try.prog.cellsOf 3 = 1 := by kernel_rfl
theorem cellsStr : Try.prog.cellsOf 9 = 1 := by kernel_rfl
theorem cellsKind : Try.prog.cellsOf 33 = 1 := by kernel_rfl
theorem cellsOp : Try.prog.cellsOf 35 = 4 := by kernel_rfl
theorem cellsUpd : Try.prog.cellsOf 37 = 7 := by kernel_rfl
theorem cellsSet : Try.prog.cellsOf 26 = 5 := by kernel_rfl
theorem opInt : Op_ Try.prog 3 kI i64ok (fun _ => 1) := op_int Try.underlying3
theorem opStr : Op_ Try.prog 9 Kd.string strok (fun s => s.size + 1) := op_string Try.underlying9
theorem opKind : Op_ Try.prog 33 kI i64ok (fun _ => 1) := op_int Try.underlying33
theorem opSet : Op_ Try.prog 26 kSet pSet (fun _ => 1 + (1 + (1 + (1 + 1)))) :=
  op_struct5 Try.underlying26 rfl rfl rfl rfl rfl cellsInt cellsInt cellsInt cellsInt cellsInt opInt opInt opInt opInt opInt cellsSet
theorem kSet_cells {w : World} {x : SetT} {cs : List Value} (h : kSet.K w x cs) : cs = [.int .i64 x.1, .int .i64 x.2.1, .int .i64 x.2.2.1, .int .i64 x.2.2.2.1, .int .i64 x.2.2.2.2] := by
  obtain ⟨_, _, rfl, rfl, _, _, rfl, rfl, _, _, rfl, rfl, _, _, rfl, rfl, rfl⟩ := h
  rfl
/-! ### an update -/
abbrev OpT := Int × ByteArray × ByteArray × Int
abbrev UpdT := Int × Int × Int × OpT
def kOp : Kd OpT := Kd.pair kI (Kd.pair Kd.string (Kd.pair Kd.string kI))
def kUpd : Kd UpdT := Kd.pair kI (Kd.pair kI (Kd.pair kI kOp))
def pOp (x : OpT) : Prop := i64ok x.1 ∧ strok x.2.1 ∧ strok x.2.2.1 ∧ i64ok x.2.2.2
def mOp (x : OpT) : Nat := 1 + ((x.2.1.size + 1) + ((x.2.2.1.size + 1) + 1))
def pUpd (x : UpdT) : Prop := i64ok x.1 ∧ i64ok x.2.1 ∧ i64ok x.2.2.1 ∧ pOp x.2.2.2
def mUpd (x : UpdT) : Nat := 1 + (1 + (1 + mOp x.2.2.2))
theorem opOp : Op_ Try.prog 35 kOp pOp mOp :=
  op_struct4 Try.underlying35 rfl rfl rfl rfl cellsKind cellsStr cellsStr cellsInt opKind opStr opStr opInt cellsOp
theorem opUpd : Op_ Try.prog 37 kUpd pUpd mUpd :=
  op_struct4 Try.underlying37 rfl rfl rfl rfl cellsInt cellsInt cellsInt cellsOp opInt opInt opInt opOp cellsUpd
def toT (u : U) : UpdT := (u.seq, u.client, u.number, u.kind, u.key, u.value, u.version)
def ofT (x : UpdT) : U := ⟨x.1, x.2.1, x.2.2.1, x.2.2.2.1, x.2.2.2.2.1, x.2.2.2.2.2.1, x.2.2.2.2.2.2⟩
def pU (u : U) : Prop := pUpd (toT u)
def mU (u : U) : Nat := mUpd (toT u)
theorem mU_one (u : U) : 1 ≤ mU u := by simp only [mU, mUpd]; omega
theorem opU : Op_ Try.prog 37 kU pU mU := op_to opUpd toT ofT (fun _ => rfl) (fun {w b cs} h => by
  obtain ⟨_, _, rfl, rfl, _, _, rfl, rfl, _, _, rfl, rfl, _, _, rfl, rfl, _, _, rfl, rfl, _, _, rfl, rfl, rfl⟩ := h
  rfl)
/-! ### what two ends begin with -/
abbrev BegT := Int × Int × Int
def kBeg : Kd BegT := Kd.pair kI (Kd.pair kI kI)
def pBeg (x : BegT) : Prop := i64ok x.1 ∧ i64ok x.2.1 ∧ i64ok x.2.2
theorem cellsBeg : Try.prog.cellsOf 23 = 3 := by kernel_rfl
theorem opBeg : Op_ Try.prog 23 kBeg pBeg (fun _ => 1 + (1 + 1)) :=
  op_struct3 Try.underlying23 rfl rfl rfl cellsInt cellsInt cellsInt opInt opInt opInt cellsBeg
theorem kBeg_cells {w : World} {x : BegT} {cs : List Value} (h : kBeg.K w x cs) : cs = [.int .i64 x.1, .int .i64 x.2.1, .int .i64 x.2.2] := by
  obtain ⟨_, _, rfl, rfl, _, _, rfl, rfl, rfl⟩ := h
  rfl
/-! ### a call of a script -/
structure Step where
  call : Int
  n : Int
  u : U
def Step.cells (s : Step) : List Value := .int .i64 s.call :: .int .i64 s.n :: s.u.cells
def kStep : Kd Step where
  sz := 9
  E := []
  K := fun _ s cs => cs = s.cells
  M := fun _ _ _ s cs => cs = s.cells
  K_len := fun h => by rw [h]; rfl
  K_one := fun h u hu => by
    rw [h] at hu
    simp only [Step.cells, U.cells, List.mem_cons, List.not_mem_nil, or_false] at hu
    rcases hu with rfl | rfl | rfl | rfl | rfl | rfl | rfl | rfl | rfl <;> rfl
  K_below := fun _ h => h
  K_of_M := fun h => h
  M_mono := fun _ h => h
  M_bound := fun h => h
  M_move := fun _ h => h
  M_lower := fun _ h => h
theorem cellsStep : Try.prog.cellsOf 53 = 9 := by kernel_rfl
def pStep (s : Step) : Prop := i64ok s.call ∧ i64ok s.n ∧ pU s.u
def mStep (s : Step) : Nat := 1 + (1 + mU s.u)
theorem mStep_one (s : Step) : 1 ≤ mStep s := by simp only [mStep]; omega
theorem opStep : Op_ Try.prog 53 kStep pStep mStep :=
  op_to (op_struct3 Try.underlying53 rfl rfl rfl cellsInt cellsInt cellsUpd opInt opInt opUpd cellsStep) (fun s : Step => (s.call, s.n, toT s.u)) (fun x => ⟨x.1, x.2.1, ofT x.2.2⟩) (fun _ => rfl) (fun {w b cs} h => by
  obtain ⟨_, _, rfl, rfl, _, _, rfl, rfl, _, _, rfl, rfl, _, _, rfl, rfl, _, _, rfl, rfl, _, _, rfl, rfl, _, _, rfl, rfl, _, _, rfl, rfl, rfl⟩ := h
  rfl)
end Go.Proofs.Ytofmgijdeeikeaa.Opn
