/- Split in plain words. -/
import Derived.Test.YtiboiociaedocaaDecodes
import Derived.Test.YtiboiociaedocaaStreams
set_option linter.unusedVariables false
set_option linter.unusedSimpArgs false
namespace Go.Proofs.Ytiboiociaedocaa.Leb
open Go.RowKit Go.Proofs.YtiboiociaedocaaW.PrintWords Go.Proofs.Ytiboiociaedocaa.Byt Go.Proofs.Ytiboiociaedocaa.Mem Go.Proofs.Ytiboiociaedocaa.Chk Go.Proofs.Ytiboiociaedocaa.Opn
theorem rd1_lt : ∀ {bs : List Int} {n : Nat} {r : List Int}, rd1 bs = some (n, r) → r.length < bs.length
  | [], n, r, h => by simp [rd1] at h
  | b :: l, n, r, h => by
    by_cases h1 : 128 ≤ b
    · rw [rd1_big h1] at h
      cases hq : rd1 l with
      | none => rw [hq] at h; simp at h
      | some p =>
        obtain ⟨m, q⟩ := p
        rw [hq] at h
        simp only at h
        have ih := rd1_lt hq
        split at h
        · simp at h
        · injection h with h
          injection h with h2 h3
          subst h3
          rw [List.length_cons]
          omega
    · rw [rd1_small (by omega)] at h
      injection h with h
      injection h with h2 h3
      subst h3
      simp
theorem rdT_lt {bs : List Int} {s : ByteArray} {q : List Int} (h : rdT bs = some (s, q)) : q.length < bs.length := by
  unfold rdT at h
  split at h
  · rename_i n r hr
    have := rd1_lt hr
    split at h
    · injection h with h
      injection h with h1 h2
      subst h2
      rw [List.length_drop]
      omega
    · simp at h
  · simp at h
/-- What Split takes, and how many bytes it has. -/
def splU (bs : List Int) : List UpdT × Nat :=
  match h : rdT bs with
  | none => ([], 0)
  | some (s, q) => match decU (bytesOf s) with
    | none => ([], 0)
    | some u => (u :: (splU q).1, (bs.length - q.length) + (splU q).2)
termination_by bs.length
decreasing_by all_goals exact rdT_lt h
theorem splU_none {bs : List Int} (h : rdT bs = none) : splU bs = ([], 0) := by
  rw [splU]
  split
  · rfl
  · rename_i h2
    rw [h] at h2
    cases h2
theorem splU_bad {bs : List Int} {s : ByteArray} {q : List Int} (h : rdT bs = some (s, q)) (hd : decU (bytesOf s) = none) : splU bs = ([], 0) := by
  rw [splU]
  split
  · rfl
  · rename_i s2 q2 h2
    rw [h] at h2
    injection h2 with h2
    injection h2 with h3 h4
    subst h3 h4
    rw [hd]
theorem splU_some {bs : List Int} {s : ByteArray} {q : List Int} {u : UpdT} (h : rdT bs = some (s, q)) (hd : decU (bytesOf s) = some u) : splU bs = (u :: (splU q).1, (bs.length - q.length) + (splU q).2) := by
  rw [splU]
  split
  · rename_i h2
    rw [h] at h2
    cases h2
  · rename_i s2 q2 h2
    rw [h] at h2
    injection h2 with h2
    injection h2 with h3 h4
    subst h3 h4
    rw [hd]
/-- Where Split stands. -/
structure SplGo (bs : List Int) (p : Nat) (acc : List UpdT) : Prop where
  le : p ≤ bs.length
  n : acc.length ≤ p
  eq : splU bs = (acc ++ (splU (bs.drop p)).1, p + (splU (bs.drop p)).2)
theorem SplGo.start (bs : List Int) : SplGo bs 0 [] := ⟨Nat.zero_le _, Nat.le_refl _, by simp⟩
theorem SplGo.none_ {bs : List Int} {p : Nat} {acc : List UpdT} (h : SplGo bs p acc) (hd : rdT (bs.drop p) = none) : splU bs = (acc, p) := by
  rw [h.eq, splU_none hd]
  simp
theorem SplGo.bad {bs : List Int} {p : Nat} {acc : List UpdT} (h : SplGo bs p acc) {s : ByteArray} {q : List Int} (hd : rdT (bs.drop p) = some (s, q)) (hu : decU (bytesOf s) = none) : splU bs = (acc, p) := by
  rw [h.eq, splU_bad hd hu]
  simp
theorem SplGo.step {bs : List Int} {p p2 : Nat} {acc : List UpdT} (h : SplGo bs p acc) {s : ByteArray} {q : List Int} {u : UpdT} (hd : rdT (bs.drop p) = some (s, q)) (hu : decU (bytesOf s) = some u) (hp : p2 ≤ bs.length) (hq : bs.drop p2 = q) : SplGo bs p2 (acc ++ [u]) ∧ p < p2 := by
  have h1 := rdT_lt hd
  have h2 := congrArg List.length hq
  rw [List.length_drop] at h1 h2
  have := h.le
  have hn := h.n
  refine ⟨⟨hp, by rw [List.length_append, List.length_singleton]; omega, ?_⟩, by omega⟩
  rw [h.eq, splU_some hd hu, hq, List.length_drop]
  simp only [List.append_assoc, List.singleton_append, Prod.mk.injEq, true_and]
  omega
theorem splU_le (bs : List Int) : (splU bs).2 ≤ bs.length ∧ (splU bs).1.length ≤ bs.length := by
  induction h : bs.length using Nat.strongRecOn generalizing bs with
  | ind m ih =>
    cases hd : rdT bs with
    | none => rw [splU_none hd]; simp
    | some x =>
      obtain ⟨s, q⟩ := x
      cases hu : decU (bytesOf s) with
      | none => rw [splU_bad hd hu]; simp
      | some u =>
        have h1 := rdT_lt hd
        have := ih q.length (by omega) q rfl
        rw [splU_some hd hu]
        simp only [List.length_cons]
        omega
end Go.Proofs.Ytiboiociaedocaa.Leb
