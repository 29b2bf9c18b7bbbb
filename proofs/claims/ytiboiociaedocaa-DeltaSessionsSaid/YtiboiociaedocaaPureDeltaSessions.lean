/- DeltaSessions: for every client number the program's session key and error are the document's, and client 1's key is the three bytes 0, 115, 1. No condition. -/
import Derived.Test.YtiboiociaedocaaPDeltaSessionsx1
namespace Go.Proofs.Ytiboiociaedocaa.Pure
open Go.RowKit Go.Proofs.Ytiboiociaedocaa.PDeltaSessions Go.Proofs.YtiboiociaedocaaW.PrintWords Go.Proofs.YtiboiociaedocaaW.PrintLast

theorem size_two (x : Int) : 2 + (strOfNums [x]).size ≤ 9223372036854775807 := by
  show 2 + 1 ≤ 9223372036854775807
  omega

theorem one_ok : delta_Session.f 1 = some ((⟨#[0, 115]⟩ : ByteArray) ++ strOfNums [1], 0) := by
  unfold delta_Session.f delta_within.f
  rw [if_pos (by omega)]
  simp only [Option.bind_some]
  rw [if_pos (by decide), if_pos (size_two _)]
  rfl

theorem key_list (x : Int) : ((⟨#[0, 115]⟩ : ByteArray) ++ strOfNums [x]).toList = (strOfNums [0, 115, x]).toList := by
  rw [ByteArray.toList_eq, ByteArray.toList_eq, ByteArray.toList_data_append]
  rfl

theorem one_list : (strOfNums [0, 115, 1]).toList = ([0, 115, 1] : List UInt8) := by
  rw [ByteArray.toList_eq]
  rfl

theorem DeltaSessions : hawserlaw08_DeltaSessions.Pure := by
  intro a0 _
  unfold hawserlaw08_DeltaSessions.f
  rw [one_ok]
  have no : ∀ h : ¬ (1 ≤ a0 ∧ a0 ≤ 16), delta_Session.f a0 = some ((⟨#[]⟩ : ByteArray), 83) ∧ hawserref08_Session.f a0 = some ((⟨#[]⟩ : ByteArray), 83) := by
    intro h
    constructor
    · unfold delta_Session.f delta_within.f
      by_cases h1 : a0 ≥ 1
      · rw [if_pos h1, decide_eq_false (by omega)]; rfl
      · rw [if_neg h1]; rfl
    · unfold hawserref08_Session.f
      by_cases h1 : a0 < 1
      · rw [if_pos h1]
      · rw [if_neg h1, if_pos (by omega)]
  by_cases h : 1 ≤ a0 ∧ a0 ≤ 16
  · have e1 : delta_Session.f a0 = some ((⟨#[0, 115]⟩ : ByteArray) ++ strOfNums [a0 % 256], 0) := by
      unfold delta_Session.f delta_within.f
      rw [if_pos (by omega), decide_eq_true (by omega)]
      simp only [Option.bind_some, if_true]
      rw [if_pos (size_two _)]
    have e2 : hawserref08_Session.f a0 = some (strOfNums [0, 115, a0 % 256], 0) := by
      unfold hawserref08_Session.f; rw [if_neg (by omega), if_neg (by omega)]
    rw [e1, e2]
    simp only [Option.bind_some, key_list, if_true, hawserlaw08_num.f, one_list]
    rfl
  · rw [(no h).1, (no h).2]
    simp only [Option.bind_some, key_list, if_true, hawserlaw08_num.f, one_list]
    rfl
end Go.Proofs.Ytiboiociaedocaa.Pure
