/- The row of TableTells: its arguments are opened by kinds, the walk is its own text's. -/
import Derived.Test.YtjpalkggmefpfaaTableTells
import Derived.Test.YtjpalkggmefpfaaOpenInner
import Derived.Test.YtjpalkggmefpfaaOpen
import Derived.Test.YtjpalkggmefpfaaOpenLen
import Derived.WalkKit
import Derived.ProofKit
import Derived.OpenShut
import Derived.ShutString
import Derived.ChangeOld
import Derived.Below
import Derived.SizedLaws
import Derived.Carry
namespace Go.Proofs.Ytjpalkggmefpfaa.tableTells
open Go.ChangeShapes Go.WideShapes Go.ChangeAt Go.RowKit Go.Proofs.Ytjpalkggmefpfaa.Opn
open Go.ChangeMaps (open_string shut_string)
set_option linter.unusedVariables false
set_option linter.unusedSimpArgs false
theorem own : ownKnob Try.prog.godebug = none := by kernel_rfl
theorem laidOut : laidOutB Try.prog = true := by kernel_rfl
set_option maxRecDepth 100000 in
theorem lifted (os : Os) (started : os.Started) (H : Type) (enc : TypeId × Value → H) :
    ReturnsInHanded {} Try.checked os 7 .any (Rows.tableTellsSpec.pre6 enc Try.prog Try.f7 Rows.tableTellsRow.domain false) (Rows.tableTellsSpec.post enc Try.prog Try.f7 false true false false) := by
  refine returnsInHanded_of_change_sized (C := Try.checked) own started (by kernel_rfl) Try.func7
    (ChangeSpec.witness6 (enc := enc) (C := Try.checked) false ⟨#[], #[.slice none 0 0, .agg #[.string .empty, .string .empty], .slice none 0 0], []⟩ 8 (by kernel_rfl) (by kernel_rfl) (by kernel_rfl) (by kernel_rfl)) ?_
  intro W base args ds gs before hval0 hW hcnd hsz0 _
  have hsz : (DataW.weightsEach Try.prog (Try.f7.params.toList ++ Rows.tableTellsSpec.plain.varTypes Try.prog) (ds ++ gs)).all (· ≤ reachBytes) = true := hsz0
  have hval : ∀ (j : Nat) t v, Try.f7.params[j]? = some t → args[j]? = some v → Value.okWide Try.prog W .any base t v := hval0
  have hW' := hW
  obtain ⟨p, q, hA0, hV, rfl, hfz, hnd⟩ := hW
  have hA : DataW.TrodAll enc Try.prog W 0 (fun _ => true) true Try.f7.params.toList args.toList ds p := hA0
  rw [Try.params7] at hA hval hsz
  obtain ⟨v0, vs0, d0, ds0, p0, q0, hargs, rfl, rfl, h0, r0⟩ := trodAll_cons hA
  obtain ⟨v1, vs1, d1, ds1, p1, q1, rfl, rfl, rfl, h1, r1⟩ := trodAll_cons r0
  obtain ⟨v2, vs2, d2, ds2, p2, q2, rfl, rfl, rfl, h2, r2⟩ := trodAll_cons r1
  obtain ⟨rfl, rfl, rfl⟩ := trodAll_nil r2
  obtain rfl : args = #[v0, v1, v2] := by cases args; simp_all
  obtain ⟨rfl, rfl⟩ := trodVars_none hV
  have hlt : ∀ x ∈ p0 ++ p1 ++ p2, x.block < W.heap.size := fun x hx => hW'.lt x (by simpa using hx)
  have k0 := h0
  obtain ⟨rows, A0, n0, rfl, l0, c0, z0, w0, m0⟩ := arg_slice Try.underlying29 (hval 0 29 v0 rfl rfl) h0 (by kernel_rfl) opR
  have s0 := arg_reach Try.underlying29 h0 hsz (j := 0) rfl rfl
  have k1 := h1
  obtain ⟨r, cs1, rfl, c1, w1, m1⟩ := arg_struct Try.underlying39 (hval 1 39 v1 rfl rfl) h1 opRange
  have k2 := h2
  obtain ⟨script, A2, n2, rfl, l2, c2, z2, w2, m2⟩ := arg_slice Try.underlying43 (hval 2 43 v2 rfl rfl) h2 (by kernel_rfl) opTOp
  have s2 := arg_reach Try.underlying43 h2 hsz (j := 2) rfl rfl
  have i2 : ∀ s, s ∈ script → s.rows.length ≤ 3518437208780 := fun s hs => by
    obtain ⟨i, hi, hix⟩ := List.getElem_of_mem hs
    obtain ⟨ad, v, hAd, hv, _, hx⟩ := Tab.at_TOp c2 (i := i) (s := s) (by rw [List.getElem?_eq_getElem hi, hix])
    subst hAd
    obtain ⟨Av, cv, ev, hvv⟩ := hv
    cases ev
    have hc := hx 9 (by omega) (by omega)
    have hb := inner_reach (i := i) (jf := 6) Try.underlying43 Try.underlying47 rfl Try.underlying29 cellsRows (by rw [cellsTOp]; decide) h2 hsz (j := 2) rfl rfl hi (A' := Av) (n' := s.rows.length) (c' := cv) (by rw [cellsTOp]; show W.cell? ((ad.add (i * 11)).add 9) = _; rw [show (ad.add (i * 11)).add 9 = ⟨(ad.add (i * 11)).block, (ad.add (i * 11)).off + 9, none⟩ from rfl]; exact hc)
    have hr : Try.prog.bytesOf 25 = 40 := by kernel_rfl
    rw [hr] at hb
    omega
  refine (Walk.TableTells rows A0 n0 r cs1 script A2 n2 W l0 c0 z0 w0 s0 c1 w1 l2 c2 z2 w2 s2 i2).mono fun e W' ⟨he, bel⟩ => ?_
  subst he
  exact ⟨_, rfl, _, _, _, [], _, [], hW', trodAll_mk1 (shut_bool Try.underlying4 _), (trodAll_cons_mk (Below.trod laidOut (by kernel_rfl) (of_decide_eq_true (by kernel_rfl)) k0 bel (fun x hx => by first | (apply hlt; simp [hx]; done) | (simp at hx; done))) (trodAll_cons_mk (Below.trod laidOut (by kernel_rfl) (of_decide_eq_true (by kernel_rfl)) k1 bel (fun x hx => by first | (apply hlt; simp [hx]; done) | (simp at hx; done))) (trodAll_cons_mk (Below.trod laidOut (by kernel_rfl) (of_decide_eq_true (by kernel_rfl)) k2 bel (fun x hx => by first | (apply hlt; simp [hx]; done) | (simp at hx; done))) trodAll_mk0))), rfl, bel.frame _, fun h => by cases h⟩
theorem proved : Rows.TableTellsSaid :=
  OpenClaim.holds_of_wide 7 Try.f7 rfl rfl rfl rfl rfl rfl rfl ⟨rfl, rfl, rfl, rfl, rfl⟩ rfl rfl rfl rfl rfl (by kernel_rfl) Try.func7 (by kernel_rfl)
    (of_decide_eq_true (by kernel_rfl)) (by unfold Func.isWrapper; first | (rw [if_pos (by decide +kernel)]; kernel_rfl) | (rw [if_neg (by decide +kernel)]; exact ⟨rfl, rfl⟩))
    (fun os started H enc _ => lifted os started H enc)
#print axioms proved
end Go.Proofs.Ytjpalkggmefpfaa.tableTells
namespace Go.Proofs.Ytjpalkggmefpfaa
theorem tableTells_holds : Rows.TableTellsSaid := tableTells.proved
end Go.Proofs.Ytjpalkggmefpfaa
