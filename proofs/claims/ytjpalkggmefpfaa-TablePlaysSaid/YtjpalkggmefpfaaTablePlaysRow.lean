/- The row of TablePlays: its arguments are opened by kinds, the walk is its own text's. -/
import Derived.Test.YtjpalkggmefpfaaTablePlays
import Derived.Test.YtjpalkggmefpfaaOpenInner
import Derived.Test.YtjpalkggmefpfaaOpen
import Derived.Test.YtjpalkggmefpfaaOpenLen
import Derived.WalkKit
import Derived.ProofKit
import Derived.OpenShut
import Derived.ShutString
import Derived.ChangeOld
import Derived.Below
import Derived.SizedLaws
import Derived.Carry
namespace Go.Proofs.Ytjpalkggmefpfaa.tablePlays
open Go.ChangeShapes Go.WideShapes Go.ChangeAt Go.RowKit Go.Proofs.Ytjpalkggmefpfaa.Opn
open Go.ChangeMaps (open_string shut_string)
set_option linter.unusedVariables false
set_option linter.unusedSimpArgs false
theorem own : ownKnob Try.prog.godebug = none := by kernel_rfl
theorem laidOut : laidOutB Try.prog = true := by kernel_rfl
set_option maxRecDepth 100000 in
theorem lifted (os : Os) (started : os.Started) (H : Type) (enc : TypeId × Value → H) :
    ReturnsInHanded {} Try.checked os 10 .any (Rows.tablePlaysSpec.pre6 enc Try.prog Try.f10 Rows.tablePlaysRow.domain false) (Rows.tablePlaysSpec.post enc Try.prog Try.f10 false true false false) := by
  refine returnsInHanded_of_change_sized (C := Try.checked) own started (by kernel_rfl) Try.func10
    (ChangeSpec.witness6 (enc := enc) (C := Try.checked) false ⟨#[], #[.slice none 0 0], []⟩ 8 (by kernel_rfl) (by kernel_rfl) (by kernel_rfl) (by kernel_rfl)) ?_
  intro W base args ds gs before hval0 hW hcnd hsz0 _
  have hsz : (DataW.weightsEach Try.prog (Try.f10.params.toList ++ Rows.tablePlaysSpec.plain.varTypes Try.prog) (ds ++ gs)).all (· ≤ reachBytes) = true := hsz0
  have hval : ∀ (j : Nat) t v, Try.f10.params[j]? = some t → args[j]? = some v → Value.okWide Try.prog W .any base t v := hval0
  have hW' := hW
  obtain ⟨p, q, hA0, hV, rfl, hfz, hnd⟩ := hW
  have hA : DataW.TrodAll enc Try.prog W 0 (fun _ => true) true Try.f10.params.toList args.toList ds p := hA0
  rw [Try.params10] at hA hval hsz
  obtain ⟨v0, vs0, d0, ds0, p0, q0, hargs, rfl, rfl, h0, r0⟩ := trodAll_cons hA
  obtain ⟨rfl, rfl, rfl⟩ := trodAll_nil r0
  obtain rfl : args = #[v0] := by cases args; simp_all
  obtain ⟨rfl, rfl⟩ := trodVars_none hV
  have hlt : ∀ x ∈ p0, x.block < W.heap.size := fun x hx => hW'.lt x (by simpa using hx)
  have k0 := h0
  obtain ⟨script, A0, n0, rfl, l0, c0, z0, w0, m0⟩ := arg_slice Try.underlying43 (hval 0 43 v0 rfl rfl) h0 (by kernel_rfl) opTOp
  have s0 := arg_reach Try.underlying43 h0 hsz (j := 0) rfl rfl
  have i0 : ∀ s, s ∈ script → s.rows.length ≤ 3518437208780 := fun s hs => by
    obtain ⟨i, hi, hix⟩ := List.getElem_of_mem hs
    obtain ⟨ad, v, hAd, hv, _, hx⟩ := Tab.at_TOp c0 (i := i) (s := s) (by rw [List.getElem?_eq_getElem hi, hix])
    subst hAd
    obtain ⟨Av, cv, ev, hvv⟩ := hv
    cases ev
    have hc := hx 9 (by omega) (by omega)
    have hb := inner_reach (i := i) (jf := 6) Try.underlying43 Try.underlying47 rfl Try.underlying29 cellsRows (by rw [cellsTOp]; decide) h0 hsz (j := 0) rfl rfl hi (A' := Av) (n' := s.rows.length) (c' := cv) (by rw [cellsTOp]; show W.cell? ((ad.add (i * 11)).add 9) = _; rw [show (ad.add (i * 11)).add 9 = ⟨(ad.add (i * 11)).block, (ad.add (i * 11)).off + 9, none⟩ from rfl]; exact hc)
    have hr : Try.prog.bytesOf 25 = 40 := by kernel_rfl
    rw [hr] at hb
    omega
  refine (Walk.TablePlays script A0 n0 W l0 c0 z0 w0 s0 i0).mono fun e W' ⟨he, bel⟩ => ?_
  subst he
  exact ⟨_, rfl, _, _, _, [], _, [], hW', trodAll_mk1 (shut_bool Try.underlying4 _), (trodAll_cons_mk (Below.trod laidOut (by kernel_rfl) (of_decide_eq_true (by kernel_rfl)) k0 bel (fun x hx => by first | (apply hlt; simp [hx]; done) | (simp at hx; done))) trodAll_mk0), rfl, bel.frame _, fun h => by cases h⟩
theorem proved : Rows.TablePlaysSaid :=
  OpenClaim.holds_of_wide 10 Try.f10 rfl rfl rfl rfl rfl rfl rfl ⟨rfl, rfl, rfl, rfl, rfl⟩ rfl rfl rfl rfl rfl (by kernel_rfl) Try.func10 (by kernel_rfl)
    (of_decide_eq_true (by kernel_rfl)) (by unfold Func.isWrapper; first | (rw [if_pos (by decide +kernel)]; kernel_rfl) | (rw [if_neg (by decide +kernel)]; exact ⟨rfl, rfl⟩))
    (fun os started H enc _ => lifted os started H enc)
#print axioms proved
end Go.Proofs.Ytjpalkggmefpfaa.tablePlays
namespace Go.Proofs.Ytjpalkggmefpfaa
theorem tablePlays_holds : Rows.TablePlaysSaid := tablePlays.proved
end Go.Proofs.Ytjpalkggmefpfaa
