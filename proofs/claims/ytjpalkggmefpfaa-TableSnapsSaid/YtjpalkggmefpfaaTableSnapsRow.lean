/- The row of TableSnaps: its arguments are opened by kinds, the walk is its own text's. -/
import Derived.Test.YtjpalkggmefpfaaTableSnaps
import Derived.Test.YtjpalkggmefpfaaOpenInner
import Derived.Test.YtjpalkggmefpfaaOpen
import Derived.Test.YtjpalkggmefpfaaOpenLen
import Derived.WalkKit
import Derived.ProofKit
import Derived.OpenShut
import Derived.ShutString
import Derived.ChangeOld
import Derived.Below
import Derived.SizedLaws
import Derived.Carry
namespace Go.Proofs.Ytjpalkggmefpfaa.tableSnaps
open Go.ChangeShapes Go.WideShapes Go.ChangeAt Go.RowKit Go.Proofs.Ytjpalkggmefpfaa.Opn
open Go.ChangeMaps (open_string shut_string)
set_option linter.unusedVariables false
set_option linter.unusedSimpArgs false
theorem own : ownKnob Try.prog.godebug = none := by kernel_rfl
theorem laidOut : laidOutB Try.prog = true := by kernel_rfl
set_option maxRecDepth 100000 in
theorem lifted (os : Os) (started : os.Started) (H : Type) (enc : TypeId × Value → H) :
    ReturnsInHanded {} Try.checked os 9 .any (Rows.tableSnapsSpec.pre6 enc Try.prog Try.f9 Rows.tableSnapsRow.domain false) (Rows.tableSnapsSpec.post enc Try.prog Try.f9 false true false false) := by
  refine returnsInHanded_of_change_sized (C := Try.checked) own started (by kernel_rfl) Try.func9
    (ChangeSpec.witness6 (enc := enc) (C := Try.checked) false ⟨#[], #[.slice none 0 0, .slice none 0 0, .string .empty], []⟩ 8 (by kernel_rfl) (by kernel_rfl) (by kernel_rfl) (by kernel_rfl)) ?_
  intro W base args ds gs before hval0 hW hcnd hsz0 _
  have hsz : (DataW.weightsEach Try.prog (Try.f9.params.toList ++ Rows.tableSnapsSpec.plain.varTypes Try.prog) (ds ++ gs)).all (· ≤ reachBytes) = true := hsz0
  have hval : ∀ (j : Nat) t v, Try.f9.params[j]? = some t → args[j]? = some v → Value.okWide Try.prog W .any base t v := hval0
  have hW' := hW
  obtain ⟨p, q, hA0, hV, rfl, hfz, hnd⟩ := hW
  have hA : DataW.TrodAll enc Try.prog W 0 (fun _ => true) true Try.f9.params.toList args.toList ds p := hA0
  rw [Try.params9] at hA hval hsz
  obtain ⟨v0, vs0, d0, ds0, p0, q0, hargs, rfl, rfl, h0, r0⟩ := trodAll_cons hA
  obtain ⟨v1, vs1, d1, ds1, p1, q1, rfl, rfl, rfl, h1, r1⟩ := trodAll_cons r0
  obtain ⟨v2, vs2, d2, ds2, p2, q2, rfl, rfl, rfl, h2, r2⟩ := trodAll_cons r1
  obtain ⟨rfl, rfl, rfl⟩ := trodAll_nil r2
  obtain rfl : args = #[v0, v1, v2] := by cases args; simp_all
  obtain ⟨rfl, rfl⟩ := trodVars_none hV
  have hlt : ∀ x ∈ p0 ++ p1 ++ p2, x.block < W.heap.size := fun x hx => hW'.lt x (by simpa using hx)
  have k0 := h0
  obtain ⟨before, A0, n0, rfl, l0, c0, z0, w0, m0⟩ := arg_slice Try.underlying43 (hval 0 43 v0 rfl rfl) h0 (by kernel_rfl) opTOp
  have s0 := arg_reach Try.underlying43 h0 hsz (j := 0) rfl rfl
  have k1 := h1
  obtain ⟨behind, A1, n1, rfl, l1, c1, z1, w1, m1⟩ := arg_slice Try.underlying43 (hval 1 43 v1 rfl rfl) h1 (by kernel_rfl) opTOp
  have s1 := arg_reach Try.underlying43 h1 hsz (j := 1) rfl rfl
  have k2 := h2
  obtain ⟨key, rfl, rfl, rfl, w2⟩ := open_string Try.underlying9 (hval 2 9 v2 rfl rfl) h2
  have i0 : ∀ s, s ∈ before → s.rows.length ≤ 3518437208780 := fun s hs => by
    obtain ⟨i, hi, hix⟩ := List.getElem_of_mem hs
    obtain ⟨ad, v, hAd, hv, _, hx⟩ := Tab.at_TOp c0 (i := i) (s := s) (by rw [List.getElem?_eq_getElem hi, hix])
    subst hAd
    obtain ⟨Av, cv, ev, hvv⟩ := hv
    cases ev
    have hc := hx 9 (by omega) (by omega)
    have hb := inner_reach (i := i) (jf := 6) Try.underlying43 Try.underlying47 rfl Try.underlying29 cellsRows (by rw [cellsTOp]; decide) h0 hsz (j := 0) rfl rfl hi (A' := Av) (n' := s.rows.length) (c' := cv) (by rw [cellsTOp]; show W.cell? ((ad.add (i * 11)).add 9) = _; rw [show (ad.add (i * 11)).add 9 = ⟨(ad.add (i * 11)).block, (ad.add (i * 11)).off + 9, none⟩ from rfl]; exact hc)
    have hr : Try.prog.bytesOf 25 = 40 := by kernel_rfl
    rw [hr] at hb
    omega
  have i1 : ∀ s, s ∈ behind → s.rows.length ≤ 3518437208780 := fun s hs => by
    obtain ⟨i, hi, hix⟩ := List.getElem_of_mem hs
    obtain ⟨ad, v, hAd, hv, _, hx⟩ := Tab.at_TOp c1 (i := i) (s := s) (by rw [List.getElem?_eq_getElem hi, hix])
    subst hAd
    obtain ⟨Av, cv, ev, hvv⟩ := hv
    cases ev
    have hc := hx 9 (by omega) (by omega)
    have hb := inner_reach (i := i) (jf := 6) Try.underlying43 Try.underlying47 rfl Try.underlying29 cellsRows (by rw [cellsTOp]; decide) h1 hsz (j := 1) rfl rfl hi (A' := Av) (n' := s.rows.length) (c' := cv) (by rw [cellsTOp]; show W.cell? ((ad.add (i * 11)).add 9) = _; rw [show (ad.add (i * 11)).add 9 = ⟨(ad.add (i * 11)).block, (ad.add (i * 11)).off + 9, none⟩ from rfl]; exact hc)
    have hr : Try.prog.bytesOf 25 = 40 := by kernel_rfl
    rw [hr] at hb
    omega
  refine (Walk.TableSnaps before A0 n0 behind A1 n1 key W l0 c0 z0 w0 s0 l1 c1 z1 w1 s1 w2 i0 i1).mono fun e W' ⟨he, bel⟩ => ?_
  subst he
  exact ⟨_, rfl, _, _, _, [], _, [], hW', trodAll_mk1 (shut_bool Try.underlying4 _), (trodAll_cons_mk (Below.trod laidOut (by kernel_rfl) (of_decide_eq_true (by kernel_rfl)) k0 bel (fun x hx => by first | (apply hlt; simp [hx]; done) | (simp at hx; done))) (trodAll_cons_mk (Below.trod laidOut (by kernel_rfl) (of_decide_eq_true (by kernel_rfl)) k1 bel (fun x hx => by first | (apply hlt; simp [hx]; done) | (simp at hx; done))) (trodAll_cons_mk (Below.trod laidOut (by kernel_rfl) (of_decide_eq_true (by kernel_rfl)) k2 bel (fun x hx => by first | (apply hlt; simp [hx]; done) | (simp at hx; done))) trodAll_mk0))), rfl, bel.frame _, fun h => by cases h⟩
theorem proved : Rows.TableSnapsSaid :=
  OpenClaim.holds_of_wide 9 Try.f9 rfl rfl rfl rfl rfl rfl rfl ⟨rfl, rfl, rfl, rfl, rfl⟩ rfl rfl rfl rfl rfl (by kernel_rfl) Try.func9 (by kernel_rfl)
    (of_decide_eq_true (by kernel_rfl)) (by unfold Func.isWrapper; first | (rw [if_pos (by decide +kernel)]; kernel_rfl) | (rw [if_neg (by decide +kernel)]; exact ⟨rfl, rfl⟩))
    (fun os started H enc _ => lifted os started H enc)
#print axioms proved
end Go.Proofs.Ytjpalkggmefpfaa.tableSnaps
namespace Go.Proofs.Ytjpalkggmefpfaa
theorem tableSnaps_holds : Rows.TableSnapsSaid := tableSnaps.proved
end Go.Proofs.Ytjpalkggmefpfaa
