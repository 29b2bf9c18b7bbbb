/- How long an inner slice is that the reading let in. -/
import Derived.Test.YtjpalkggmefpfaaOpenLen
import Derived.SizedLaws
set_option linter.unusedVariables false
set_option linter.unusedSimpArgs false
namespace Go.Proofs.Ytjpalkggmefpfaa.Opn
open Go.RowKit Go.ChangeShapes Go.WideShapes Go.Deep Go.Proofs.YtjpalkggmefpfaaW.PrintWords
theorem weights_all {H : Type} {P : Program} {e : TypeId} {k : Nat} : ∀ {ds : List (DataW H)} {d : DataW H}, d ∈ ds → k ∈ d.weights P e → k ∈ DataW.weightsAll P e ds
  | _ :: _, d, hd, hk => by
    unfold DataW.weightsAll
    rcases List.mem_cons.1 hd with rfl | hd
    · exact List.mem_append_left _ hk
    · exact List.mem_append_right _ (weights_all hd hk)
theorem inner_reach {H : Type} {enc : TypeId × Value → H} {P : Program} {w : World} {base : Nat} {spare : Nat → Bool} {held : Bool} {t e er : TypeId} {fs : Array Field} {f : Field} {jf : Nat} {ad : Addr} {n c : Nat} {x : DataW H} {q : List MemPlace} {ts : List TypeId} {ds : List (DataW H)}
    (ht : P.underlying t = some (.slice e)) (he : P.underlying e = some (.struct fs)) (hf : fs[jf]? = some f) (hfs : P.underlying f.type = some (.slice er)) (hc1 : P.cellsOf f.type = 1) (hof : f.offset < P.cellsOf e)
    (h : DataW.Trod enc P w base spare held t (.slice (some ad) n c) x q) (hsz : (DataW.weightsEach P ts ds).all (· ≤ reachBytes) = true) {j : Nat} (hj : ts[j]? = some t) (hd : ds[j]? = some x) {i : Nat} (hi : i < n) {A' : Option Addr} {n' c' : Nat}
    (hcell : w.cell? ((ad.add (i * P.cellsOf e)).add f.offset) = some (.slice A' n' c')) : n' * P.bytesOf er ≤ 140737488351232 := by
  obtain ⟨fuel, hfu⟩ := h
  rcases open_slice ht hfu with ⟨he0, _⟩ | ⟨a, len, cap, m, k, D, Pl, he1, hb, hl, hm, hmm, hx, hi2⟩
  · simp [Value.cells] at he0
  · simp [Value.cells] at he1
    obtain ⟨rfl, rfl, rfl⟩ := he1
    simp only [Prod.mk.injEq] at hx
    obtain ⟨rfl, _⟩ := hx
    have him : i < m := by rw [hmm]; split <;> omega
    obtain ⟨cs', hcs, htr⟩ := hi2 i him
    obtain ⟨xs, k2, _, hxx, hlen, hxl, hfl⟩ := DataW.trod_struct he htr
    simp only [Prod.mk.injEq] at hxx
    have h3 := hfl jf f hf
    have hjs : jf < xs.length := by rw [hxl]; exact (Array.getElem?_eq_some_iff.1 hf).1
    rw [List.getElem?_eq_getElem hjs] at h3
    have h4 : cs'[f.offset]? = some (.slice A' n' c') := by
      have h7 := World.cells?_some hcs
      rw [← hcell]
      exact (h7.2.2 f.offset hof).symm
    have h5 : (cs'.drop f.offset).take (P.cellsOf f.type) = [.slice A' n' c'] := by
      obtain ⟨h8, h9⟩ := List.getElem?_eq_some_iff.1 h4
      rw [hc1, List.drop_eq_getElem_cons h8, h9]
      rfl
    rw [h5] at h3
    have h6 : DataW.Trod enc P w base spare held f.type (.slice A' n' c') (xs[jf]).1 (xs[jf]).2 := ⟨k2, by simpa [Value.cells] using h3⟩
    rcases arg_len hfs h6 with rfl | ⟨el, sp, hx1, rfl⟩
    · simp
    · have h10 : (el.length + sp.length) * P.bytesOf er ∈ (xs[jf]).1.weights P f.type := by rw [hx1]; simp [DataW.weights, hfs]
      have h11 : (el.length + sp.length) * P.bytesOf er ∈ (D i).weights P e := by
        rw [hxx.1]
        unfold DataW.weights
        rw [he]
        exact DataW.weights_mem_each (j := jf) (by simpa using congrArg (Option.map (·.type)) hf) (by simp [hjs]) _ h10
      have h12 : (el.length + sp.length) * P.bytesOf er ∈ DataW.weightsEach P ts ds := by
        refine DataW.weights_mem_each hj hd _ ?_
        unfold DataW.weights
        rw [ht]
        refine List.mem_cons_of_mem _ (List.mem_append_left _ (weights_all (d := D i) ?_ h11))
        exact List.mem_map.2 ⟨i, List.mem_range.2 hi, rfl⟩
      have h13 := List.all_eq_true.1 hsz _ h12
      have h14 : el.length * P.bytesOf er ≤ (el.length + sp.length) * P.bytesOf er := Nat.mul_le_mul_right _ (by omega)
      have h15 : reachBytes = 140737488351232 := by decide
      simp at h13
      omega
end Go.Proofs.Ytjpalkggmefpfaa.Opn
