/- A flight goes out of the row; two change places. -/
import Derived.Test.YtpjbgcpieijeaaaNetWas
import Derived.Test.YtpjbgcpieijeaaaWMore
set_option linter.unusedVariables false
set_option linter.unusedSimpArgs false
namespace Go.Proofs.Ytpjbgcpieijeaaa.Net
open Go.RowKit Go.Proofs.Ytpjbgcpieijeaaa.Mem Go.Proofs.YtpjbgcpieijeaaaW.PrintWords Go.Proofs.Ytpjbgcpieijeaaa.Byt Go.Proofs.Ytpjbgcpieijeaaa.Opn
section
variable {w w1 : World} {base g m : Nat} {O O' : Nat → Prop} {nd cl : Int} {v : Value} {fls : List Fl} {sent : List LtT}
theorem add_zero (a : Addr) : a.add 0 = a := by unfold Addr.add; rw [if_pos rfl]
/-- way[:i:i] -/
theorem cut_max (A : Option Addr) (n c i : Nat) (hi : i ≤ c) (W : World) : (Instr.slice tFls (.slice A n c) none (some (.int .i64 (i : Int))) (some (.int .i64 (i : Int)))).run Try.prog W = .ok (.slice A i i) W := by
  obtain ⟨i0, hi0, hzz⟩ := Option.map_eq_some_iff.1 infoFl
  have hA : A.map (fun a => a.add 0) = A := by cases A <;> simp [add_zero]
  simp [Instr.slice, run_underlying Try.underlying68, Instr.sliceBounds, run_sliceBound, hi, sizeOf, typeInfo, hi0, Result.andThen, hA]
theorem WayR.trim (h : WayR w base v fls) {ad : Addr} {n c : Nat} (hv : v = .slice (some ad) n c) {i : Nat} (hi : i ≤ fls.length) : WayR w base (.slice (some ad) i i) (fls.take i) := by
  have hl : (fls.take i).length = i := by rw [List.length_take]; omega
  rcases h.blk with ⟨rfl, _⟩ | ⟨b, c', cur, rfl, h1, h2, h3, h4, h5, h6⟩
  · cases hv
  · cases hv
    refine .inr ⟨b, cur, by rw [hl], h1, h2, by rw [hl]; omega, by rw [hl]; omega, ?_⟩
    rw [hl, cellsOf_take, ← h6, List.take_take, Nat.min_eq_left (by omega)]
theorem run_app_zero (W : World) (ty : TypeId) (ad : Addr) (i c' : Nat) (A' : Option Addr) : (Builtin.append_ #[tFls, tFls] ty #[.slice (some ad) i i, .slice A' 0 c']).run Try.prog W = .ok (.slice (some ad) i i) W := by
  obtain ⟨i0, hi0, hzz⟩ := Option.map_eq_some_iff.1 infoFl
  have hf : (Builtin.firstCells i0.size 0 (.slice A' 0 c')).run Try.prog W = .ok #[] W := by
    cases A' with
    | none => simp [Builtin.firstCells]
    | some a =>
      have := run_firstCells_some (P := Try.prog) W i0.size 0 a 0 c' [] (by simp) (fun j u h => by simp at h)
      simpa using this
  simp [Builtin.append_, run_underlying Try.underlying68, sizeOf, typeInfo, hi0, Builtin.lenOf, hf, Result.andThen, storeCells]
theorem eraseIdx_at {i j : Nat} {f : Fl} (h : (fls.eraseIdx i)[j]? = some f) : fls[if j < i then j else j + 1]? = some f := by
  rw [List.getElem?_eraseIdx] at h
  by_cases hj : j < i
  · rw [if_pos hj] at h ⊢
    exact h
  · rw [if_neg hj] at h ⊢
    exact h
theorem Apart.sub (h : Apart fls) {fls' : List Fl} (φ : Nat → Nat) (hφ : ∀ (j : Nat) (f : Fl), fls'[j]? = some f → fls[φ j]? = some f) (hi : ∀ a b, φ a = φ b → a = b) : Apart fls' := fun a b fa fb ha hb k hk => by
  have h1 := h (φ a) (φ b) fa fb (hφ a fa ha) (hφ b fb hb) k hk
  exact ⟨h1.1, fun hab => h1.2 (fun e => hab (hi a b e))⟩
theorem Apart.erase (h : Apart fls) (i : Nat) : Apart (fls.eraseIdx i) := h.sub (fun j => if j < i then j else j + 1) (fun j f hj => eraseIdx_at hj) (fun a b e => by
  by_cases h1 : a < i <;> by_cases h2 : b < i <;> simp only [h1, h2, if_true, if_false] at e <;> omega)
theorem Apart.take (h : Apart fls) (i : Nat) : Apart (fls.take i) := h.sub id (fun j f hj => by
  rw [List.getElem?_take] at hj
  split at hj
  · exact hj
  · cases hj) (fun a b e => e)
/-- The row without a flight: two cuts, one append. -/
theorem take_step (W : World) (h : WayR W base v fls) {ad : Addr} {c i : Nat} (hv : v = .slice (some ad) fls.length c) (hc : fls.length ≤ c) (hi : i < fls.length) (hone : ∀ f ∈ fls, f.one) (hbase : base ≤ W.heap.size) (hl : fls.length ≤ 2199023255552) :
    ∃ (A2 : Option Addr) (n2 c2 : Nat) (v1 : Value) (w1 : World), (∀ u : World, (Instr.slice tFls (.slice (some ad) fls.length c) (some (.int .i64 ((i + 1 : Nat) : Int))) none none).run Try.prog u = .ok (.slice A2 n2 c2) u) ∧
      (Builtin.append_ #[tFls, tFls] tFls #[.slice (some ad) i i, .slice A2 n2 c2]).run Try.prog W = .ok v1 w1 ∧ WayR w1 base v1 (fls.eraseIdx i) ∧ W.grownBy w1 v.ownBlock ∧ (v1.ownBlock = v.ownBlock ∨ v1.ownBlock = some W.heap.size) := by
  obtain ⟨i0, hi0, hzz⟩ := Option.map_eq_some_iff.1 infoFl
  simp only [Prod.mk.injEq] at hzz
  have hcf := cut_from tFls tFl .i64 Try.underlying68 hi0 4 hzz.2.1 (some ad) fls.length c ((i + 1 : Nat) : Int) (by omega) (by omega)
  rw [Int.toNat_natCast] at hcf
  have htr := h.trim hv (i := i) (by omega)
  have hown : v.ownBlock = some ad.block := by rw [hv]; rfl
  by_cases hm : fls.length - (i + 1) = 0
  · refine ⟨_, _, _, _, _, hcf, by rw [hm]; exact run_app_zero W tFls ad i _ _, ?_, ⟨rfl, rfl, rfl, Nat.le_refl _, fun _ _ _ => rfl⟩, .inl (by rw [hown]; rfl)⟩
    have he : fls.eraseIdx i = fls.take i := by rw [List.eraseIdx_eq_take_drop_succ, List.drop_of_length_le (by omega), List.append_nil]
    rw [he]
    exact htr
  · have hcn : c ≠ i + 1 := by omega
    have hlt : (fls.take i).length = i := by rw [List.length_take]; omega
    have hld : (fls.drop (i + 1)).length = fls.length - (i + 1) := List.length_drop
    have hy : ∀ j u, (cellsOf (fls.drop (i + 1)))[j]? = some u → W.cell? ((ad.add ((i + 1) * 4)).add j) = some u := fun j u hj => by
      rcases h.blk with ⟨e, _⟩ | ⟨b, c', cur, e, h1, h2, h3, h4, h5, h6⟩
      · rw [hv] at e; cases e
      · rw [hv] at e
        cases e
        rw [Go.Deep.add_add, add_plain, blkc h2]
        rw [cellsOf_drop _ _ (by omega), List.getElem?_drop] at hj
        have hjl := (List.getElem?_eq_some_iff.1 hj).1
        rw [cellsOf_len] at hjl
        rw [← Array.getElem?_toList, ← List.getElem?_take_of_lt (show (i + 1) * 4 + j < fls.length * 4 by omega), h6]
        exact hj
    obtain ⟨v1, w1, hrun, hgo, hgr, hat⟩ := way_app W tFls htr (ys := fls.drop (i + 1)) (ad.add ((i + 1) * 4)) (fls.length - (i + 1)) (c - (i + 1)) hld (by omega) hy (fun f hf => hone f (List.mem_of_mem_drop hf)) hbase (by rw [hlt]; omega)
    refine ⟨_, _, _, v1, w1, hcf, ?_, .inl ?_, ?_, ?_⟩
    · rw [if_neg hcn]
      exact hrun
    · rw [List.eraseIdx_eq_take_drop_succ]
      exact hgo
    · rw [hown]; exact hgr
    · rw [hown]; exact hat
end
end Go.Proofs.Ytpjbgcpieijeaaa.Net
