/- A net and some packets beside it, through any step; bits turned and turned back. -/
import Derived.Test.YtpjbgcpieijeaaaNetFilled
set_option linter.unusedVariables false
set_option linter.unusedSimpArgs false
namespace Go.Proofs.Ytpjbgcpieijeaaa.Net
open Go.RowKit Go.Proofs.Ytpjbgcpieijeaaa.Mem Go.Proofs.YtpjbgcpieijeaaaW.PrintWords Go.Proofs.Ytpjbgcpieijeaaa.Byt Go.Proofs.Ytpjbgcpieijeaaa.Opn
/-- A net, and a row of packets that is none of its memory. -/
structure HoldR (w : World) (base : Nat) (O : Nat → Prop) (g m : Nat) (v : Value) (fls : List Fl) (sv : Value) (ps : List Pv) (sent : List LtT) : Prop where
  net : NetR w base O g m 4 4 v fls sent
  some_ : SomeR w base sv ps
  so : ∀ k, sv.ownBlock = some k → ¬ O k
  pv : ∀ p ∈ ps, PvR w (fun k => O k ∨ sv.ownBlock = some k) p
  lt : ∀ k, O k → k < w.heap.size
section
variable {w w1 : World} {base g m : Nat} {O O' : Nat → Prop} {v v' sv : Value} {fls fls' : List Fl} {ps : List Pv} {qs : List PkT} {sent sent' : List LtT}
theorem FillR.hold (h : FillR w base O g m v fls sv ps qs) : HoldR w base O g m v fls sv ps (qs.map letOf) := ⟨h.net, h.some_, h.so, h.pv, h.lt⟩
theorem HoldR.below (h : HoldR w base O g m v fls sv ps sent) (hb : Below w.heap.size w w1) : HoldR w1 base O g m v fls sv ps sent :=
  ⟨h.net.below hb, own_move h.some_ (fun k hk => hb.block k (own_lt h.some_ k hk)), h.so, fun p hp => by
    obtain ⟨⟨A, c, h1, h2, h3, h4⟩, h5, h6⟩ := h.pv p hp
    exact ⟨⟨A, c, h1, h2, Kd.C_below h3 hb, h4⟩, h5, h6⟩, fun k hk => Nat.lt_of_lt_of_le (h.lt k hk) hb.size⟩
/-- What is done with the net leaves the packets beside it. -/
theorem HoldR.next (h : HoldR w base O g m v fls sv ps sent) (hN : NetR w1 base O' g m 4 4 v' fls' sent') (hO : ∀ k, O' k → O k ∨ w.heap.size ≤ k) (hk : Kept w w1 O) : HoldR w1 base (fun k => O' k ∧ k < w1.heap.size) g m v' fls' sv ps sent' := by
  refine ⟨hN.bound, own_move h.some_ (fun k hk2 => hk.2 k (own_lt h.some_ k hk2) (h.so k hk2)), fun k hk2 h1 => (hO k h1.1).elim (h.so k hk2) (fun h2 => by have := own_lt h.some_ k hk2; omega), fun p hp => ?_, fun k hk => hk.2⟩
  refine ((h.pv p hp).kept (w1 := w1) (hk.mono (fun k hk => .inl hk))).mono (fun k hk => ?_)
  rcases hk with ⟨h1, _⟩ | h1
  · rcases hO k h1 with h2 | h2
    · exact .inl (.inl h2)
    · exact .inr h2
  · exact .inl (.inr h1)
/-- The cells of a packet of the row. -/
theorem SomeR.at (h : SomeR w base sv ps) {i : Nat} {p : Pv} (hi : ps[i]? = some p) : ∃ ad c, sv = .slice (some ad) ps.length c ∧ ps.length ≤ c ∧
    w.cell? (ad.add (i * 3)) = some (.int .i64 p.src) ∧ w.cell? ⟨(ad.add (i * 3)).block, (ad.add (i * 3)).off + 1, none⟩ = some (.int .i64 p.dst) ∧ w.cell? ⟨(ad.add (i * 3)).block, (ad.add (i * 3)).off + 2, none⟩ = some p.sv := by
  have hil : i < ps.length := (List.getElem?_eq_some_iff.1 hi).1
  rcases h.2 with ⟨rfl, h0⟩ | ⟨b, cap, cur, rfl, h1, h2, h3, h4, h5, h6⟩
  · omega
  · have hc : ∀ j, j < 3 → w.cell? ⟨b, i * 3 + j, none⟩ = p.cells[j]? := fun j hj => by
      rw [blkc h2 (i * 3 + j), ← pcells_get ps i p hi j hj, ← h6, List.getElem?_take_of_lt (by omega), Array.getElem?_toList]
    have ha : (⟨b, 0, none⟩ : Addr).add (i * 3) = ⟨b, i * 3, none⟩ := by rw [add_plain]
    refine ⟨⟨b, 0, none⟩, cap, rfl, h3, ?_, ?_, ?_⟩ <;> rw [ha]
    · exact hc 0 (by omega)
    · exact hc 1 (by omega)
    · exact hc 2 (by omega)
end
/-! Bits turned, and turned back -/
theorem flipsN_self : ∀ xs : List Int, flipsN xs xs = 0
  | [] => rfl
  | x :: xs => by
    rw [flipsN, flipsN_self xs, Nat.xor_self]
    rfl
theorem flipsN_set : ∀ (xs : List Int) (j : Nat) (x y : Int), xs[j]? = some x → flipsN (xs.set j y) xs = pops 8 (y.toNat ^^^ x.toNat)
  | [], _, _, _, h => by simp at h
  | z :: xs, 0, x, y, h => by
    have : z = x := by simpa using h
    subst this
    rw [List.set_cons_zero, flipsN, flipsN_self, Nat.add_zero]
  | z :: xs, j + 1, x, y, h => by
    rw [List.set_cons_succ, flipsN, flipsN_set xs j x y (by simpa using h), Nat.xor_self]
    show 0 + _ = _
    omega
theorem pops_pow : ∀ r, r < 8 → pops 8 (2 ^ r) = 1 := by decide
theorem turnB_flips {xs : List Int} {j k : Nat} {x : Int} (h : xs[j]? = some x) : flipsN (xs.set j (turnB x k)) xs = 1 := by
  rw [flipsN_set xs j x _ h]
  have : ((turnB x k).toNat ^^^ x.toNat) = 2 ^ (k % 8) := by
    show (x.toNat ^^^ 2 ^ (k % 8)) ^^^ x.toNat = _
    rw [Nat.xor_comm x.toNat, Nat.xor_assoc, Nat.xor_self, Nat.xor_zero]
  rw [this]
  exact pops_pow _ (Nat.mod_lt _ (by decide))
theorem turnB_back {x : Int} (k : Nat) (hx : 0 ≤ x) : turnB (turnB x k) k = x := by
  show (((x.toNat ^^^ 2 ^ (k % 8)) ^^^ 2 ^ (k % 8) : Nat) : Int) = x
  rw [Nat.xor_assoc, Nat.xor_self, Nat.xor_zero]
  omega
theorem turnB_ne {xs : List Int} {j k : Nat} {x : Int} (h : xs[j]? = some x) : xs.set j (turnB x k) ≠ xs := fun e => by
  have h1 := turnB_flips (k := k) h
  rw [e, flipsN_self] at h1
  cases h1
end Go.Proofs.Ytpjbgcpieijeaaa.Net
