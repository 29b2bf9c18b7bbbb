/- leb.Encode by plain words; delta's text. -/
import Derived.Test.YtiboiociaedocaaLebSpec
import Derived.Test.YtiboiociaedocaaBytes
import Derived.Test.YtiboiociaedocaaCheckWalk
set_option linter.unusedVariables false
set_option linter.unusedSimpArgs false
namespace Go.Proofs.Ytiboiociaedocaa.Leb
open Go.RowKit Go.Proofs.Ytiboiociaedocaa.CutLeb Go.Proofs.YtiboiociaedocaaW.PrintWords Go.Proofs.Ytiboiociaedocaa.Byt Go.Proofs.Ytiboiociaedocaa.Mem
theorem nums_u64 (l : List Nat) : (l.map Int.ofNat).length = l.length := List.length_map _
/-- A new row of numbers is read. -/
theorem C_new (w : World) (l : List Nat) (hl : l.length ≤ 1000) : (Kd.int .u64).C (w.alloc (.cells ((l.map fun (n : Nat) => Value.int .u64 (n : Int)).toArray) 85)) (some ⟨w.heap.size, 0, none⟩) (l.map Int.ofNat).length (l.map Int.ofNat) := by
  refine ⟨rfl, by rw [List.length_map]; omega, fun _ => ⟨_, rfl, fun j p hp => ⟨[.int .u64 p], rfl, rfl, fun i u hu => ?_⟩⟩⟩
  obtain ⟨hj, rfl⟩ := List.getElem?_eq_some_iff.1 hp
  have hj' : j < l.length := by simpa using hj
  have hsz : (Kd.int .u64).sz = 1 := rfl
  match i, hu with
  | 0, hu =>
    have hu' : Value.int .u64 ((l.map Int.ofNat)[j]) = u := by simpa using hu
    subst hu'
    rw [hsz, Nat.mul_one, Nat.add_zero, add_plain, blk_cell (blk_new w _)]
    simp [hj']
theorem leb_any (l : List Nat) (hl : l.length ≤ 1000) (hn : ∀ n ∈ l, n < 18446744073709551616) (A : Option Addr) (c : Nat) (hc : l.length ≤ c) (w : World) (h : (Kd.int .u64).C w A (l.map Int.ofNat).length (l.map Int.ofNat)) :
    Calls Try.prog 42 #[.slice A l.length c] w fun e w' => ∃ v, e = .returned v ∧ w'.ownsRow w.heap.size 5 1 v (lebs l).length (nums .u8 (lebs l)) ∧ Below w.heap.size w w' := by
  have := leb_Encode.calls (l.length + 11) A c (l.map Int.ofNat) (lebs l) w h (by rw [List.length_map]; exact hc) (encode_eq l hl hn)
  rw [List.length_map] at this
  exact this.mono fun e w' ⟨v, he, hr, hb⟩ => ⟨v, he, owns_of_R hr, hb⟩
/-- A literal's numbers, written. -/
theorem leb_lit (l : List Nat) (hl : l.length ≤ 1000) (hn : ∀ n ∈ l, n < 18446744073709551616) {w0 W : World} (HB : Below w0.heap.size w0 W) :
    Calls Try.prog 42 #[.slice (some ⟨W.heap.size, 0, none⟩) l.length l.length] (W.alloc (.cells ((l.map fun (n : Nat) => Value.int .u64 (n : Int)).toArray) 85)) fun e w' => ∃ v, e = .returned v ∧ w'.ownsRow w0.heap.size 5 1 v (lebs l).length (nums .u8 (lebs l)) ∧ Below w0.heap.size w0 w' ∧ Below W.heap.size W w' := by
  refine (leb_any l hl hn (some ⟨W.heap.size, 0, none⟩) l.length (Nat.le_refl _) _ (C_new W l hl)).mono ?_
  rintro e w1 ⟨v, rfl, ho, hb⟩
  have h1 := below_alloc (Below.refl W.heap.size W) (.cells ((l.map fun (n : Nat) => Value.int .u64 (n : Int)).toArray) 85)
  have h2 := below_then h1 h1.size hb
  exact ⟨v, rfl, own_weaken ho (Nat.le_trans HB.size h1.size), below_then HB HB.size h2, h2⟩
theorem kept_two {w w1 w2 w3 : World} {b v2 : Value} (h1 : Kept w w1 (fun k => b.ownBlock = some k)) (h2 : w1.grownBy w2 b.ownBlock) (h3 : w2.grownBy w3 v2.ownBlock) (ha : v2.ownBlock = b.ownBlock ∨ ∃ g, v2.ownBlock = some g ∧ w1.heap.size ≤ g) : Kept w w3 (fun k => b.ownBlock = some k) := by
  refine ⟨Nat.le_trans h1.1 (Nat.le_trans h2.size h3.size), fun i hi hn => ?_⟩
  have hi1 : i < w1.heap.size := Nat.lt_of_lt_of_le hi h1.1
  have hi2 : i < w2.heap.size := Nat.lt_of_lt_of_le hi1 h2.size
  rw [h3.block i hi2 (fun e => ?_), h2.block i hi1 (fun e => hn e.symm), h1.2 i hi hn]
  rcases ha with ha | ⟨g, ha, hg⟩
  · exact hn (by rw [← ha]; exact e.symm)
  · rw [ha] at e
    have : i = g := by injection e
    omega
set_option maxHeartbeats 800000 in
set_option maxRecDepth 100000 in
theorem text_any (b : Value) (xs : List Int) (s : ByteArray) (hs : s.size ≤ 70368744177664) (hx : xs.length ≤ 35184372088832) (w0 w : World) (HB : Below w0.heap.size w0 w) (HO : w.ownsRow w0.heap.size 5 1 b xs.length (nums .u8 xs)) :
    Calls Try.prog 43 #[b, .string s] w fun e w' => ∃ v, e = .returned v ∧ w'.ownsRow w0.heap.size 5 1 v (xs ++ (lebL s.size ++ bytesOf s)).length (nums .u8 (xs ++ (lebL s.size ++ bytesOf s))) ∧ Below w0.heap.size w0 w' ∧ Kept w w' (fun k => b.ownBlock = some k) := by
  have HB0 := Lib.hid HB
  have HO0 := Lib.hid HO
  clear HB HO
  go_enter Try.func43, Try.ntmps43
  have hsz : lebs [s.size] = lebL s.size := by simp [lebs]
  have HS := Lib.hid hsz
  clear hsz
  have h10 := lebL_len10 (n := s.size) (by omega)
  go_wp2_with fail
  refine (leb_any [s.size] (by simp) (by simp; omega) (some ⟨w.heap.size, 0, none⟩) 1 (by simp) _ (C_new w [s.size] (by simp))).mono ?_
  rintro e w1 ⟨v1, rfl, ho1, hb1⟩
  rw [HS.out] at ho1
  obtain ⟨A1, c1, rfl, hr1⟩ := own_reads ho1
  have HR1 := Lib.hid hr1
  have HB1 : Hid (Below w0.heap.size w0 w1) := below_then (below_alloc HB0.out _) (below_size (below_alloc HB0.out _)) hb1
  have HO1 : Hid (w1.ownsRow w0.heap.size 5 1 b xs.length (nums .u8 xs)) := pw_own_below (own_alloc HO0.out _) hb1
  have HK1 := Lib.hid (((Kept.refl w (fun k => b.ownBlock = some k)).alloc _).below hb1)
  clear hr1 ho1 hb1
  go_wp2_with (first
    | ((with_reducible refine gate_builtin (b := .append) (xs := #[.tmp 5, .tmp 10]) rfl ?_); at_builtin; refine print_append_row (w0 := w0) w0.heap.size rfl (.tmp 5) (.tmp 10) 49 5 .u8 1 rfl Try.underlying49 info_u8 (by decide) b xs (lebL s.size) A1 (lebL s.size).length c1 rfl rfl HO1.out HR1.out HB1.out HB1.out.size (by omega) ?_; intro v2 w2 ho2 hb2 hg2 hat2; have HO2 := Lib.hid ho2; have HB2 := Lib.hid hb2; have HG2 := Lib.hid hg2; have HA2 := Lib.hid hat2; clear ho2 hb2 hg2 hat2)
    | ((with_reducible refine gate_builtin (b := .append) (xs := #[.tmp 11, .tmp 12]) rfl ?_); at_builtin; refine print_append_str (w0 := w0) w0.heap.size rfl (.tmp 11) (.tmp 12) 49 9 5 rfl Try.underlying49 Try.underlying9 info_u8 v2 (xs ++ lebL s.size) s rfl rfl HO2.out HB2.out HB2.out.size (by rw [List.length_append]; omega) ?_; intro v3 w3 ho3 hb3 hg3; have HO3 := Lib.hid ho3; have HB3 := Lib.hid hb3; have HG3 := Lib.hid hg3; clear ho3 hb3 hg3))
  go_ret
  rw [← List.append_assoc]
  exact ⟨_, rfl, HO3.out, HB3.out, kept_two HK1.out HG2.out HG3.out HA2.out⟩
end Go.Proofs.Ytiboiociaedocaa.Leb
