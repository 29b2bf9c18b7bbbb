/- VersNames: no input. -/
import Derived.Test.YtdjkhgobpfhblaaProg
import Derived.Test.YtdjkhgobpfhblaaMem
import Derived.WalkKit
import Derived.ProofKit
import Derived.Below
import Derived.Deep.RegionHeld3
import Derived.Laws.ResultCell
set_option linter.unusedVariables false
set_option linter.unusedSimpArgs false
namespace Go.Proofs.Ytdjkhgobpfhblaa.Nam
open Go.RowKit Go.Proofs.Ytdjkhgobpfhblaa.Mem Go.Proofs.YtdjkhgobpfhblaaW.PrintWords
section
variable {w : World} {g gt : Nat} {root : Option Addr} {size seq user : Int}
theorem is_any (h : w.heap[g]? = some (.cells #[.pointer root, .int .i64 size, .bool true] 101 (0, 0))) :
    Calls Try.prog 52 #[.pointer (some ⟨g, 0, none⟩)] w fun e w' => e = .returned (.bool true) ∧ w = w' := by
  have c1 := blkc h
  go_enter Try.func52, Try.ntmps52
  go_wp2
  go_ret
  exact ⟨rfl, rfl⟩
theorem smade_any (h : w.heap[g]? = some (.cells #[.int .i64 seq, .int .i64 user, .pointer (some ⟨gt, 0, none⟩)] 76 (0, 0))) :
    Calls Try.prog 35 #[.pointer (some ⟨g, 0, none⟩)] w fun e w' => e = .returned (.bool true) ∧ w = w' := by
  have c1 := blkc h
  go_enter Try.func35, Try.ntmps35
  go_wp2
  go_ret
  exact ⟨rfl, rfl⟩
theorem seq_any (h : w.heap[g]? = some (.cells #[.int .i64 seq, .int .i64 user, .pointer (some ⟨gt, 0, none⟩)] 76 (0, 0))) :
    Calls Try.prog 22 #[.pointer (some ⟨g, 0, none⟩)] w fun e w' => e = .returned (.int .i64 seq) ∧ w = w' := by
  have c1 := blkc h
  go_enter Try.func22, Try.ntmps22
  go_wp2_with fail
  refine (smade_any h).mono ?_
  rintro e w1 ⟨rfl, rfl⟩
  go_wp2
  go_ret
  exact ⟨rfl, rfl⟩
theorem tsnap_any (h : w.heap[g]? = some (.cells #[.pointer root, .int .i64 size, .bool true] 101 (0, 0))) :
    Calls Try.prog 43 #[.pointer (some ⟨g, 0, none⟩)] w fun e w' => e = .returned (.pointer (some ⟨w.heap.size, 0, none⟩)) ∧ w' = w.alloc (.cells #[.pointer root, .int .i64 size, .bool true] 101) := by
  have c1 := blkc h
  have hu := Try.underlying101
  go_enter Try.func43, Try.ntmps43
  go_wp2_with fail
  refine (is_any h).mono ?_
  rintro e w1 ⟨rfl, rfl⟩
  go_wp2
  go_ret
  exact ⟨rfl, rfl⟩
theorem tnew_any (w : World) :
    Calls Try.prog 28 #[] w fun e w' => e = .returned (.pointer (some ⟨w.heap.size, 0, none⟩)) ∧ w' = w.alloc (.cells #[.pointer none, .int .i64 0, .bool true] 101) := by
  go_enter Try.func28, Try.ntmps28
  go_wp2
  go_ret
  exact ⟨rfl, rfl⟩
theorem snew_any (w : World) :
    Calls Try.prog 9 #[] w fun e w' => e = .returned (.pointer (some ⟨w.heap.size + 1, 0, none⟩)) ∧ w' = (w.alloc (.cells #[.pointer none, .int .i64 0, .bool true] 101)).alloc (.cells #[.int .i64 0, .int .i64 0, .pointer (some ⟨w.heap.size, 0, none⟩)] 76) := by
  go_enter Try.func9, Try.ntmps9
  go_wp2_with fail
  refine (tnew_any w).mono ?_
  rintro e w1 ⟨rfl, rfl⟩
  go_wp2
  go_ret
  exact ⟨by simp, rfl⟩
abbrev tabC (root : Option Addr) (size : Int) : Obj := .cells #[.pointer root, .int .i64 size, .bool true] 101 (0, 0)
abbrev stoC (seq user : Int) (gt : Nat) : Obj := .cells #[.int .i64 seq, .int .i64 user, .pointer (some ⟨gt, 0, none⟩)] 76 (0, 0)
theorem tsnap_any' (h : w.heap[g]? = some (tabC root size)) :
    Calls Try.prog 43 #[.pointer (some ⟨g, 0, none⟩)] w fun e w' => ∃ gn, e = .returned (.pointer (some ⟨gn, 0, none⟩)) ∧ w'.heap[gn]? = some (tabC root size) ∧ w.heap.size ≤ gn ∧ Below w.heap.size w w' :=
  (tsnap_any h).mono fun e w' ⟨he, hw⟩ => ⟨_, he, by rw [hw]; exact blk_new w _, Nat.le_refl _, by rw [hw]; exact below_alloc (Below.refl _ _) _⟩
set_option maxRecDepth 100000 in
theorem ssnap_any (h : w.heap[g]? = some (stoC seq user gt)) (ht : w.heap[gt]? = some (tabC root size)) :
    Calls Try.prog 27 #[.pointer (some ⟨g, 0, none⟩)] w fun e w' => ∃ gs g', e = .returned (.pointer (some ⟨gs, 0, none⟩)) ∧ w'.heap[gs]? = some (stoC seq user g') ∧ w'.heap[g']? = some (tabC root size) ∧ w.heap.size ≤ gs ∧ w.heap.size ≤ g' ∧ Below w.heap.size w w' := by
  have HB := Lib.hid (Below.refl w.heap.size w)
  have B0 := Lib.hid h
  have B1 := Lib.hid ht
  go_enter Try.func27, Try.ntmps27
  go_wp2_with fail
  refine (smade_any h).mono ?_
  rintro e w1 ⟨rfl, rfl⟩
  clear h ht
  go_wp2_with fail
  have HB := Lib.hid HB.out.drew
  have B0 := Lib.hid (blk_drew B0.out)
  have B1 := Lib.hid (blk_drew B1.out)
  have c1 := blkc (w := w) B0.out
  go_region_held3 (fun w' => ∀ o, w'.cell? ⟨g, o, none⟩ = #[Value.int .i64 seq, .int .i64 user, .pointer (some ⟨gt, 0, none⟩)][o]?) (((try dsimp only); refine blkc (t := 76) ?_; first | (with_reducible exact B0.out) | exact blk_below B0.out (below_alloc (Below.refl _ _) _))) (first | (go_at_call 43; refine (tsnap_any' B1.out).mono ?_; rintro e w1 ⟨gn, rfl, hn, hle, hb1⟩; (have B0 := Lib.hid (blk_below B0.out hb1)); (have HN := Lib.hid hn); (have HL := Lib.hid hle); (have HB := Lib.hid (below_then HB.out HB.out.size hb1)); clear hn hle hb1))
  go_wp2
  go_ret
  exact ⟨_, gn, rfl, blk_new w1 _, blk_below HN.out (below_alloc (Below.refl _ _) _), HB.out.size, HL.out, below_alloc HB.out _⟩
abbrev bookC (ga gb : Nat) (op ks : Value) : Obj := .cells #[.pointer (some ⟨ga, 0, none⟩), .pointer (some ⟨gb, 0, none⟩), op, ks] 47 (0, 0)
set_option maxRecDepth 100000 in
theorem vnew_any (h : w.heap[g]? = some (stoC seq user gt)) (ht : w.heap[gt]? = some (tabC root size)) :
    Calls Try.prog 8 #[.pointer (some ⟨g, 0, none⟩)] w fun e w' => ∃ b ga gb gat gbt ks, e = .returned (.pointer (some ⟨b, 0, none⟩)) ∧ w'.heap[b]? = some (bookC ga gb (.slice none 0 0) ks) ∧ w'.heap[ga]? = some (stoC seq user gat) ∧ w'.heap[gb]? = some (stoC seq user gbt) ∧ Below w.heap.size w w' := by
  have HB := Lib.hid (Below.refl w.heap.size w)
  have B0 := Lib.hid h
  have B1 := Lib.hid ht
  go_enter Try.func8, Try.ntmps8
  go_wp2_with fail
  refine (ssnap_any h ht).mono ?_
  rintro e w1 ⟨gb, gbt, rfl, hb1, hb2, hl1, hl2, hbw⟩
  have HB := Lib.hid (below_then HB.out HB.out.size hbw)
  have S1 := Lib.hid hb1
  have S2 := Lib.hid hb2
  clear h ht hb1 hb2 hbw
  go_wp2_with fail
  refine (ssnap_any S1.out S2.out).mono ?_
  rintro e w2 ⟨ga, gat, rfl, ha1, ha2, hl3, hl4, haw⟩
  have HB := Lib.hid (below_then HB.out HB.out.size haw)
  have S1 := Lib.hid (blk_below S1.out haw)
  have A1 := Lib.hid ha1
  clear ha1 ha2 haw
  have mk := fun u => run_makeMap (P := Try.prog) 45 u
  go_wp2
  go_ret
  have h2 : Below w2.heap.size w2 ((w2.alloc (.map #[] 0)).alloc (.cells #[.pointer (some ⟨ga, 0, none⟩), .pointer (some ⟨gb, 0, none⟩), .slice none 0 0, .map (some w2.heap.size)] 47)) := below_alloc (below_alloc (Below.refl _ _) _) _
  exact ⟨_, ga, gb, gat, gbt, _, rfl, heap_alloc2_new _ _ _, blk_below A1.out h2, blk_below S1.out h2, below_then HB.out HB.out.size h2⟩
variable {b ga gb gat gbt : Nat} {op ks : Value} {seq' user' : Int}
theorem vmade_any (h : w.heap[b]? = some (bookC ga gb op ks)) :
    Calls Try.prog 29 #[.pointer (some ⟨b, 0, none⟩)] w fun e w' => e = .returned (.bool true) ∧ w = w' := by
  have c1 := blkc h
  go_enter Try.func29, Try.ntmps29
  go_wp2
  go_ret
  exact ⟨rfl, rfl⟩
theorem num_any (n : Int) (w : World) : Calls Try.prog 10 #[.int .i64 n] w fun e w' => e = .returned (.int .i64 n) ∧ w = w' := by
  go_enter Try.func10, Try.ntmps10
  go_wp2
  go_ret
  exact ⟨rfl, rfl⟩
set_option maxRecDepth 100000 in
theorem commit_high (h : w.heap[b]? = some (bookC ga gb op ks)) (ha : w.heap[ga]? = some (stoC 0 user gat)) :
    Calls Try.prog 11 #[.pointer (some ⟨b, 0, none⟩), .int .i64 1] w fun e w' => e = .returned (.int .i64 140) ∧ w = w' := by
  have c1 := blkc h
  go_enter Try.func11, Try.ntmps11
  go_wp2_with (first
    | (go_at_call 29; refine (vmade_any h).mono ?_; rintro e w1 ⟨rfl, rfl⟩)
    | (go_at_call 22; (with_reducible refine (seq_any ha).mono ?_); rintro e w1 ⟨rfl, rfl⟩))
  go_ret
  exact ⟨rfl, rfl⟩
set_option maxRecDepth 100000 in
theorem commit_low (h : w.heap[b]? = some (bookC ga gb op ks)) (ha : w.heap[ga]? = some (stoC 0 user gat)) (hb : w.heap[gb]? = some (stoC 0 user' gbt)) :
    Calls Try.prog 11 #[.pointer (some ⟨b, 0, none⟩), .int .i64 (-1)] w fun e w' => e = .returned (.int .i64 141) ∧ w = w' := by
  have c1 := blkc h
  go_enter Try.func11, Try.ntmps11
  go_wp2_with (first
    | (go_at_call 29; refine (vmade_any h).mono ?_; rintro e w1 ⟨rfl, rfl⟩)
    | (go_at_call 22; (with_reducible refine (seq_any ha).mono ?_); rintro e w1 ⟨rfl, rfl⟩)
    | (go_at_call 22; (with_reducible refine (seq_any hb).mono ?_); rintro e w1 ⟨rfl, rfl⟩))
  go_ret
  exact ⟨rfl, rfl⟩
end
set_option maxRecDepth 100000 in
theorem names_any (w : World) : Calls Try.prog 3 #[] w fun e w' => e = .returned (.bool true) ∧ Below w.heap.size w w' := by
  go_enter Try.func3, Try.ntmps3
  go_wp2_with fail
  refine (snew_any w).mono ?_
  rintro e w1 ⟨rfl, hw1⟩
  have hs : w1.heap[w.heap.size + 1]? = some (stoC 0 0 w.heap.size) := by rw [hw1]; exact heap_alloc2_new _ _ _
  have ht : w1.heap[w.heap.size]? = some (tabC none 0) := by rw [hw1]; exact heap_alloc2_old _ _ _
  have hb : Below w.heap.size w w1 := by rw [hw1]; exact below_alloc (below_alloc (Below.refl _ _) _) _
  have HB := Lib.hid hb
  have S := Lib.hid hs
  have T := Lib.hid ht
  clear hw1 hs ht hb
  go_wp2_with fail
  refine (vnew_any S.out T.out).mono ?_
  rintro e w2 ⟨b, ga, gb, gat, gbt, ks, rfl, h1, h2, h3, hb⟩
  have HB := Lib.hid (below_then HB.out HB.out.size hb)
  have K1 := Lib.hid h1
  have K2 := Lib.hid h2
  have K3 := Lib.hid h3
  clear h1 h2 h3 hb
  go_wp2_with (first
    | (go_at_call 10; refine (num_any _ _).mono ?_; rintro e w1 ⟨rfl, rfl⟩)
    | (go_at_call 11; (with_reducible refine (commit_high K1.out K2.out).mono ?_); rintro e w1 ⟨rfl, rfl⟩)
    | (go_at_call 11; (with_reducible refine (commit_low K1.out K2.out K3.out).mono ?_); rintro e w1 ⟨rfl, rfl⟩))
  go_ret
  exact ⟨rfl, HB.out⟩
end Go.Proofs.Ytdjkhgobpfhblaa.Nam
namespace Go.Proofs.Ytdjkhgobpfhblaa.Walk
open Go.RowKit
theorem VersNames (W : World) : Calls Try.prog 3 #[] W fun e W' => e = .returned (.bool true) ∧ Below W.heap.size W W' := Nam.names_any W
end Go.Proofs.Ytdjkhgobpfhblaa.Walk
