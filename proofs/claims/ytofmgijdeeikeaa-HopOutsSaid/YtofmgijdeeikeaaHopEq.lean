/- '==' of updates. -/
import Derived.Test.YtofmgijdeeikeaaHopTakeN
import Derived.Test.YtofmgijdeeikeaaWEqStruct
import Derived.Laws.StructEq
import Derived.Laws.Closers25b
set_option linter.unusedVariables false
set_option linter.unusedSimpArgs false
namespace Go.Proofs.Ytofmgijdeeikeaa.Hop
open Go.RowKit Go.Proofs.Ytofmgijdeeikeaa.Mem Go.Proofs.YtofmgijdeeikeaaW.PrintWords Go.Proofs.YtofmgijdeeikeaaW.PrintLast Go.Deep
theorem eqOp (d : Nat) (w : World) (x0 y0 : Int) (x1 y1 : ByteArray) (x2 y2 : ByteArray) (x3 y3 : Int) :
    (Op.equalIn (d + 2) 35 (.agg #[.int .i64 x0, .string x1, .string x2, .int .i64 x3]) (.agg #[.int .i64 y0, .string y1, .string y2, .int .i64 y3])).run Try.prog w = .ok (x0 == y0 && (x1.toList == y1.toList && (x2.toList == y2.toList && (x3 == y3)))) w := by
  refine eqA_of Try.underlying35 (by kernel_rfl) ?_
  refine eqf_cons (by rfl) (by go_simp; rfl) (by go_simp; rfl) (by go_simp) ?_
  refine eqf_cons (by rfl) (by go_simp; rfl) (by go_simp; rfl) (by go_simp) ?_
  refine eqf_cons (by rfl) (by go_simp; rfl) (by go_simp; rfl) (by go_simp) ?_
  exact eqf_last (by rfl) (by go_simp; rfl) (by go_simp; rfl) (by go_simp)
theorem eqU (d : Nat) (w : World) (x0 y0 : Int) (x1 y1 : Int) (x2 y2 : Int) (x3 y3 : Int) (x4 y4 : ByteArray) (x5 y5 : ByteArray) (x6 y6 : Int) :
    (Op.equalIn (d + 3) 37 (.agg #[.int .i64 x0, .int .i64 x1, .int .i64 x2, .int .i64 x3, .string x4, .string x5, .int .i64 x6]) (.agg #[.int .i64 y0, .int .i64 y1, .int .i64 y2, .int .i64 y3, .string y4, .string y5, .int .i64 y6])).run Try.prog w = .ok (x0 == y0 && (x1 == y1 && (x2 == y2 && ((x3 == y3 && (x4.toList == y4.toList && (x5.toList == y5.toList && (x6 == y6)))))))) w := by
  refine eqA_of Try.underlying37 (by kernel_rfl) ?_
  refine eqf_cons (by rfl) (by go_simp; rfl) (by go_simp; rfl) (by go_simp) ?_
  refine eqf_cons (by rfl) (by go_simp; rfl) (by go_simp; rfl) (by go_simp) ?_
  refine eqf_cons (by rfl) (by go_simp; rfl) (by go_simp; rfl) (by go_simp) ?_
  exact eqf_last (by rfl) (by go_simp) (by go_simp) (eqOp (d + 0) w _ _ _ _ _ _ _ _)
def U.eqb (a b : U) : Bool := a.seq == b.seq && (a.client == b.client && (a.number == b.number && (a.kind == b.kind && (a.key.toList == b.key.toList && (a.value.toList == b.value.toList && a.version == b.version)))))
theorem toList_inj {a b : ByteArray} (h : a.toList = b.toList) : a = b := by
  rw [ByteArray.toList_eq, ByteArray.toList_eq] at h
  exact Go.WideShapes.bytes_inj h
theorem U.eqb_iff (a b : U) : a.eqb b = true ↔ a = b := by
  constructor
  · intro h
    simp only [U.eqb, Bool.and_eq_true, beq_iff_eq] at h
    obtain ⟨h1, h2, h3, h4, h5, h6, h7⟩ := h
    obtain ⟨a1, a2, a3, a4, a5, a6, a7⟩ := a
    obtain ⟨b1, b2, b3, b4, b5, b6, b7⟩ := b
    simp only at h1 h2 h3 h4 h5 h6 h7
    rw [h1, h2, h3, h4, toList_inj h5, toList_inj h6, h7]
  · rintro rfl
    simp [U.eqb]
theorem run_eqU (a b : U) (w : World) : (binOp .eql 37 (.agg #[.int .i64 a.seq, .int .i64 a.client, .int .i64 a.number, .int .i64 a.kind, .string a.key, .string a.value, .int .i64 a.version]) (.agg #[.int .i64 b.seq, .int .i64 b.client, .int .i64 b.number, .int .i64 b.kind, .string b.key, .string b.value, .int .i64 b.version])).run Try.prog w = .ok (.bool (a.eqb b)) w := by
  rw [run_eql_struct, eqU 9997 w]
  rfl
theorem run_neU (a b : U) (w : World) : (binOp .neq 37 (.agg #[.int .i64 a.seq, .int .i64 a.client, .int .i64 a.number, .int .i64 a.kind, .string a.key, .string a.value, .int .i64 a.version]) (.agg #[.int .i64 b.seq, .int .i64 b.client, .int .i64 b.number, .int .i64 b.kind, .string b.key, .string b.value, .int .i64 b.version])).run Try.prog w = .ok (.bool (!a.eqb b)) w := by
  rw [run_neq_struct, eqU 9997 w]
  rfl
end Go.Proofs.Ytofmgijdeeikeaa.Hop
