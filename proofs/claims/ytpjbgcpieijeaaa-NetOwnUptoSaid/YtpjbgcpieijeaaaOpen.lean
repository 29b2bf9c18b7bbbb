/- Arguments that come in, opened by kinds: a value that can be read at a type is of that type's kind, its numbers are of their range, its strings and lists no longer than an int; what it weighs ('uptoBulk') is at least the measure of what was read. -/
import Derived.Test.YtpjbgcpieijeaaaRows
import Derived.Test.YtpjbgcpieijeaaaWWords
import Derived.ProofKit
import Derived.OpenShut
import Derived.Deep.Slices
import Derived.ChangeSame
import Derived.SizedLaws
set_option linter.unusedVariables false
set_option linter.unusedSimpArgs false
namespace Go.Proofs.Ytpjbgcpieijeaaa.Opn
open Go.RowKit Go.ChangeShapes Go.WideShapes Go.Deep Go.Proofs.YtpjbgcpieijeaaaW.PrintWords

/-- What is read at type t is of kind d, meets p, and weighs at least m. -/
def Op_ {α : Type} (P : Program) (t : TypeId) (d : Kd α) (p : α → Prop) (m : α → Nat) : Prop :=
  ∀ {H : Type} {enc : TypeId × Value → H} {w : World} {base : Nat} {spare : Nat → Bool} {held : Bool} {fuel : Nat} {cs : List Value} {x : DataW H × List MemPlace},
    DataW.trod enc P w base spare held fuel t cs = some x → ∃ a : α, d.K w a cs ∧ p a ∧ m a ≤ Rows.uptoBulk x.1

theorem op_int {P : Program} {t : TypeId} {k : IntKind} (ht : P.underlying t = some (.int k)) : Op_ P t (Kd.int k) (fun n => (Lit.int k n).wf = true) (fun _ => 1) := by
  intro H enc w base spare held fuel cs x h
  obtain ⟨n, rfl, rfl, hw⟩ := DataW.trod_int ht h
  exact ⟨n, rfl, hw, by simp [Rows.uptoBulk]⟩

theorem op_bool {P : Program} {t : TypeId} (ht : P.underlying t = some .bool) : Op_ P t Kd.bool (fun _ => True) (fun _ => 1) := by
  intro H enc w base spare held fuel cs x h
  obtain ⟨b, rfl, rfl⟩ := DataW.trod_bool ht h
  exact ⟨b, rfl, trivial, by simp [Rows.uptoBulk]⟩

theorem op_string {P : Program} {t : TypeId} (ht : P.underlying t = some .string) : Op_ P t Kd.string (fun s => s.size ≤ 9223372036854775807) (fun s => s.size + 1) := by
  intro H enc w base spare held fuel cs x h
  obtain ⟨s, rfl, rfl, hs⟩ := DataW.trod_string ht h
  refine ⟨s, rfl, hs, ?_⟩
  simp only [Rows.uptoBulk, Array.length_toList]
  exact Nat.le_refl _

/-- The fields from one on, which lie in the cells from 'off' on; 'n': the number of the first; they weigh at least m. -/
def Fs_ {α : Type} (P : Program) (fs : List Field) (off : Nat) (d : Kd α) (p : α → Prop) (m : α → Nat) : Prop :=
  ∀ {H : Type} {enc : TypeId × Value → H} {w : World} {base : Nat} {spare : Nat → Bool} {held : Bool} {fuel : Nat} {cs : List Value} {ys : List (DataW H × List MemPlace)},
    cs.length = off + d.sz → ys.length = fs.length → (∀ (i : Nat) (f : Field), fs[i]? = some f → DataW.trod enc P w base spare held fuel f.type ((cs.drop f.offset).take (P.cellsOf f.type)) = ys[i]?) →
    ∃ a : α, d.K w a (cs.drop off) ∧ p a ∧ m a ≤ Rows.uptoBulkAll (ys.map (·.1))

theorem fs_last {α : Type} {P : Program} {f : Field} {off : Nat} {d : Kd α} {p : α → Prop} {m : α → Nat} (ho : f.offset = off) (hc : P.cellsOf f.type = d.sz) (h : Op_ P f.type d p m) : Fs_ P [f] off d p m := by
  intro H enc w base spare held fuel cs ys hl hy hf
  match ys, hy with
  | [y], _ =>
    have h1 := hf 0 f rfl
    rw [ho, hc, List.take_of_length_le (by rw [List.length_drop]; omega)] at h1
    obtain ⟨a, hk, hp, hm⟩ := h h1
    refine ⟨a, hk, hp, ?_⟩
    simp only [List.map_cons, List.map_nil, Rows.uptoBulkAll]
    omega

theorem fs_cons {α β : Type} {P : Program} {f : Field} {fs : List Field} {off : Nat} {d : Kd α} {d' : Kd β} {p : α → Prop} {p' : β → Prop} {m : α → Nat} {m' : β → Nat} (ho : f.offset = off) (hc : P.cellsOf f.type = d.sz) (h : Op_ P f.type d p m) (hr : Fs_ P fs (off + d.sz) d' p' m') :
    Fs_ P (f :: fs) off (Kd.pair d d') (fun x => p x.1 ∧ p' x.2) (fun x => m x.1 + m' x.2) := by
  intro H enc w base spare held fuel cs ys hl hy hf
  match ys, hy with
  | y :: ys, hy =>
    have h1 := hf 0 f rfl
    rw [ho, hc] at h1
    obtain ⟨a, hk, hp, hm⟩ := h h1
    have hsz : (Kd.pair d d').sz = d.sz + d'.sz := rfl
    obtain ⟨b, hk', hp', hm'⟩ := hr (cs := cs) (ys := ys) (by omega) (by simpa using hy) (fun i g hi => hf (i + 1) g hi)
    refine ⟨(a, b), ⟨(cs.drop off).take d.sz, cs.drop (off + d.sz), ?_, hk, hk'⟩, ⟨hp, hp'⟩, ?_⟩
    · rw [← List.drop_drop, List.take_append_drop]
    · simp only [List.map_cons, Rows.uptoBulkAll]
      omega

theorem op_struct {α : Type} {P : Program} {t : TypeId} {fs : Array Field} {d : Kd α} {p : α → Prop} {m : α → Nat} (ht : P.underlying t = some (.struct fs)) (hc : P.cellsOf t = d.sz) (h : Fs_ P fs.toList 0 d p m) : Op_ P t d p m := by
  intro H enc w base spare held fuel cs x hx
  obtain ⟨xs, n, _, rfl, hl, hlen, hf⟩ := DataW.trod_struct ht hx
  obtain ⟨a, hk, hp, hm⟩ := h (enc := enc) (w := w) (base := base) (spare := spare) (held := held) (fuel := n) (cs := cs) (ys := xs) (by omega) (by simpa using hlen) (fun i f hi => hf i f (by simpa using hi))
  refine ⟨a, by simpa using hk, hp, ?_⟩
  simp only [Rows.uptoBulk]
  omega

theorem op_struct1 {α0 : Type} {P : Program} {t : TypeId} {f0 : Field} {d0 : Kd α0} {p0 : α0 → Prop} {m0 : α0 → Nat} (ht : P.underlying t = some (.struct #[f0])) (o0 : f0.offset = 0) (c0 : P.cellsOf f0.type = d0.sz) (h0 : Op_ P f0.type d0 p0 m0) (hc : P.cellsOf t = d0.sz) :
    Op_ P t d0 (fun x => p0 (x)) (fun x => m0 x) := op_struct ht hc (fs_last o0 c0 h0)
theorem op_struct2 {α0 α1 : Type} {P : Program} {t : TypeId} {f0 f1 : Field} {d0 : Kd α0} {p0 : α0 → Prop} {m0 : α0 → Nat} {d1 : Kd α1} {p1 : α1 → Prop} {m1 : α1 → Nat} (ht : P.underlying t = some (.struct #[f0, f1])) (o0 : f0.offset = 0) (o1 : f1.offset = 0 + d0.sz) (c0 : P.cellsOf f0.type = d0.sz) (c1 : P.cellsOf f1.type = d1.sz) (h0 : Op_ P f0.type d0 p0 m0) (h1 : Op_ P f1.type d1 p1 m1) (hc : P.cellsOf t = (Kd.pair d0 d1).sz) :
    Op_ P t (Kd.pair d0 d1) (fun x => p0 x.1 ∧ p1 x.2) (fun x => m0 x.1 + m1 x.2) := op_struct ht hc (fs_cons o0 c0 h0 (fs_last o1 c1 h1))
theorem op_struct3 {α0 α1 α2 : Type} {P : Program} {t : TypeId} {f0 f1 f2 : Field} {d0 : Kd α0} {p0 : α0 → Prop} {m0 : α0 → Nat} {d1 : Kd α1} {p1 : α1 → Prop} {m1 : α1 → Nat} {d2 : Kd α2} {p2 : α2 → Prop} {m2 : α2 → Nat} (ht : P.underlying t = some (.struct #[f0, f1, f2])) (o0 : f0.offset = 0) (o1 : f1.offset = 0 + d0.sz) (o2 : f2.offset = 0 + d0.sz + d1.sz) (c0 : P.cellsOf f0.type = d0.sz) (c1 : P.cellsOf f1.type = d1.sz) (c2 : P.cellsOf f2.type = d2.sz) (h0 : Op_ P f0.type d0 p0 m0) (h1 : Op_ P f1.type d1 p1 m1) (h2 : Op_ P f2.type d2 p2 m2) (hc : P.cellsOf t = (Kd.pair d0 (Kd.pair d1 d2)).sz) :
    Op_ P t (Kd.pair d0 (Kd.pair d1 d2)) (fun x => p0 x.1 ∧ p1 x.2.1 ∧ p2 x.2.2) (fun x => m0 x.1 + (m1 x.2.1 + m2 x.2.2)) := op_struct ht hc (fs_cons o0 c0 h0 (fs_cons o1 c1 h1 (fs_last o2 c2 h2)))
theorem op_struct4 {α0 α1 α2 α3 : Type} {P : Program} {t : TypeId} {f0 f1 f2 f3 : Field} {d0 : Kd α0} {p0 : α0 → Prop} {m0 : α0 → Nat} {d1 : Kd α1} {p1 : α1 → Prop} {m1 : α1 → Nat} {d2 : Kd α2} {p2 : α2 → Prop} {m2 : α2 → Nat} {d3 : Kd α3} {p3 : α3 → Prop} {m3 : α3 → Nat} (ht : P.underlying t = some (.struct #[f0, f1, f2, f3])) (o0 : f0.offset = 0) (o1 : f1.offset = 0 + d0.sz) (o2 : f2.offset = 0 + d0.sz + d1.sz) (o3 : f3.offset = 0 + d0.sz + d1.sz + d2.sz) (c0 : P.cellsOf f0.type = d0.sz) (c1 : P.cellsOf f1.type = d1.sz) (c2 : P.cellsOf f2.type = d2.sz) (c3 : P.cellsOf f3.type = d3.sz) (h0 : Op_ P f0.type d0 p0 m0) (h1 : Op_ P f1.type d1 p1 m1) (h2 : Op_ P f2.type d2 p2 m2) (h3 : Op_ P f3.type d3 p3 m3) (hc : P.cellsOf t = (Kd.pair d0 (Kd.pair d1 (Kd.pair d2 d3))).sz) :
    Op_ P t (Kd.pair d0 (Kd.pair d1 (Kd.pair d2 d3))) (fun x => p0 x.1 ∧ p1 x.2.1 ∧ p2 x.2.2.1 ∧ p3 x.2.2.2) (fun x => m0 x.1 + (m1 x.2.1 + (m2 x.2.2.1 + m3 x.2.2.2))) := op_struct ht hc (fs_cons o0 c0 h0 (fs_cons o1 c1 h1 (fs_cons o2 c2 h2 (fs_last o3 c3 h3))))
theorem op_struct5 {α0 α1 α2 α3 α4 : Type} {P : Program} {t : TypeId} {f0 f1 f2 f3 f4 : Field} {d0 : Kd α0} {p0 : α0 → Prop} {m0 : α0 → Nat} {d1 : Kd α1} {p1 : α1 → Prop} {m1 : α1 → Nat} {d2 : Kd α2} {p2 : α2 → Prop} {m2 : α2 → Nat} {d3 : Kd α3} {p3 : α3 → Prop} {m3 : α3 → Nat} {d4 : Kd α4} {p4 : α4 → Prop} {m4 : α4 → Nat} (ht : P.underlying t = some (.struct #[f0, f1, f2, f3, f4])) (o0 : f0.offset = 0) (o1 : f1.offset = 0 + d0.sz) (o2 : f2.offset = 0 + d0.sz + d1.sz) (o3 : f3.offset = 0 + d0.sz + d1.sz + d2.sz) (o4 : f4.offset = 0 + d0.sz + d1.sz + d2.sz + d3.sz) (c0 : P.cellsOf f0.type = d0.sz) (c1 : P.cellsOf f1.type = d1.sz) (c2 : P.cellsOf f2.type = d2.sz) (c3 : P.cellsOf f3.type = d3.sz) (c4 : P.cellsOf f4.type = d4.sz) (h0 : Op_ P f0.type d0 p0 m0) (h1 : Op_ P f1.type d1 p1 m1) (h2 : Op_ P f2.type d2 p2 m2) (h3 : Op_ P f3.type d3 p3 m3) (h4 : Op_ P f4.type d4 p4 m4) (hc : P.cellsOf t = (Kd.pair d0 (Kd.pair d1 (Kd.pair d2 (Kd.pair d3 d4)))).sz) :
    Op_ P t (Kd.pair d0 (Kd.pair d1 (Kd.pair d2 (Kd.pair d3 d4)))) (fun x => p0 x.1 ∧ p1 x.2.1 ∧ p2 x.2.2.1 ∧ p3 x.2.2.2.1 ∧ p4 x.2.2.2.2) (fun x => m0 x.1 + (m1 x.2.1 + (m2 x.2.2.1 + (m3 x.2.2.2.1 + m4 x.2.2.2.2)))) := op_struct ht hc (fs_cons o0 c0 h0 (fs_cons o1 c1 h1 (fs_cons o2 c2 h2 (fs_cons o3 c3 h3 (fs_last o4 c4 h4)))))
theorem op_struct6 {α0 α1 α2 α3 α4 α5 : Type} {P : Program} {t : TypeId} {f0 f1 f2 f3 f4 f5 : Field} {d0 : Kd α0} {p0 : α0 → Prop} {m0 : α0 → Nat} {d1 : Kd α1} {p1 : α1 → Prop} {m1 : α1 → Nat} {d2 : Kd α2} {p2 : α2 → Prop} {m2 : α2 → Nat} {d3 : Kd α3} {p3 : α3 → Prop} {m3 : α3 → Nat} {d4 : Kd α4} {p4 : α4 → Prop} {m4 : α4 → Nat} {d5 : Kd α5} {p5 : α5 → Prop} {m5 : α5 → Nat} (ht : P.underlying t = some (.struct #[f0, f1, f2, f3, f4, f5])) (o0 : f0.offset = 0) (o1 : f1.offset = 0 + d0.sz) (o2 : f2.offset = 0 + d0.sz + d1.sz) (o3 : f3.offset = 0 + d0.sz + d1.sz + d2.sz) (o4 : f4.offset = 0 + d0.sz + d1.sz + d2.sz + d3.sz) (o5 : f5.offset = 0 + d0.sz + d1.sz + d2.sz + d3.sz + d4.sz) (c0 : P.cellsOf f0.type = d0.sz) (c1 : P.cellsOf f1.type = d1.sz) (c2 : P.cellsOf f2.type = d2.sz) (c3 : P.cellsOf f3.type = d3.sz) (c4 : P.cellsOf f4.type = d4.sz) (c5 : P.cellsOf f5.type = d5.sz) (h0 : Op_ P f0.type d0 p0 m0) (h1 : Op_ P f1.type d1 p1 m1) (h2 : Op_ P f2.type d2 p2 m2) (h3 : Op_ P f3.type d3 p3 m3) (h4 : Op_ P f4.type d4 p4 m4) (h5 : Op_ P f5.type d5 p5 m5) (hc : P.cellsOf t = (Kd.pair d0 (Kd.pair d1 (Kd.pair d2 (Kd.pair d3 (Kd.pair d4 d5))))).sz) :
    Op_ P t (Kd.pair d0 (Kd.pair d1 (Kd.pair d2 (Kd.pair d3 (Kd.pair d4 d5))))) (fun x => p0 x.1 ∧ p1 x.2.1 ∧ p2 x.2.2.1 ∧ p3 x.2.2.2.1 ∧ p4 x.2.2.2.2.1 ∧ p5 x.2.2.2.2.2) (fun x => m0 x.1 + (m1 x.2.1 + (m2 x.2.2.1 + (m3 x.2.2.2.1 + (m4 x.2.2.2.2.1 + m5 x.2.2.2.2.2))))) := op_struct ht hc (fs_cons o0 c0 h0 (fs_cons o1 c1 h1 (fs_cons o2 c2 h2 (fs_cons o3 c3 h3 (fs_cons o4 c4 h4 (fs_last o5 c5 h5))))))
theorem op_struct7 {α0 α1 α2 α3 α4 α5 α6 : Type} {P : Program} {t : TypeId} {f0 f1 f2 f3 f4 f5 f6 : Field} {d0 : Kd α0} {p0 : α0 → Prop} {m0 : α0 → Nat} {d1 : Kd α1} {p1 : α1 → Prop} {m1 : α1 → Nat} {d2 : Kd α2} {p2 : α2 → Prop} {m2 : α2 → Nat} {d3 : Kd α3} {p3 : α3 → Prop} {m3 : α3 → Nat} {d4 : Kd α4} {p4 : α4 → Prop} {m4 : α4 → Nat} {d5 : Kd α5} {p5 : α5 → Prop} {m5 : α5 → Nat} {d6 : Kd α6} {p6 : α6 → Prop} {m6 : α6 → Nat} (ht : P.underlying t = some (.struct #[f0, f1, f2, f3, f4, f5, f6])) (o0 : f0.offset = 0) (o1 : f1.offset = 0 + d0.sz) (o2 : f2.offset = 0 + d0.sz + d1.sz) (o3 : f3.offset = 0 + d0.sz + d1.sz + d2.sz) (o4 : f4.offset = 0 + d0.sz + d1.sz + d2.sz + d3.sz) (o5 : f5.offset = 0 + d0.sz + d1.sz + d2.sz + d3.sz + d4.sz) (o6 : f6.offset = 0 + d0.sz + d1.sz + d2.sz + d3.sz + d4.sz + d5.sz) (c0 : P.cellsOf f0.type = d0.sz) (c1 : P.cellsOf f1.type = d1.sz) (c2 : P.cellsOf f2.type = d2.sz) (c3 : P.cellsOf f3.type = d3.sz) (c4 : P.cellsOf f4.type = d4.sz) (c5 : P.cellsOf f5.type = d5.sz) (c6 : P.cellsOf f6.type = d6.sz) (h0 : Op_ P f0.type d0 p0 m0) (h1 : Op_ P f1.type d1 p1 m1) (h2 : Op_ P f2.type d2 p2 m2) (h3 : Op_ P f3.type d3 p3 m3) (h4 : Op_ P f4.type d4 p4 m4) (h5 : Op_ P f5.type d5 p5 m5) (h6 : Op_ P f6.type d6 p6 m6) (hc : P.cellsOf t = (Kd.pair d0 (Kd.pair d1 (Kd.pair d2 (Kd.pair d3 (Kd.pair d4 (Kd.pair d5 d6)))))).sz) :
    Op_ P t (Kd.pair d0 (Kd.pair d1 (Kd.pair d2 (Kd.pair d3 (Kd.pair d4 (Kd.pair d5 d6)))))) (fun x => p0 x.1 ∧ p1 x.2.1 ∧ p2 x.2.2.1 ∧ p3 x.2.2.2.1 ∧ p4 x.2.2.2.2.1 ∧ p5 x.2.2.2.2.2.1 ∧ p6 x.2.2.2.2.2.2) (fun x => m0 x.1 + (m1 x.2.1 + (m2 x.2.2.1 + (m3 x.2.2.2.1 + (m4 x.2.2.2.2.1 + (m5 x.2.2.2.2.2.1 + m6 x.2.2.2.2.2.2)))))) := op_struct ht hc (fs_cons o0 c0 h0 (fs_cons o1 c1 h1 (fs_cons o2 c2 h2 (fs_cons o3 c3 h3 (fs_cons o4 c4 h4 (fs_cons o5 c5 h5 (fs_last o6 c6 h6)))))))
theorem op_struct8 {α0 α1 α2 α3 α4 α5 α6 α7 : Type} {P : Program} {t : TypeId} {f0 f1 f2 f3 f4 f5 f6 f7 : Field} {d0 : Kd α0} {p0 : α0 → Prop} {m0 : α0 → Nat} {d1 : Kd α1} {p1 : α1 → Prop} {m1 : α1 → Nat} {d2 : Kd α2} {p2 : α2 → Prop} {m2 : α2 → Nat} {d3 : Kd α3} {p3 : α3 → Prop} {m3 : α3 → Nat} {d4 : Kd α4} {p4 : α4 → Prop} {m4 : α4 → Nat} {d5 : Kd α5} {p5 : α5 → Prop} {m5 : α5 → Nat} {d6 : Kd α6} {p6 : α6 → Prop} {m6 : α6 → Nat} {d7 : Kd α7} {p7 : α7 → Prop} {m7 : α7 → Nat} (ht : P.underlying t = some (.struct #[f0, f1, f2, f3, f4, f5, f6, f7])) (o0 : f0.offset = 0) (o1 : f1.offset = 0 + d0.sz) (o2 : f2.offset = 0 + d0.sz + d1.sz) (o3 : f3.offset = 0 + d0.sz + d1.sz + d2.sz) (o4 : f4.offset = 0 + d0.sz + d1.sz + d2.sz + d3.sz) (o5 : f5.offset = 0 + d0.sz + d1.sz + d2.sz + d3.sz + d4.sz) (o6 : f6.offset = 0 + d0.sz + d1.sz + d2.sz + d3.sz + d4.sz + d5.sz) (o7 : f7.offset = 0 + d0.sz + d1.sz + d2.sz + d3.sz + d4.sz + d5.sz + d6.sz) (c0 : P.cellsOf f0.type = d0.sz) (c1 : P.cellsOf f1.type = d1.sz) (c2 : P.cellsOf f2.type = d2.sz) (c3 : P.cellsOf f3.type = d3.sz) (c4 : P.cellsOf f4.type = d4.sz) (c5 : P.cellsOf f5.type = d5.sz) (c6 : P.cellsOf f6.type = d6.sz) (c7 : P.cellsOf f7.type = d7.sz) (h0 : Op_ P f0.type d0 p0 m0) (h1 : Op_ P f1.type d1 p1 m1) (h2 : Op_ P f2.type d2 p2 m2) (h3 : Op_ P f3.type d3 p3 m3) (h4 : Op_ P f4.type d4 p4 m4) (h5 : Op_ P f5.type d5 p5 m5) (h6 : Op_ P f6.type d6 p6 m6) (h7 : Op_ P f7.type d7 p7 m7) (hc : P.cellsOf t = (Kd.pair d0 (Kd.pair d1 (Kd.pair d2 (Kd.pair d3 (Kd.pair d4 (Kd.pair d5 (Kd.pair d6 d7))))))).sz) :
    Op_ P t (Kd.pair d0 (Kd.pair d1 (Kd.pair d2 (Kd.pair d3 (Kd.pair d4 (Kd.pair d5 (Kd.pair d6 d7))))))) (fun x => p0 x.1 ∧ p1 x.2.1 ∧ p2 x.2.2.1 ∧ p3 x.2.2.2.1 ∧ p4 x.2.2.2.2.1 ∧ p5 x.2.2.2.2.2.1 ∧ p6 x.2.2.2.2.2.2.1 ∧ p7 x.2.2.2.2.2.2.2) (fun x => m0 x.1 + (m1 x.2.1 + (m2 x.2.2.1 + (m3 x.2.2.2.1 + (m4 x.2.2.2.2.1 + (m5 x.2.2.2.2.2.1 + (m6 x.2.2.2.2.2.2.1 + m7 x.2.2.2.2.2.2.2))))))) := op_struct ht hc (fs_cons o0 c0 h0 (fs_cons o1 c1 h1 (fs_cons o2 c2 h2 (fs_cons o3 c3 h3 (fs_cons o4 c4 h4 (fs_cons o5 c5 h5 (fs_cons o6 c6 h6 (fs_last o7 c7 h7))))))))

theorem op_iso {α β : Type} {P : Program} {t : TypeId} {d : Kd α} {p : α → Prop} {m : α → Nat} (h : Op_ P t d p m) (f : β → α) (g : α → β) (hg : ∀ x, f (g x) = x) : Op_ P t (Kd.iso d f) (fun b => p (f b)) (fun b => m (f b)) := by
  intro H enc w base spare held fuel cs x hx
  obtain ⟨a, hk, hp, hm⟩ := h hx
  exact ⟨g a, by show d.K w (f (g a)) cs; rw [hg]; exact hk, by show p (f (g a)); rw [hg]; exact hp, by show m (f (g a)) ≤ _; rw [hg]; exact hm⟩

def sumOf {α : Type} (m : α → Nat) : List α → Nat
  | [] => 0
  | a :: l => m a + sumOf m l

theorem sumOf_len {α : Type} {m : α → Nat} (h : ∀ a, 1 ≤ m a) : ∀ l : List α, l.length ≤ sumOf m l
  | [] => Nat.le_refl _
  | a :: l => by have := sumOf_len h l; have := h a; simp only [List.length_cons, sumOf]; omega

theorem sumOf_mem {α : Type} {m : α → Nat} : ∀ {l : List α} {a : α}, a ∈ l → m a ≤ sumOf m l
  | b :: l, a, h => by
    simp only [sumOf]
    rcases List.mem_cons.1 h with rfl | h
    · omega
    · have := sumOf_mem (m := m) h; omega

theorem cells_at {w : World} {base : Nat} {a : Addr} {n : Nat} {cs : List Value} (h : w.cells? base a n = some cs) : cs.length = n ∧ ∀ j u, cs[j]? = some u → w.cell? (a.add j) = some u := by
  obtain ⟨_, hl, hc⟩ := World.cells?_some h
  refine ⟨hl, fun j u hu => ?_⟩
  have hj : j < n := by rw [← hl]; exact (List.getElem?_eq_some_iff.1 hu).1
  rw [hc j hj, hu]

theorem pick_list {α : Type} {q : Nat → α → Prop} : ∀ n : Nat, (∀ i, i < n → ∃ a, q i a) → ∃ l : List α, l.length = n ∧ ∀ i a, l[i]? = some a → q i a
  | 0, _ => ⟨[], rfl, fun i a h => by simp at h⟩
  | n + 1, h => by
    obtain ⟨l, hl, hq⟩ := pick_list n (fun i hi => h i (by omega))
    obtain ⟨a, ha⟩ := h n (by omega)
    refine ⟨l ++ [a], by simp [hl], fun i b hi => ?_⟩
    rcases Nat.lt_or_ge i l.length with hlt | hge
    · rw [List.getElem?_append_left hlt] at hi; exact hq i b hi
    · have hi' : i = n := by
        have := (List.getElem?_eq_some_iff.1 hi).1
        simp at this; omega
      subst hi'
      rw [List.getElem?_append_right hge, hl] at hi
      simp at hi
      subst hi
      exact ha

theorem sum_le_bulk {α H : Type} {m : α → Nat} {D : Nat → DataW H} : ∀ (l : List α) (k : Nat), (∀ i a, l[i]? = some a → m a ≤ Rows.uptoBulk (D (k + i))) → sumOf m l ≤ Rows.uptoBulkAll ((List.range' k l.length).map D)
  | [], _, _ => Nat.zero_le _
  | a :: l, k, h => by
    have h0 := h 0 a rfl
    have ih := sum_le_bulk l (k + 1) (fun i b hi => by have := h (i + 1) b hi; rwa [show k + (i + 1) = k + 1 + i by omega] at this)
    simp only [List.length_cons, List.range'_succ, List.map_cons, Rows.uptoBulkAll, sumOf]
    simp only [Nat.add_zero] at h0
    omega

theorem op_slice {α : Type} {P : Program} {t e : TypeId} {d : Kd α} {p : α → Prop} {m : α → Nat} (ht : P.underlying t = some (.slice e)) (hc : P.cellsOf e = d.sz) (h : Op_ P e d p m) :
    Op_ P t (Kd.slice e d) (fun xs => xs.length ≤ 9223372036854775807 ∧ ∀ x ∈ xs, p x) (fun xs => sumOf m xs + 1) := by
  intro H enc w base spare held fuel cs x hx
  rcases open_slice ht hx with ⟨rfl, rfl⟩ | ⟨a, len, cap, mm, n, D, Pl, rfl, hb, hl, hm, hmm, rfl, hi⟩
  · exact ⟨[], ⟨none, 0, rfl, Nat.le_refl _, Kd.C_nil d w⟩, ⟨by simp, fun x hx => by simp at hx⟩, by simp [sumOf, Rows.uptoBulk]⟩
  · have hlm : len ≤ mm := by rw [hmm]; split <;> omega
    obtain ⟨xs, hxl, hxs⟩ := pick_list (q := fun i (b : α) => (∃ c, c.length = d.sz ∧ d.K w b c ∧ ∀ j u, c[j]? = some u → w.cell? (a.add (i * d.sz + j)) = some u) ∧ p b ∧ m b ≤ Rows.uptoBulk (D i)) len (fun i hi' => by
      obtain ⟨cs', hcs, htr⟩ := hi i (by omega)
      obtain ⟨b, hk, hp, hmb⟩ := h htr
      rw [hc] at hcs
      obtain ⟨hcl, hcc⟩ := cells_at hcs
      refine ⟨b, ⟨cs', hcl, hk, fun j u hu => ?_⟩, hp, hmb⟩
      rw [← Go.Deep.add_add]
      exact hcc j u hu)
    subst hxl
    unfold maxLen at hm
    refine ⟨xs, ⟨some a, cap, rfl, hl, rfl, by omega, fun _ => ⟨a, rfl, fun j b hj => (hxs j b hj).1⟩⟩, ⟨by omega, fun b hb' => ?_⟩, ?_⟩
    · obtain ⟨i, hi', rfl⟩ := List.getElem_of_mem hb'
      exact (hxs i _ (List.getElem?_eq_getElem hi')).2.1
    · have := sum_le_bulk (D := D) xs 0 (fun i b hib => by simpa using (hxs i b hib).2.2)
      rw [← List.range_eq_range'] at this
      simp only [Rows.uptoBulk]
      omega

/-! An argument -/
section
variable {H : Type} {enc : TypeId × Value → H} {P : Program} {w : World} {base b0 : Nat} {spare : Nat → Bool} {held : Bool} {r : Reach} {t : TypeId} {v : Value} {x : DataW H} {q : List MemPlace}
theorem arg_struct {α : Type} {fs : Array Field} {d : Kd α} {p : α → Prop} {m : α → Nat} (ht : P.underlying t = some (.struct fs)) (hv : Value.okWide P w r b0 t v) (h : DataW.Trod enc P w base spare held t v x q) (ho : Op_ P t d p m) :
    ∃ (a : α) (cs : List Value), v = .agg cs.toArray ∧ d.K w a cs ∧ p a ∧ m a ≤ Rows.uptoBulk x := by
  obtain ⟨cs, rfl, _⟩ := okWide_struct ht hv
  obtain ⟨fuel, hf⟩ := h
  obtain ⟨a, hk, hp, hm⟩ := ho hf
  exact ⟨a, cs.toList, rfl, hk, hp, hm⟩
theorem arg_slice {α : Type} {e : TypeId} {d : Kd α} {p : α → Prop} {m : α → Nat} (ht : P.underlying t = some (.slice e)) (hv : Value.okWide P w r b0 t v) (h : DataW.Trod enc P w base spare held t v x q) (hc : P.cellsOf e = d.sz) (ho : Op_ P e d p m) :
    ∃ (xs : List α) (A : Option Addr) (c : Nat), v = .slice A xs.length c ∧ xs.length ≤ c ∧ d.C w A xs.length xs ∧ xs.length ≤ 9223372036854775807 ∧ (∀ a ∈ xs, p a) ∧ sumOf m xs + 1 ≤ Rows.uptoBulk x := by
  obtain ⟨a0, len, cap, rfl⟩ := okWide_slice ht hv
  obtain ⟨fuel, hf⟩ := h
  obtain ⟨xs, ⟨A, c, he, hl, hC⟩, ⟨hn, hp⟩, hm⟩ := op_slice ht hc ho hf
  have he' : (Value.slice a0 len cap) = .slice A xs.length c := by simpa [Value.cells] using he
  exact ⟨xs, A, c, he', hl, hC, hn, hp, hm⟩
end
theorem wf_i64 {n : Int} (h : (Lit.int .i64 n).wf = true) : -9223372036854775808 ≤ n ∧ n ≤ 9223372036854775807 := by
  simpa [Lit.wf, IntKind.min, IntKind.max, IntKind.signed, IntKind.bits] using h
end Go.Proofs.Ytpjbgcpieijeaaa.Opn
