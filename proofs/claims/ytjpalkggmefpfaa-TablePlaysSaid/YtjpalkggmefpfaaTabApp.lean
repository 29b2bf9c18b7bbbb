/- append of a list of rows, however long the reading lets a list be. -/
import Derived.Test.YtjpalkggmefpfaaTabRef
import Derived.Maps.AppendAt
import Derived.Laws.OwnMore
set_option linter.unusedVariables false
set_option linter.unusedSimpArgs false
namespace Go.Proofs.Ytjpalkggmefpfaa.Tab
open Go.RowKit Go.Proofs.Ytjpalkggmefpfaa.Mem Go.Proofs.YtjpalkggmefpfaaW.PrintWords Go.Proofs.YtjpalkggmefpfaaW.PrintLast Go.Deep Go.Proofs.Ytjpalkggmefpfaa.Opn
theorem nextcap_le {need old : Nat} (h : old < need) : 4 * Builtin.nextslicecap need old ≤ 5 * need + 2048 := by
  unfold Builtin.nextslicecap
  split
  · omega
  · split
    · omega
    · rw [growBy_four]
      repeat' split
      all_goals omega
theorem rows_one {ys : List Row} {news : List Value} {w : World} (h : Reps (kR.K w) 3 ys news) : ∀ u ∈ news, u.oneCell' = true := by
  intro u hu
  obtain ⟨q, hq, rfl⟩ := List.mem_iff_getElem.1 hu
  have hql : q / 3 < ys.length := by have := h.1; omega
  have hc := h.2 (q / 3) _ (List.getElem?_eq_getElem hql)
  have e := kR_cells hc
  have h1 : ((news.drop (q / 3 * 3)).take 3)[q % 3]? = some news[q] := by
    rw [List.getElem?_take_of_lt (by omega), List.getElem?_drop, show q / 3 * 3 + q % 3 = q by omega, List.getElem?_eq_getElem hq]
  rw [e] at h1
  have h2 := List.mem_of_getElem? h1
  simp only [Row.cells, List.mem_cons, List.not_mem_nil, or_false] at h2
  rcases h2 with h2 | h2 | h2 <;> rw [h2] <;> rfl
theorem append_wide (W : World) (ty : TypeId) {base : Nat} {v : Value} {xs ys : List Row} (HO : kR.R tRow W base (fun _ => True) v xs) {ad : Addr} {m c : Nat} (HR : kR.C W (some ad) m ys) (hm : 0 < m) (hl : (xs.length + m) * 40 ≤ 150000000000000) (hbase : base ≤ W.heap.size) :
    ∃ v1 w1, (Builtin.append_ #[tRows, tRows] ty #[v, .slice (some ad) m c]).run Try.prog W = .ok v1 w1 ∧ kR.R tRow w1 base (fun _ => True) v1 (xs ++ ys) ∧ W.grownBy w1 v.ownBlock ∧ (∀ k, v.ownBlock = some k → base ≤ k) := by
  obtain ⟨i0, hi, hz0, hz1, hz2⟩ := info_parts infoRow
  obtain ⟨_, inner, hown, hr⟩ := HO
  obtain ⟨news, hnr, hnc⟩ := ReadsRow.inner_ HR
  have hone := rows_one hnr
  have hys : ys.length = m := HR.1
  have hnl : news.length = m * 3 := by rw [hnr.1, hys]; rfl
  have hR : ∀ (w1 : World) (v1 : Value), w1.ownsRow base tRow 3 v1 (xs.length + m) (inner ++ news) → kR.R tRow w1 base (fun _ => True) v1 (xs ++ ys) := fun w1 v1 ho => by
    refine ⟨fun _ _ => trivial, inner ++ news, by rw [List.length_append, hys]; exact ho, ?_⟩
    exact Kd.reps_append (hr.imp_ (fun p cs hp => by rw [kR_cells (kR.K_of_M hp)]; exact kR_M ..)) (hnr.imp_ (fun p cs hp => by rw [kR_cells hp]; exact kR_M ..))
  have hu := Try.underlying29
  have h63 : xs.length + m ≤ maxLen := by simp only [maxLen]; omega
  have hlen : (inner ++ news).length = (xs.length + m) * i0.size := by rw [List.length_append, hown.1, hnl, hz1, Nat.add_mul]; rfl
  have grown : ∀ (old : Nat), old < xs.length + m → ∀ (row : Option Nat),
      (W.drew.alloc (.cells (inner.toArray ++ news.toArray ++ Builtin.zeroCells (Value.agg #[.string ⟨#[]⟩, .string ⟨#[]⟩, .int .i64 0]).cells (grownCap W (xs.length + m) old tRow - (xs.length + m))) tRow)).ownsRow base tRow 3
        (.slice (some ⟨W.heap.size, 0, none⟩) (xs.length + m) (grownCap W (xs.length + m) old tRow)) (xs.length + m) (inner ++ news) ∧
      W.grownBy (W.drew.alloc (.cells (inner.toArray ++ news.toArray ++ Builtin.zeroCells (Value.agg #[.string ⟨#[]⟩, .string ⟨#[]⟩, .int .i64 0]).cells (grownCap W (xs.length + m) old tRow - (xs.length + m))) tRow)) row := by
    intro old ho row
    have hge := grownCap_ge W (xs.length + m) old tRow
    have hcm : grownCap W (xs.length + m) old tRow ≤ maxLen := grownCap_le_maxLen W (xs.length + m) old tRow h63
    have hzs : (Value.agg #[.string ⟨#[]⟩, .string ⟨#[]⟩, .int .i64 0]).cells.size = 3 := rfl
    have hin : inner.length = xs.length * 3 := hown.1
    refine ⟨⟨by rw [hlen, hz1], .inr ⟨W.heap.size, _, _, rfl, hbase, heap_alloc_new W.drew _, hge, hcm, ?_, ?_⟩⟩, ⟨rfl, rfl, rfl, by simp, fun k hk _ => heap_alloc_old W.drew _ hk⟩⟩
    · simp only [Array.size_append, List.size_toArray, size_zeroCells, hzs, hin, hnl]
      omega
    · simp only [Array.toList_append, List.append_assoc]
      rw [← List.append_assoc, show (xs.length + m) * 3 = (inner ++ news).length by rw [List.length_append, hin, hnl, Nat.add_mul]]
      exact List.take_left
  rcases hown.2 with ⟨rfl, h0⟩ | ⟨g, cap, cur, rfl, hbg, hg, hnc2, hcm, hcs, htake⟩
  · have hx0 : xs = [] := List.eq_nil_of_length_eq_zero h0
    subst hx0
    have hin0 : inner = [] := List.eq_nil_of_length_eq_zero (by have := hown.1; simpa using this)
    subst hin0
    have hrun := run_append_nil (P := Try.prog) W tRows ty tRow i0 _ hu hi hz0 ad m c news (by rw [hnl, hz1]) hnc hm (by simp only [List.length_nil] at hl; omega) (by rw [hz2]; simp only [List.length_nil] at hl; omega)
    have hgr := grown 0 (by omega) (Value.ownBlock (.slice none 0 0))
    simp only [List.length_nil, Nat.zero_add, List.nil_append, Array.empty_append] at hgr
    exact ⟨_, _, hrun, hR _ _ (by simpa using hgr.1), hgr.2, fun k hk => by simp [Value.ownBlock] at hk⟩
  · have hbk : ∀ k, (Value.slice (some ⟨g, 0, none⟩) xs.length cap).ownBlock = some k → base ≤ k := fun k hk => by
      simp [Value.ownBlock] at hk
      omega
    by_cases hroom : xs.length + m ≤ cap
    · obtain ⟨w1, hrun, ho, hgr⟩ := run_append_fits (P := Try.prog) W base tRows ty tRow i0 3 hu hi hz1 g xs.length cap inner hown ad m c news hnl hnc hone hroom
      exact ⟨_, _, hrun, hR _ _ ho, hgr, hbk⟩
    · have holds : ∀ j u, inner[j]? = some u → W.cell? ((⟨g, 0, none⟩ : Addr).add j) = some u := hown.cells (g := g) rfl
      have hnx := nextcap_le (need := xs.length + m) (old := cap) (by omega)
      have hrun := run_append_grow (P := Try.prog) W tRows ty tRow i0 _ hu hi hz0 ⟨g, 0, none⟩ xs.length cap inner (by rw [hown.1, hz1]; rfl) holds ad m c news (by rw [hnl, hz1]) hnc (by omega) (by omega) (by rw [hz2]; omega)
      have hgr := grown cap (by omega) (Value.ownBlock (.slice (some ⟨g, 0, none⟩) xs.length cap))
      exact ⟨_, _, hrun, hR _ _ hgr.1, hgr.2, hbk⟩
section
variable {ops : Array Oper} {rest : List Oper} {o : Oper} {a : Act} {Q : Exit → Act → World → Prop}
theorem R_append_wide {w0 W : World} (base : Nat) (hgd : o.guard = none) (s x : Operand)
    (ho : o.op = .call { callee := .builtin .append, args := #[s, x], argTypes := #[tRows, tRows] })
    (v : Value) (xs ys : List Row) (A : Option Addr) (m c : Nat) (hs : a.eval s = v) (hx : a.eval x = .slice A m c)
    (HO : kR.R tRow W base (fun _ => True) v xs) (HR : kR.C W A m ys) (HB : Below base w0 W) (hbase : base ≤ W.heap.size) (hl : (xs.length + m) * 40 ≤ 150000000000000) (hl2 : xs.length ≤ 1048576 ∨ 0 < m)
    (h : ∀ v1 w1, kR.R tRow w1 base (fun _ => True) v1 (xs ++ ys) → Below base w0 w1 → W.grownBy w1 v.ownBlock → wpList Try.prog ops Q rest (a.put o.dst v1) w1) :
    wpList Try.prog ops Q (o :: rest) a W := by
  by_cases hb : (xs.length + m) * 40 ≤ 140737488355328
  · exact Kd.R_append_rows kR (Rr := kR.K W) (w0 := w0) base hgd s x 29 tRow (.agg #[.string ⟨#[]⟩, .string ⟨#[]⟩, .int .i64 0]) 40 ho Try.underlying29 info_R rfl (by decide) (by decide) v xs ys A m c (fun _ => True) (fun _ => False) hs hx HO HR (fun y cs hy => by rw [kR_cells hy]; exact kR_M ..) (fun _ h => h.elim) (fun _ _ => trivial) HB hbase hb (fun v1 w1 hr1 hb1 hg1 _ => h v1 w1 hr1 hb1 hg1)
  · obtain ⟨ad, rfl, _⟩ := HR.2.2 (by omega)
    obtain ⟨v1, w1, hrun, hR, hgr, hbk⟩ := append_wide W o.type HO (c := c) HR (by omega) hl hbase
    refine wpList_plain hgd fun K hK => ?_
    unfold Oper.wp execOp
    simp only [ho, resolve, invoke, builtin, Sem.run_bind, Sem.run_pure, Result.andThen_ok, List.map_toArray, List.map_cons, List.map_nil, hs, hx, hrun]
    exact hK _ _ (h v1 w1 hR (HB.grown hgr hbase hbk) hgr)
end
end Go.Proofs.Ytjpalkggmefpfaa.Tab
