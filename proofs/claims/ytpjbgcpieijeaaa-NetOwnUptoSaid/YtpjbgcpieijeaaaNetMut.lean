/- A byte of what is now is written; a flight comes behind; two change places; one goes. -/
import Derived.Test.YtpjbgcpieijeaaaNetFlips
set_option linter.unusedVariables false
set_option linter.unusedSimpArgs false
namespace Go.Proofs.Ytpjbgcpieijeaaa.Net
open Go.RowKit Go.Proofs.Ytpjbgcpieijeaaa.Mem Go.Proofs.YtpjbgcpieijeaaaW.PrintWords Go.Proofs.Ytpjbgcpieijeaaa.Byt Go.Proofs.Ytpjbgcpieijeaaa.Opn
section
variable {w w1 : World} {base g m : Nat} {O O' : Nat → Prop} {nd cl : Int} {v : Value} {fls : List Fl} {sent : List LtT}
theorem own_cell {bs : List Int} (h : Ow w base v bs) {j : Nat} {x : Int} (hj : bs[j]? = some x) :
    ∃ ad c, v = .slice (some ad) bs.length c ∧ bs.length ≤ c ∧ w.cell? (ad.add j) = some (.int .u8 x) ∧ w.frozen? (ad.add j) = false ∧ v.ownBlock = some (ad.add j).block ∧ ∀ y, Ow (w.setCell (ad.add j) (.int .u8 y)) base v (bs.set j y) := by
  have hl := (List.getElem?_eq_some_iff.1 hj).1
  obtain ⟨h1, h2⟩ := h
  rcases h2 with ⟨rfl, h0⟩ | ⟨b, cap, cur, rfl, hb, hh, hn, hm, hs, ht⟩
  · omega
  · have ha : (⟨b, 0, none⟩ : Addr).add j = ⟨b, j, none⟩ := by rw [add_plain]
    have hc : cur[j]? = some (.int .u8 x) := by
      rw [← Array.getElem?_toList, ← List.getElem?_take_of_lt (show j < bs.length * 1 by omega), ht, nums, List.getElem?_map, hj]
      rfl
    refine ⟨⟨b, 0, none⟩, cap, rfl, hn, by rw [ha, blkc hh j]; exact hc, by rw [ha]; exact blkz hh j, by rw [ha]; rfl, fun y => ?_⟩
    rw [ha]
    refine ⟨by rw [nums_length, List.length_set, Nat.mul_one], .inr ⟨b, cap, cur.setIfInBounds j (.int .u8 y), by rw [List.length_set], hb, blk_set hh j (.int .u8 y), by rw [List.length_set]; exact hn, hm, by rw [Array.size_setIfInBounds]; exact hs, ?_⟩⟩
    rw [Array.toList_setIfInBounds, List.take_set, List.length_set, ht, nums, nums, List.map_set]
theorem WayR.same {fls' : List Fl} (h : WayR w base v fls) (hl : fls'.length = fls.length) (hc : cellsOf fls' = cellsOf fls) : WayR w base v fls' := by
  unfold WayR at h ⊢
  rw [hl, hc]
  exact h
theorem cellsOf_set {f f' : Fl} (hf : f'.cells = f.cells) : ∀ (fls : List Fl) (i : Nat), fls[i]? = some f → cellsOf (fls.set i f') = cellsOf fls
  | [], i, h => by simp at h
  | g :: fls, 0, h => by
    have : g = f := by simpa using h
    subst this
    simp [cellsOf, hf]
  | g :: fls, i + 1, h => by
    have := cellsOf_set hf fls i (by simpa using h)
    simp only [cellsOf, List.set_cons_succ, List.flatMap_cons] at this ⊢
    rw [this]
theorem set_at {fls : List Fl} {i j : Nat} {f' x : Fl} (h : (fls.set i f')[j]? = some x) : (i = j ∧ x = f') ∨ (i ≠ j ∧ fls[j]? = some x) := by
  rw [List.getElem?_set] at h
  by_cases hij : i = j
  · rw [if_pos hij] at h
    split at h
    · exact .inl ⟨hij, (Option.some.inj h).symm⟩
    · cases h
  · rw [if_neg hij] at h
    exact .inr ⟨hij, h⟩
/-- A byte of what is now is written. -/
theorem NetR.setNow (h : NetR w base O g m nd cl v fls sent) {i j : Nat} {f : Fl} (hi : fls[i]? = some f) {x : Int} (hj : f.nb[j]? = some x) :
    ∃ ad c, f.nv = .slice (some ad) f.nb.length c ∧ w.cell? (ad.add j) = some (.int .u8 x) ∧ w.frozen? (ad.add j) = false ∧ O (ad.add j).block ∧ ∀ y : Int, 0 ≤ y ∧ y < 256 → NetR (w.setCell (ad.add j) (.int .u8 y)) base O g m nd cl v (fls.set i ⟨f.src, f.dst, f.sv, f.nv, f.sb, f.nb.set j y⟩) sent := by
  have hf := h.fl f (List.mem_of_getElem? hi)
  obtain ⟨ad, c, hv, _, h1, h2, h3, h4⟩ := own_cell hf.n hj
  refine ⟨ad, c, hv, h1, h2, hf.on _ h3, fun y hy => ?_⟩
  have mv : ∀ k, k ≠ (ad.add j).block → (w.setCell (ad.add j) (.int .u8 y)).heap[k]? = w.heap[k]? := fun k hk => Below.heap_setCell w _ _ k hk
  have hg := (h.g_not.2 f (List.mem_of_getElem? hi)).2
  have hm := (h.m_not.2 f (List.mem_of_getElem? hi)).2
  refine ⟨(mv g (fun e => hg (by rw [h3, e]))).trans h.net, (h.way.move (fun k hk => mv k (fun e => (h.w_not hk f (List.mem_of_getElem? hi)).2 (by rw [h3, e])))).same (by rw [List.length_set]) (cellsOf_set (f := f) (f' := ⟨f.src, f.dst, f.sv, f.nv, f.sb, f.nb.set j y⟩) rfl fls i hi), fun f2 hf2 => ?_, ?_, h.mp.block (mv m (fun e => hm (by rw [h3, e]))), h.og, h.om, h.ov, h.ob, h.nn, h.nc⟩
  · obtain ⟨k, hk⟩ := List.getElem?_of_mem hf2
    rcases set_at hk with ⟨rfl, rfl⟩ | ⟨hik, hk⟩
    · exact ⟨hf.s.move (fun q hq => mv q (fun e => (h.sep i i f f hi hi _ h3).1 (by rw [hq, e]))), h4 y, hf.os, hf.on, by rw [List.length_set]; exact hf.len, hf.rs, fun z hz => (List.mem_or_eq_of_mem_set hz).elim (hf.rn z) (fun e => by rw [e]; exact hy), by rw [List.length_set]; exact hf.lb⟩
    · have hf' := h.fl f2 (List.mem_of_getElem? hk)
      have hs := h.sep i k f f2 hi hk _ h3
      exact ⟨hf'.s.move (fun q hq => mv q (fun e => hs.1 (by rw [hq, e]))), hf'.n.move (fun q hq => mv q (fun e => hs.2 hik (by rw [hq, e]))), hf'.os, hf'.on, hf'.len, hf'.rs, hf'.rn, hf'.lb⟩
  · have key : ∀ (a : Nat) (fa : Fl), (fls.set i ⟨f.src, f.dst, f.sv, f.nv, f.sb, f.nb.set j y⟩)[a]? = some fa → ∃ fa', fls[a]? = some fa' ∧ fa'.nv = fa.nv ∧ fa'.sv = fa.sv := fun a fa ha => by
      rcases set_at ha with ⟨rfl, rfl⟩ | ⟨_, ha⟩
      · exact ⟨f, hi, rfl, rfl⟩
      · exact ⟨fa, ha, rfl, rfl⟩
    intro a b fa fb ha hb k hk
    obtain ⟨fa', ha', e1, e2⟩ := key a fa ha
    obtain ⟨fb', hb', e3, e4⟩ := key b fb hb
    have := h.sep a b fa' fb' ha' hb' k (by rw [e1]; exact hk)
    rw [e3, e4] at this
    exact this
/-- One more flight. -/
theorem Apart.snoc {f : Fl} (h : Apart fls) (h1 : ∀ k, f.nv.ownBlock = some k → f.sv.ownBlock ≠ some k ∧ ∀ f' ∈ fls, f'.sv.ownBlock ≠ some k ∧ f'.nv.ownBlock ≠ some k) (h2 : ∀ f' ∈ fls, ∀ k, f'.nv.ownBlock = some k → f.sv.ownBlock ≠ some k ∧ f.nv.ownBlock ≠ some k) : Apart (fls ++ [f]) := by
  intro a b fa fb ha hb k hk
  have key : ∀ (a : Nat) (fa : Fl), (fls ++ [f])[a]? = some fa → fls[a]? = some fa ∨ (a = fls.length ∧ fa = f) := fun a fa ha => by
    rcases Nat.lt_or_ge a fls.length with hl | hl
    · rw [List.getElem?_append_left hl] at ha
      exact .inl ha
    · rw [List.getElem?_append_right hl] at ha
      have h0 : a - fls.length = 0 := by
        rcases Nat.eq_zero_or_pos (a - fls.length) with h0 | h0
        · exact h0
        · rw [List.getElem?_eq_none (by simp only [List.length_singleton]; omega)] at ha
          cases ha
      rw [h0] at ha
      exact .inr ⟨by omega, (Option.some.inj ha).symm⟩
  rcases key a fa ha with ha' | ⟨ha', rfl⟩ <;> rcases key b fb hb with hb' | ⟨hb', rfl⟩
  · exact h a b fa fb ha' hb' k hk
  · exact ⟨(h2 fa (List.mem_of_getElem? ha') k hk).1, fun _ => (h2 fa (List.mem_of_getElem? ha') k hk).2⟩
  · exact ⟨((h1 k hk).2 fb (List.mem_of_getElem? hb')).1, fun _ => ((h1 k hk).2 fb (List.mem_of_getElem? hb')).2⟩
  · exact ⟨(h1 k hk).1, fun hab => absurd (by omega) hab⟩
theorem ow_ne {bs : List Int} {u : Value} (h : Ow w base u bs) {k t : Nat} {cs : Array Value} (hk : w.heap[k]? = some (.cells cs t (0, 0))) (ht : t ≠ tU8) : u.ownBlock ≠ some k := fun e => by
  obtain ⟨cs', h2⟩ := h.typed e
  rw [hk] at h2
  injection h2 with h2
  injection h2 with _ h2 _
  exact ht h2
theorem way_ne {v' : Value} {fls' : List Fl} (h : WayR w base v' fls') {k t : Nat} {cs : Array Value} (hk : w.heap[k]? = some (.cells cs t (0, 0))) (ht : t ≠ tFl) : v'.ownBlock ≠ some k := fun e => by
  obtain ⟨_, _, cur, h2⟩ := h.lt k e
  rw [hk] at h2
  injection h2 with h2
  injection h2 with _ h2 _
  exact ht h2
/-- The net's block is given a row of flights: all that it then is. -/
theorem netR_way {v' : Value} {fls' : List Fl} (hn : w.heap[g]? = some (netC nd cl v m)) (hmp : MapR w m sent) (og : O g) (om : O m) (ob : ∀ k, O k → base ≤ k) (nn : 1 ≤ nd ∧ nd ≤ 8) (nc : 0 ≤ cl ∧ cl ≤ 16) (hw : WayR w base v' fls') (hf : ∀ f ∈ fls', FlR w base O f) (hs : Apart fls') (ho : ∀ k, v'.ownBlock = some k → O k) : NetR (w.setCell ⟨g, 2, none⟩ v') base O g m nd cl v' fls' sent := by
  have hg : ∀ k, k ≠ g → (w.setCell ⟨g, 2, none⟩ v').heap[k]? = w.heap[k]? := fun k hk => Below.heap_setCell w ⟨g, 2, none⟩ _ k hk
  refine ⟨by have := blk_set hn 2 v'; simpa using this, hw.move (fun k hk => hg k (fun e => way_ne hw hn (by decide) (by rw [hk, e]))), fun f hf' => ⟨(hf f hf').s.move (fun k hk => hg k (fun e => ow_ne (hf f hf').s hn (by decide) (by rw [hk, e]))), (hf f hf').n.move (fun k hk => hg k (fun e => ow_ne (hf f hf').n hn (by decide) (by rw [hk, e]))), (hf f hf').os, (hf f hf').on, (hf f hf').len, (hf f hf').rs, (hf f hf').rn, (hf f hf').lb⟩, hs, hmp.block (hg m (fun e => ?_)), og, om, ho, ob, nn, nc⟩
  subst e
  obtain ⟨es, n, h1, _⟩ := hmp
  rw [hn] at h1
  cases h1
/-- A flight has come behind. -/
theorem NetR.appended (h : NetR w base O g m nd cl v fls sent) {f : Fl} (hN : FlR w base O' f) (hO : ∀ k, O k → O' k) (hob : ∀ k, O' k → base ≤ k) (hsep : Apart (fls ++ [f])) {v1 : Value} {b : Nat} (hgo : w1.ownsRow base tFl 4 v1 (fls ++ [f]).length (cellsOf (fls ++ [f]))) (hg : w.grownBy w1 v.ownBlock) (hat : v1.ownBlock = v.ownBlock ∨ v1.ownBlock = some b) (hb : O' b) :
    NetR (w1.setCell ⟨g, 2, none⟩ v1) base O' g m nd cl v1 (fls ++ [f]) sent := by
  have mv : ∀ k, k < w.heap.size → v.ownBlock ≠ some k → w1.heap[k]? = w.heap[k]? := fun k hk hn => hg.block k hk (fun e => hn e.symm)
  have ne : ∀ {bs : List Int} {u : Value}, Ow w base u bs → ∀ k, u.ownBlock = some k → v.ownBlock ≠ some k := fun {bs u} hu k hk => by
    obtain ⟨cs, hc⟩ := hu.typed hk
    exact way_ne h.way hc (by decide)
  have mvO : ∀ {bs : List Int} {u : Value}, Ow w base u bs → Ow w1 base u bs := fun {bs u} hu => hu.move (fun k hk => mv k (own_lt hu k hk) (ne hu k hk))
  refine netR_way ((mv g (blk_lt h.net) h.g_not.1).trans h.net) (h.mp.block (mv m h.mp.lt h.m_not.1)) (hO _ h.og) (hO _ h.om) hob h.nn h.nc (.inl hgo) (fun f' hf' => ?_) hsep (fun k hk => ?_)
  · rcases List.mem_append.1 hf' with hf' | hf'
    · have hx := h.fl f' hf'
      exact ⟨mvO hx.s, mvO hx.n, fun k hk => hO k (hx.os k hk), fun k hk => hO k (hx.on k hk), hx.len, hx.rs, hx.rn, hx.lb⟩
    · rw [List.mem_singleton.1 hf']
      exact ⟨mvO hN.s, mvO hN.n, hN.os, hN.on, hN.len, hN.rs, hN.rn, hN.lb⟩
  · rcases hat with hat | hat
    · exact hO k (h.ov k (by rw [← hat]; exact hk))
    · rw [hat] at hk
      injection hk with hk
      rw [← hk]
      exact hb
/-- The map alone has changed. -/
theorem NetR.newMap {sent' : List LtT} (h : NetR w base O g m nd cl v fls sent) (hm : MapR w1 m sent') (hb : ∀ k, k ≠ m → w1.heap[k]? = w.heap[k]?) : NetR w1 base O g m nd cl v fls sent' :=
  ⟨(hb g h.gm).trans h.net, h.way.move (fun k hk => hb k (fun e => h.m_not.1 (by rw [hk, e]))), fun f hf => ⟨(h.fl f hf).s.move (fun k hk => hb k (fun e => (h.m_not.2 f hf).1 (by rw [hk, e]))), (h.fl f hf).n.move (fun k hk => hb k (fun e => (h.m_not.2 f hf).2 (by rw [hk, e]))), (h.fl f hf).os, (h.fl f hf).on, (h.fl f hf).len, (h.fl f hf).rs, (h.fl f hf).rn, (h.fl f hf).lb⟩, h.sep, hm, h.og, h.om, h.ov, h.ob, h.nn, h.nc⟩
theorem setBlock_ne (u : World) (m : Nat) (o : Obj) (k : Nat) (hk : k ≠ m) : (Go.ChangeMaps.setBlock u m o).heap[k]? = u.heap[k]? := by
  simp only [Go.ChangeMaps.setBlock]
  rw [Array.getElem?_setIfInBounds_ne (fun e => hk e.symm)]
theorem kept_block {S : Nat → Prop} {u : World} (h : Kept w u S) {m : Nat} (hm : S m) (o : Obj) : Kept w (Go.ChangeMaps.setBlock u m o) S :=
  h.then_ (S2 := fun k => k = m) ⟨by simp [Go.ChangeMaps.setBlock], fun k hk hn => setBlock_ne u m o k hn⟩ (fun k hk => .inl (by rw [hk]; exact hm))
/-- Only blocks that there are count. -/
theorem NetR.bound (h : NetR w base O g m nd cl v fls sent) : NetR w base (fun k => O k ∧ k < w.heap.size) g m nd cl v fls sent :=
  ⟨h.net, h.way, fun f hf => ⟨(h.fl f hf).s, (h.fl f hf).n, fun k hk => ⟨(h.fl f hf).os k hk, own_lt (h.fl f hf).s k hk⟩, fun k hk => ⟨(h.fl f hf).on k hk, own_lt (h.fl f hf).n k hk⟩, (h.fl f hf).len, (h.fl f hf).rs, (h.fl f hf).rn, (h.fl f hf).lb⟩, h.sep, h.mp, ⟨h.og, blk_lt h.net⟩, ⟨h.om, h.mp.lt⟩, fun k hk => ⟨h.ov k hk, (h.way.lt k hk).2.1⟩, fun k hk => h.ob k hk.1, h.nn, h.nc⟩
/-- A block that is none of the net's is written. -/
theorem NetR.far (h : NetR w base O g m nd cl v fls sent) {p : Addr} (hp : ¬ O p.block) (u : Value) : NetR (w.setCell p u) base O g m nd cl v fls sent :=
  h.move (fun k hk _ => Below.heap_setCell w p u k (fun e => hp (by rw [← e]; exact hk)))
end
section
variable {P : Program} {ops : Array Oper} {o : Oper} {a : Act} {Q : Exit → Act → World → Prop} {Kc : Act → World → Prop}
/-- An append whose run is known, in a region that draws its order. -/
theorem app_step {W : World} (hw : Region.wanted o (yielded ops a.tmps) = true) (s x : Operand) (t : TypeId) (ho : o.op = .call { callee := .builtin .append, args := #[s, x], argTypes := #[t, t] }) {vs vx v1 : Value} {w1 : World} (hs : a.eval s = vs) (hx : a.eval x = vx) (hrun : (Builtin.append_ #[t, t] o.type #[vs, vx]).run P W = .ok v1 w1) (h : Kc (a.put o.dst v1) w1) :
    if Region.wanted o (yielded ops a.tmps) = true then Oper.wp P o a W Kc Q else Kc (a.put o.dst undef) W := by
  rw [if_pos hw]
  unfold Oper.wp execOp
  simp only [ho, resolve, invoke, builtin, Sem.run_bind, Sem.run_pure, Result.andThen_ok, List.map_toArray, List.map_cons, List.map_nil, hs, hx, hrun]
  exact h
end
end Go.Proofs.Ytpjbgcpieijeaaa.Net
