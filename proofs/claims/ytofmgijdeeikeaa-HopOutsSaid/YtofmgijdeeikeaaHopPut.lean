/- A line's put, at, drop. -/
import Derived.Test.YtofmgijdeeikeaaHopLine
import Derived.Test.YtofmgijdeeikeaaWKept
import Derived.Deep.MidRow
import Derived.Laws.ResultCell
set_option linter.unusedVariables false
set_option linter.unusedSimpArgs false
namespace Go.Proofs.Ytofmgijdeeikeaa.Hop
open Go.RowKit Go.Proofs.Ytofmgijdeeikeaa.Mem Go.Proofs.YtofmgijdeeikeaaW.PrintWords Go.Proofs.YtofmgijdeeikeaaW.PrintLast Go.Deep
abbrev tU : TypeId := 37
def layL (cs : Array Value) : Nat → List Value → Array Value
  | _, [] => cs
  | o, v :: r => layL (cs.setIfInBounds o v) (o + 1) r
theorem layL_eq (cs : Array Value) (o : Nat) (u : U) : layL cs o u.cells = lay cs o u := rfl
theorem blk_setCells {g : Nat} {t : TypeId} : ∀ (vs : List Value) (o : Nat) {w : World} {cs : Array Value}, w.heap[g]? = some (.cells cs t (0, 0)) → (w.setCells g o vs).heap[g]? = some (.cells (layL cs o vs) t (0, 0))
  | [], _, _, _, h => h
  | v :: r, o, w, cs, h => blk_setCells r (o + 1) (blk_set h o v)
theorem blk_setCells_far {g g' : Nat} {ob : Obj} (hne : g' ≠ g) : ∀ (vs : List Value) (o : Nat) {w : World}, w.heap[g']? = some ob → (w.setCells g o vs).heap[g']? = some ob
  | [], _, _, h => h
  | v :: r, o, w, h => blk_setCells_far hne r (o + 1) ((Below.heap_setCell w ⟨g, o, none⟩ v g' hne).trans h)
theorem below_setCells {g : Nat} {w0 : World} (hg : w0.heap.size ≤ g) : ∀ (vs : List Value) (o : Nat) {w : World}, Below w0.heap.size w0 w → Below w0.heap.size w0 (w.setCells g o vs)
  | [], _, _, h => h
  | v :: r, o, w, h => below_setCells hg r (o + 1) (below_set h hg)
theorem held_range {w : World} {g : Nat} {t : TypeId} {cs : Array Value} {o : Nat} {u : U} (h : w.heap[g]? = some (.cells cs t (0, 0))) (hu : Held cs o u) : w.rangeAt g o u.cells := by
  obtain ⟨h0, h1, h2, h3, h4, h5, h6⟩ := hu
  have c := blkc h
  intro j v hj
  rw [c]
  match j, hj with
  | 0, hj => simpa [U.cells] using h0.trans (by simpa [U.cells] using hj)
  | 1, hj => simpa [U.cells] using h1.trans (by simpa [U.cells] using hj)
  | 2, hj => simpa [U.cells] using h2.trans (by simpa [U.cells] using hj)
  | 3, hj => simpa [U.cells] using h3.trans (by simpa [U.cells] using hj)
  | 4, hj => simpa [U.cells] using h4.trans (by simpa [U.cells] using hj)
  | 5, hj => simpa [U.cells] using h5.trans (by simpa [U.cells] using hj)
  | 6, hj => simpa [U.cells] using h6.trans (by simpa [U.cells] using hj)
  | j + 7, hj => simp [U.cells] at hj
theorem load_U {w : World} {g o : Nat} {u : U} (h : w.rangeAt g o u.cells) : (Instr.loadAt tU (.pointer (some ⟨g, o, none⟩))).run Try.prog w = .ok u.val w :=
  run_loadAt_mid w g o tU u.cells _ h Try.underlying37 (by kernel_rfl) (by kernel_rfl)
theorem store_U {w : World} {g o : Nat} {t : TypeId} {cs : Array Value} (u : U) (h : w.heap[g]? = some (.cells cs t (0, 0))) (ho : o + 7 ≤ cs.size) : (Instr.storeAt tU (.pointer (some ⟨g, o, none⟩)) u.val).run Try.prog w = .ok () (w.setCells g o u.cells) :=
  run_storeAt_mid w g o tU _ (fun j hj => by
    have hj' : j < 7 := hj
    rw [blkc h, blkz h, Array.getElem?_eq_getElem (by omega)]
    exact ⟨rfl, rfl⟩) (by kernel_rfl) (by simp [Value.oneCell'])
theorem store_step {P : Program} {ops : Array Oper} {o : Oper} {a : Act} {W : World} {Kc : Act → World → Prop} {Q : Exit → Act → World → Prop} (hw : Region.wanted o (yielded ops a.tmps) = true) (hd : o.dst = none) (ty : TypeId) (x y : Operand) (ho : o.op = .store ty x y)
    (b off : Nat) (cells : Array Value) (hx : a.eval x = .pointer (some ⟨b, off, none⟩)) (hy : a.eval y = .agg cells) (ht : W.there b off cells.size) (hi : (P.info? ty).map (·.size) = some cells.size) (h1 : cells.all (·.oneCell') = true)
    (h : Kc a (W.setCells b off cells.toList)) : if Region.wanted o (yielded ops a.tmps) = true then Oper.wp P o a W Kc Q else Kc (a.put o.dst undef) W := by
  rw [if_pos hw]
  exact wp_store_mid ty x y ho b off cells hx hy ht hi h1 (by rw [hd]; exact h)
theorem there_U {w : World} {g o : Nat} {t : TypeId} {cs : Array Value} (h : w.heap[g]? = some (.cells cs t (0, 0))) (ho : o + 7 ≤ cs.size) : w.there g o 7 := fun j hj => by
  rw [blkc h, blkz h, Array.getElem?_eq_getElem (by omega)]
  exact ⟨rfl, rfl⟩
theorem one_U (u : U) : (#[Value.int .i64 u.seq, .int .i64 u.client, .int .i64 u.number, .int .i64 u.kind, .string u.key, .string u.value, .int .i64 u.version] : Array Value).all (·.oneCell') = true := by simp [Value.oneCell']
theorem store_stepU {P : Program} {ops : Array Oper} {o : Oper} {a : Act} {W : World} {Kc : Act → World → Prop} {Q : Exit → Act → World → Prop} (hw : Region.wanted o (yielded ops a.tmps) = true) (hd : o.dst = none) (ty : TypeId) (x y : Operand) (ho : o.op = .store ty x y)
    (b off : Nat) (u : U) (hx : a.eval x = .pointer (some ⟨b, off, none⟩)) (hy : a.eval y = u.val) (ht : W.there b off 7) (hi : (P.info? ty).map (·.size) = some 7)
    (h : Kc a (W.setCells b off u.cells)) : if Region.wanted o (yielded ops a.tmps) = true then Oper.wp P o a W Kc Q else Kc (a.put o.dst undef) W :=
  store_step hw hd ty x y ho b off _ hx hy ht hi (one_U u) h
theorem blk_lay {g : Nat} {t : TypeId} (u : U) (o : Nat) {w : World} {cs : Array Value} (h : w.heap[g]? = some (.cells cs t (0, 0))) : (w.setCells g o u.cells).heap[g]? = some (.cells (lay cs o u) t (0, 0)) := by
  rw [← layL_eq]
  exact blk_setCells u.cells o h
theorem kept_setCells {g : Nat} {w : World} : ∀ (vs : List Value) (o : Nat) {W : World}, Kept w W (fun i => i = g) → Kept w (W.setCells g o vs) (fun i => i = g)
  | [], _, _, h => h
  | v :: r, o, W, h => kept_setCells r (o + 1) ⟨by rw [show (W.setCell ⟨g, o, none⟩ v).heap.size = W.heap.size from by simp [World.setCell]]; exact h.1, fun i hi hne => (Below.heap_setCell W ⟨g, o, none⟩ v i hne).trans (h.2 i hi hne)⟩
theorem kept_drew {w W : World} {S : Nat → Prop} (h : Kept w W S) : Kept w W.drew S := h
theorem lay_window {cs : Array Value} {l : L} (h : LineR cs l) (k : Nat) (u : U) : (lay cs (2 + k * 7) u)[1]? = some (.int .i64 l.window) := by rw [lay_far (by omega)]; exact h.window
theorem lay_there {cs : Array Value} {l : L} (h : LineR cs l) {k : Nat} (hk : k < 64) (u : U) : (lay cs (2 + k * 7) u)[450 + k]? = some (.bool (l.there k)) := by rw [lay_far (by omega)]; exact h.there k hk
set_option maxHeartbeats 1600000 in
set_option maxRecDepth 100000 in
theorem put_any {w w0 : World} {g : Nat} {t : TypeId} {cs : Array Value} {l : L} (u : U) (k : Nat) (h : w.heap[g]? = some (.cells cs t (0, 0))) (hl : LineR cs l) (hs : 515 ≤ cs.size) (hk : k < 64) (hr : u.seq.tmod l.window = (k : Int)) (hw : 1 ≤ l.window) (hg : w0.heap.size ≤ g) (HB : Below w0.heap.size w0 w) :
    Calls Try.prog 38 #[.pointer (some ⟨g, 0, none⟩), u.val] w fun e w' => e = .returned (.tuple #[]) ∧ w'.heap[g]? = some (.cells ((lay cs (2 + k * 7) u).setIfInBounds (450 + k) (.bool true)) t (0, 0)) ∧ Kept w w' (fun i => i = g) ∧ Below w0.heap.size w0 w' := by
  have hgp : g < w.heap.size := blk_lt h
  have HL := Lib.hid hl
  go_enter Try.func38, Try.ntmps38
  go_wp2_with fail
  have B1 := Lib.hid (blk_below h (below_alloc (Below.refl _ _) (.cells #[.int .i64 u.seq, .int .i64 u.client, .int .i64 u.number, .int .i64 u.kind, .string u.key, .string u.value, .int .i64 u.version] 37)))
  have P1 := Lib.hid (blk_new w (.cells #[.int .i64 u.seq, .int .i64 u.client, .int .i64 u.number, .int .i64 u.kind, .string u.key, .string u.value, .int .i64 u.version] 37))
  have HB1 := Lib.hid (below_alloc HB (.cells #[.int .i64 u.seq, .int .i64 u.client, .int .i64 u.number, .int .i64 u.kind, .string u.key, .string u.value, .int .i64 u.version] 37))
  have K1 := Lib.hid ((Kept.refl w (fun i => i = g)).alloc (.cells #[.int .i64 u.seq, .int .i64 u.client, .int .i64 u.number, .int .i64 u.kind, .string u.key, .string u.value, .int .i64 u.version] 37))
  clear HB h
  generalize (w.alloc _) = W at *
  generalize hp : w.heap.size = p at *
  have hgp' : p ≠ g := by omega
  have B2 := Lib.hid (blk_drew B1.out)
  have P2 := Lib.hid (blk_drew P1.out)
  have w1 : W.drew.cell? ⟨g, 1, none⟩ = some (.int .i64 l.window) := (blkc B2.out 1).trans HL.out.window
  have W1 := Lib.hid w1
  clear w1
  have hu : W.drew.rangeAt p 0 u.cells := held_range P2.out (by simp [Held])
  have hw0 : ¬ l.window = 0 := by omega
  have hk64 : ((k : Int) < 64) = True := eq_true (by omega)
  refine start_ (n := 25) (S := fun w' => (∀ o, w'.cell? ⟨p, o, none⟩ = #[Value.int .i64 u.seq, .int .i64 u.client, .int .i64 u.number, .int .i64 u.kind, .string u.key, .string u.value, .int .i64 u.version][o]?) ∧ (w'.cell? ⟨g, 1, none⟩ = some (.int .i64 l.window)) ∧ ((Instr.loadAt tU (.pointer (some ⟨p, 0, none⟩))).run Try.prog w' = .ok u.val w')) (ds := [24]) #[false, false, false, false, false, false, false, false, false, false, false, false, false, false, false, false, false, false, false, false, false, false, false, false, false] (by kernel_rfl) rfl rfl ⟨(blkc P2.out), W1.out, (load_U hu)⟩ (fun hHeld => ?_)
  refine pure_ (i := 0) (N := some 4) (v := ?_) (a' := ?_) #[true, false, false, false, false, false, false, false, false, false, false, false, false, false, false, false, false, false, false, false, false, false, false, false, false] rfl rfl (by kernel_rfl) (fun _ _ _ h => h) (Or.inl ⟨by rfl, ?_⟩) ?_ ?_
  rotate_left
  · intro w'
    go_simp
    with_reducible rfl
  rotate_left
  · simp only [Act.put, List.setIfInBounds_toArray, List.set_cons_zero, List.set_cons_succ, i64_w, i32_w]
    rfl
  refine pure_ (i := 1) (N := some 5) (v := ?_) (a' := ?_) #[true, true, false, false, false, false, false, false, false, false, false, false, false, false, false, false, false, false, false, false, false, false, false, false, false] rfl rfl (by kernel_rfl) (fun _ _ _ h => h) (Or.inl ⟨by rfl, ?_⟩) ?_ ?_
  rotate_left
  · intro w'
    go_simp
    with_reducible rfl
  rotate_left
  · simp only [Act.put, List.setIfInBounds_toArray, List.set_cons_zero, List.set_cons_succ, i64_w, i32_w]
    rfl
  refine pure_ (i := 3) (N := some 7) (v := ?_) (a' := ?_) #[true, true, false, true, false, false, false, false, false, false, false, false, false, false, false, false, false, false, false, false, false, false, false, false, false] rfl rfl (by kernel_rfl) (fun _ _ _ h => h) (Or.inl ⟨by rfl, ?_⟩) ?_ ?_
  rotate_left
  · intro w'
    go_simp
    with_reducible rfl
  rotate_left
  · simp only [Act.put, List.setIfInBounds_toArray, List.set_cons_zero, List.set_cons_succ, i64_w, i32_w]
    rfl
  refine pure_ (i := 4) (N := some 8) (v := ?_) (a' := ?_) #[true, true, false, true, true, false, false, false, false, false, false, false, false, false, false, false, false, false, false, false, false, false, false, false, false] rfl rfl (by kernel_rfl) (fun _ _ _ h => h) (Or.inl ⟨by rfl, ?_⟩) ?_ ?_
  rotate_left
  · intro w'
    go_simp
    with_reducible rfl
  rotate_left
  · simp only [Act.put, List.setIfInBounds_toArray, List.set_cons_zero, List.set_cons_succ, i64_w, i32_w]
    rfl
  refine pure_ (i := 5) (N := some 9) (v := ?_) (a' := ?_) #[true, true, false, true, true, true, false, false, false, false, false, false, false, false, false, false, false, false, false, false, false, false, false, false, false] rfl rfl (by kernel_rfl) (fun _ _ _ h => h) (Or.inl ⟨by rfl, ?_⟩) ?_ ?_
  rotate_left
  · intro w'
    go_simp
    with_reducible rfl
  rotate_left
  · simp only [Act.put, List.setIfInBounds_toArray, List.set_cons_zero, List.set_cons_succ, i64_w, i32_w]
    rfl
  refine pure_ (i := 8) (N := some 12) (v := ?_) (a' := ?_) #[true, true, false, true, true, true, false, false, true, false, false, false, false, false, false, false, false, false, false, false, false, false, false, false, false] rfl rfl (by kernel_rfl) (fun _ _ _ h => h) (Or.inl ⟨by rfl, ?_⟩) ?_ ?_
  rotate_left
  · intro w'
    go_simp
    with_reducible rfl
  rotate_left
  · simp only [Act.put, List.setIfInBounds_toArray, List.set_cons_zero, List.set_cons_succ, i64_w, i32_w]
    rfl
  refine pure_ (i := 9) (N := some 13) (v := ?_) (a' := ?_) #[true, true, false, true, true, true, false, false, true, true, false, false, false, false, false, false, false, false, false, false, false, false, false, false, false] rfl rfl (by kernel_rfl) (fun _ _ _ h => h) (Or.inl ⟨by rfl, ?_⟩) ?_ ?_
  rotate_left
  · intro w'
    go_simp
    with_reducible rfl
  rotate_left
  · simp only [Act.put, List.setIfInBounds_toArray, List.set_cons_zero, List.set_cons_succ, i64_w, i32_w]
    rfl
  refine pure_ (i := 11) (N := some 15) (v := ?_) (a' := ?_) #[true, true, false, true, true, true, false, false, true, true, false, true, false, false, false, false, false, false, false, false, false, false, false, false, false] rfl rfl (by kernel_rfl) (fun _ _ _ h => h) (Or.inl ⟨by rfl, ?_⟩) ?_ ?_
  rotate_left
  · intro w'
    go_simp
    with_reducible rfl
  rotate_left
  · simp only [Act.put, List.setIfInBounds_toArray, List.set_cons_zero, List.set_cons_succ, i64_w, i32_w]
    rfl
  refine pure_ (i := 12) (N := some 16) (v := ?_) (a' := ?_) #[true, true, false, true, true, true, false, false, true, true, false, true, true, false, false, false, false, false, false, false, false, false, false, false, false] rfl rfl (by kernel_rfl) (fun _ _ _ h => h) (Or.inl ⟨by rfl, ?_⟩) ?_ ?_
  rotate_left
  · intro w'
    go_simp
    with_reducible rfl
  rotate_left
  · simp only [Act.put, List.setIfInBounds_toArray, List.set_cons_zero, List.set_cons_succ, i64_w, i32_w]
    rfl
  refine pure_ (i := 13) (N := some 17) (v := ?_) (a' := ?_) #[true, true, false, true, true, true, false, false, true, true, false, true, true, true, false, false, false, false, false, false, false, false, false, false, false] rfl rfl (by kernel_rfl) (fun _ _ _ h => h) (Or.inl ⟨by rfl, ?_⟩) ?_ ?_
  rotate_left
  · intro w'
    go_simp
    with_reducible rfl
  rotate_left
  · simp only [Act.put, List.setIfInBounds_toArray, List.set_cons_zero, List.set_cons_succ, i64_w, i32_w]
    rfl
  refine pure_ (i := 17) (N := some 21) (v := ?_) (a' := ?_) #[true, true, false, true, true, true, false, false, true, true, false, true, true, true, false, false, false, true, false, false, false, false, false, false, false] rfl rfl (by kernel_rfl) (fun _ _ _ h => h) (Or.inl ⟨by rfl, ?_⟩) ?_ ?_
  rotate_left
  · intro w'
    go_simp
    with_reducible rfl
  rotate_left
  · simp only [Act.put, List.setIfInBounds_toArray, List.set_cons_zero, List.set_cons_succ, i64_w, i32_w]
    rfl
  refine pure_ (i := 18) (N := some 22) (v := ?_) (a' := ?_) #[true, true, false, true, true, true, false, false, true, true, false, true, true, true, false, false, false, true, true, false, false, false, false, false, false] rfl rfl (by kernel_rfl) (fun _ _ _ h => h) (Or.inl ⟨by rfl, ?_⟩) ?_ ?_
  rotate_left
  · intro w'
    go_simp
    with_reducible rfl
  rotate_left
  · simp only [Act.put, List.setIfInBounds_toArray, List.set_cons_zero, List.set_cons_succ, i64_w, i32_w]
    rfl
  refine pure_ (i := 21) (N := some 24) (v := ?_) (a' := ?_) #[true, true, false, true, true, true, false, false, true, true, false, true, true, true, false, false, false, true, true, false, false, true, false, false, false] rfl rfl (by kernel_rfl) (fun _ _ _ h => h) (Or.inl ⟨by rfl, ?_⟩) ?_ ?_
  rotate_left
  · intro w'
    go_simp
    with_reducible rfl
  rotate_left
  · simp only [Act.put, List.setIfInBounds_toArray, List.set_cons_zero, List.set_cons_succ, i64_w, i32_w]
    rfl
  refine pure_ (i := 22) (N := some 25) (v := ?_) (a' := ?_) #[true, true, false, true, true, true, false, false, true, true, false, true, true, true, false, false, false, true, true, false, false, true, true, false, false] rfl rfl (by kernel_rfl) (fun _ _ _ h => h) (Or.inl ⟨by rfl, ?_⟩) ?_ ?_
  rotate_left
  · intro w'
    go_simp
    with_reducible rfl
  rotate_left
  · simp only [Act.put, List.setIfInBounds_toArray, List.set_cons_zero, List.set_cons_succ, i64_w, i32_w]
    rfl
  refine take_ (i := 2) (N := some 6) (v := ?_) (a' := ?_) #[true, true, true, true, true, true, false, false, true, true, false, true, true, true, false, false, false, true, true, false, false, true, true, false, false] rfl rfl (by kernel_rfl) (fun _ _ _ h => h) (Or.inl ⟨by rfl, ?_⟩) hHeld ?_ ?_
  rotate_left
  · rintro w' ⟨s0, s1, s2⟩
    go_simp
    with_reducible rfl
  rotate_left
  · simp only [Act.put, List.setIfInBounds_toArray, List.set_cons_zero, List.set_cons_succ, i64_w, i32_w]
    rfl
  refine take_ (i := 6) (N := some 10) (v := ?_) (a' := ?_) #[true, true, true, true, true, true, true, false, true, true, false, true, true, true, false, false, false, true, true, false, false, true, true, false, false] rfl rfl (by kernel_rfl) (fun _ _ _ h => h) (Or.inl ⟨by rfl, ?_⟩) hHeld ?_ ?_
  rotate_left
  · rintro w' ⟨s0, s1, s2⟩
    go_simp
    with_reducible rfl
  rotate_left
  · simp only [Act.put, List.setIfInBounds_toArray, List.set_cons_zero, List.set_cons_succ, i64_w, i32_w]
    rfl
  refine pure_ (i := 7) (N := some 11) (v := ?_) (a' := ?_) #[true, true, true, true, true, true, true, true, true, true, false, true, true, true, false, false, false, true, true, false, false, true, true, false, false] rfl rfl (by kernel_rfl) (fun _ _ _ h => h) (Or.inl ⟨by rfl, ?_⟩) ?_ ?_
  rotate_left
  · intro w'
    go_simp
    with_reducible rfl
  rotate_left
  · simp only [Act.put, List.setIfInBounds_toArray, List.set_cons_zero, List.set_cons_succ, i64_w, i32_w]
    rfl
  refine take_ (i := 10) (N := some 14) (v := ?_) (a' := ?_) #[true, true, true, true, true, true, true, true, true, true, true, true, true, true, false, false, false, true, true, false, false, true, true, false, false] rfl rfl (by kernel_rfl) (fun _ _ _ h => h) (Or.inl ⟨by rfl, ?_⟩) hHeld ?_ ?_
  rotate_left
  · rintro w' ⟨s0, s1, s2⟩
    go_simp
    with_reducible rfl
  rotate_left
  · simp only [Act.put, List.setIfInBounds_toArray, List.set_cons_zero, List.set_cons_succ, i64_w, i32_w]
    rfl
  refine take_ (i := 14) (N := some 18) (v := ?_) (a' := ?_) #[true, true, true, true, true, true, true, true, true, true, true, true, true, true, true, false, false, true, true, false, false, true, true, false, false] rfl rfl (by kernel_rfl) (fun _ _ _ h => h) (Or.inl ⟨by rfl, ?_⟩) hHeld ?_ ?_
  rotate_left
  · rintro w' ⟨s0, s1, s2⟩
    go_simp
    with_reducible rfl
  rotate_left
  · simp only [Act.put, List.setIfInBounds_toArray, List.set_cons_zero, List.set_cons_succ, i64_w, i32_w]
    rfl
  refine pure_ (i := 15) (N := some 19) (v := ?_) (a' := ?_) #[true, true, true, true, true, true, true, true, true, true, true, true, true, true, true, true, false, true, true, false, false, true, true, false, false] rfl rfl (by kernel_rfl) (fun _ _ _ h => h) (Or.inl ⟨by rfl, ?_⟩) ?_ ?_
  rotate_left
  · intro w'
    go_simp
    with_reducible rfl
  rotate_left
  · simp only [Act.put, List.setIfInBounds_toArray, List.set_cons_zero, List.set_cons_succ, i64_w, i32_w]
    rfl
  refine take_ (i := 16) (N := some 20) (v := ?_) (a' := ?_) #[true, true, true, true, true, true, true, true, true, true, true, true, true, true, true, true, true, true, true, false, false, true, true, false, false] rfl rfl (by kernel_rfl) (fun _ _ _ h => h) (Or.inl ⟨by rfl, ?_⟩) hHeld ?_ ?_
  rotate_left
  · rintro w' ⟨s0, s1, s2⟩
    go_simp
    with_reducible rfl
  rotate_left
  · simp only [Act.put, List.setIfInBounds_toArray, List.set_cons_zero, List.set_cons_succ, i64_w, i32_w]
    rfl
  refine pure_ (i := 19) (N := some 23) (v := ?_) (a' := ?_) #[true, true, true, true, true, true, true, true, true, true, true, true, true, true, true, true, true, true, true, true, false, true, true, false, false] rfl rfl (by kernel_rfl) (fun _ _ _ h => h) (Or.inl ⟨by rfl, ?_⟩) ?_ ?_
  rotate_left
  · intro w'
    go_simp
    with_reducible rfl
  rotate_left
  · simp only [Act.put, List.setIfInBounds_toArray, List.set_cons_zero, List.set_cons_succ, i64_w, i32_w]
    rfl
  refine one_ (i := 20) (N := none) #[true, true, true, true, true, true, true, true, true, true, true, true, true, true, true, true, true, true, true, true, true, true, true, false, false] rfl rfl (by kernel_rfl) (by decide) (fun K hK => ?_)
  refine store_stepU (by rfl) (by rfl) tU (.tmp 23) (.tmp 20) rfl g (2 + k * 7) u rfl rfl (there_U B2.out (by omega)) (by kernel_rfl) ?_
  have P3 := Lib.hid (blk_setCells_far hgp' u.cells (2 + k * 7) P2.out)
  have B3 := Lib.hid (blk_lay u (2 + k * 7) B2.out)
  have W3 := Lib.hid ((blkc B3.out 1).trans (lay_window HL.out k u))
  have HB3 := Lib.hid (below_setCells hg u.cells (2 + k * 7) HB1.out.drew)
  have K3 := Lib.hid (kept_setCells u.cells (2 + k * 7) (kept_drew K1.out))
  generalize (World.setCells _ _ _ _) = W3_ at *
  refine hK.out _ _ ⟨(blkc P3.out), W3.out, (load_U (held_range P3.out (by simp [Held])))⟩ (fun hHeld => ?_)
  clear hK K
  refine pure_ (i := 23) (N := some 26) (v := ?_) (a' := ?_) #[true, true, true, true, true, true, true, true, true, true, true, true, true, true, true, true, true, true, true, true, true, true, true, true, false] rfl rfl (by kernel_rfl) (fun _ _ _ h => h) (Or.inl ⟨by rfl, ?_⟩) ?_ ?_
  rotate_left
  · intro w'
    go_simp
    with_reducible rfl
  rotate_left
  · simp only [Act.put, List.setIfInBounds_toArray, List.set_cons_zero, List.set_cons_succ, i64_w, i32_w]
    rfl
  refine last_ (i := 24) (N := none) #[true, true, true, true, true, true, true, true, true, true, true, true, true, true, true, true, true, true, true, true, true, true, true, true, true] rfl rfl (by kernel_rfl) (by decide) (fun K hK => ?_)
  have z3 := blkz B3.out
  have c3 := (blkc B3.out (450 + k)).trans (lay_there HL.out hk u)
  refine skip_ (w1 := ?_) (by rfl) rfl ?_ ?_
  rotate_left
  · go_simp
    rfl
  refine hK.out _ _ ?_
  clear hK K
  refine done_ (by kernel_rfl) ?_
  go_wp2
  go_end0
  exact ⟨rfl, blk_set B3.out (450 + k) _, ⟨by rw [show (W3_.setCell ⟨g, 450 + k, none⟩ (.bool true)).heap.size = W3_.heap.size from by simp [World.setCell]]; exact K3.out.1, fun i hi hne => (Below.heap_setCell W3_ ⟨g, 450 + k, none⟩ _ i hne).trans (K3.out.2 i hi hne)⟩, below_set HB3.out hg⟩
end Go.Proofs.Ytofmgijdeeikeaa.Hop
