/- What a nearer end holds; the questions that it answers. -/
import Derived.Test.YtofmgijdeeikeaaHopNewBad
import Derived.Deep.QuietTactic
import Derived.BigQuiet
import Derived.IntWalk
set_option linter.unusedVariables false
set_option linter.unusedSimpArgs false
namespace Go.Proofs.Ytofmgijdeeikeaa.Hop
open Go.RowKit Go.Proofs.Ytofmgijdeeikeaa.Mem Go.Proofs.YtofmgijdeeikeaaW.PrintWords Go.Proofs.YtofmgijdeeikeaaW.PrintLast Go.Deep
/-- Updates as a kind. -/
def kU : Kd U where
  sz := 7
  E := []
  K := fun _ u cs => cs = u.cells
  M := fun _ _ _ u cs => cs = u.cells
  K_len := fun h => by rw [h]; rfl
  K_one := fun h u hu => by
    rw [h] at hu
    simp only [U.cells, List.mem_cons, List.not_mem_nil, or_false] at hu
    rcases hu with rfl | rfl | rfl | rfl | rfl | rfl | rfl <;> rfl
  K_below := fun _ h => h
  K_of_M := fun h => h
  M_mono := fun _ h => h
  M_bound := fun h => h
  M_move := fun _ h => h
  M_lower := fun _ h => h
theorem heapU : Kd.Heap kU := ⟨fun _ h => h⟩
abbrev tOut : TypeId := 75
abbrev tIn : TypeId := 77
/-- What a nearer end holds. -/
structure St where
  line : L
  sent : Int
  last : Int
  wait : List U
  clock : Int
  patience : Int
structure OutC (cs : Array Value) (v : Value) (s : St) : Prop where
  size : cs.size = 520
  line : LineR cs s.line
  sent : cs[515]? = some (.int .i64 s.sent)
  last : cs[516]? = some (.int .i64 s.last)
  wait : cs[517]? = some v
  clock : cs[518]? = some (.int .i64 s.clock)
  patience : cs[519]? = some (.int .i64 s.patience)
/-- Block g is a nearer end; v is its wait. -/
def OutR (w : World) (b g : Nat) (v : Value) (s : St) : Prop := ∃ cs, w.heap[g]? = some (.cells cs tOut (0, 0)) ∧ OutC cs v s ∧ kU.Q tU w b (fun _ => True) v s.wait
def St.setSent (s : St) (x : Int) : St := { s with sent := x }
def St.setLast (s : St) (x : Int) : St := { s with last := x }
def St.setWait (s : St) (x : List U) : St := { s with wait := x }
def St.setClock (s : St) (x : Int) : St := { s with clock := x }
def St.setLine (s : St) (l : L) : St := { s with line := l }
def L.setFrom (l : L) (x : Int) : L := { l with from_ := x }
theorem OutC.set_sent {cs : Array Value} {v : Value} {s : St} (h : OutC cs v s) (x : Int) : OutC (cs.setIfInBounds 515 (.int .i64 x)) v (s.setSent x) where
  size := by simp [h.size]
  line := h.line.far (by omega) _
  sent := by rw [Array.getElem?_setIfInBounds_self_of_lt (by rw [h.size]; omega)]; rfl
  last := by rw [Array.getElem?_setIfInBounds_ne (by omega)]; exact h.last
  wait := by rw [Array.getElem?_setIfInBounds_ne (by omega)]; exact h.wait
  clock := by rw [Array.getElem?_setIfInBounds_ne (by omega)]; exact h.clock
  patience := by rw [Array.getElem?_setIfInBounds_ne (by omega)]; exact h.patience
theorem OutC.set_last {cs : Array Value} {v : Value} {s : St} (h : OutC cs v s) (x : Int) : OutC (cs.setIfInBounds 516 (.int .i64 x)) v (s.setLast x) where
  size := by simp [h.size]
  line := h.line.far (by omega) _
  sent := by rw [Array.getElem?_setIfInBounds_ne (by omega)]; exact h.sent
  last := by rw [Array.getElem?_setIfInBounds_self_of_lt (by rw [h.size]; omega)]; rfl
  wait := by rw [Array.getElem?_setIfInBounds_ne (by omega)]; exact h.wait
  clock := by rw [Array.getElem?_setIfInBounds_ne (by omega)]; exact h.clock
  patience := by rw [Array.getElem?_setIfInBounds_ne (by omega)]; exact h.patience
theorem OutC.set_wait {cs : Array Value} {v : Value} {s : St} (h : OutC cs v s) (v' : Value) (x : List U) : OutC (cs.setIfInBounds 517 v') v' (s.setWait x) where
  size := by simp [h.size]
  line := h.line.far (by omega) _
  sent := by rw [Array.getElem?_setIfInBounds_ne (by omega)]; exact h.sent
  last := by rw [Array.getElem?_setIfInBounds_ne (by omega)]; exact h.last
  wait := by rw [Array.getElem?_setIfInBounds_self_of_lt (by rw [h.size]; omega)]
  clock := by rw [Array.getElem?_setIfInBounds_ne (by omega)]; exact h.clock
  patience := by rw [Array.getElem?_setIfInBounds_ne (by omega)]; exact h.patience
theorem OutC.set_clock {cs : Array Value} {v : Value} {s : St} (h : OutC cs v s) (x : Int) : OutC (cs.setIfInBounds 518 (.int .i64 x)) v (s.setClock x) where
  size := by simp [h.size]
  line := h.line.far (by omega) _
  sent := by rw [Array.getElem?_setIfInBounds_ne (by omega)]; exact h.sent
  last := by rw [Array.getElem?_setIfInBounds_ne (by omega)]; exact h.last
  wait := by rw [Array.getElem?_setIfInBounds_ne (by omega)]; exact h.wait
  clock := by rw [Array.getElem?_setIfInBounds_self_of_lt (by rw [h.size]; omega)]; rfl
  patience := by rw [Array.getElem?_setIfInBounds_ne (by omega)]; exact h.patience
theorem OutC.set_from {cs : Array Value} {v : Value} {s : St} (h : OutC cs v s) (x : Int) : OutC (cs.setIfInBounds 0 (.int .i64 x)) v (s.setLine (s.line.setFrom x)) where
  size := by simp [h.size]
  line := h.line.from_set (by rw [h.size]; omega) x
  sent := by rw [Array.getElem?_setIfInBounds_ne (by omega)]; exact h.sent
  last := by rw [Array.getElem?_setIfInBounds_ne (by omega)]; exact h.last
  wait := by rw [Array.getElem?_setIfInBounds_ne (by omega)]; exact h.wait
  clock := by rw [Array.getElem?_setIfInBounds_ne (by omega)]; exact h.clock
  patience := by rw [Array.getElem?_setIfInBounds_ne (by omega)]; exact h.patience
theorem OutC.put {cs : Array Value} {v : Value} {s : St} (h : OutC cs v s) {k : Nat} (hk : k < 64) (u : U) (b : Bool) : OutC ((lay cs (2 + k * 7) u).setIfInBounds (450 + k) (.bool b)) v (s.setLine (s.line.set k u b)) where
  size := by rw [put_size]; exact h.size
  line := h.line.put (by rw [h.size]; omega) hk u b
  sent := by rw [put_far hk (by omega)]; exact h.sent
  last := by rw [put_far hk (by omega)]; exact h.last
  wait := by rw [put_far hk (by omega)]; exact h.wait
  clock := by rw [put_far hk (by omega)]; exact h.clock
  patience := by rw [put_far hk (by omega)]; exact h.patience
/-- What a farther end holds. -/
structure InSt where
  line : L
  holds : Int
def InSt.setLine (s : InSt) (l : L) : InSt := { s with line := l }
def InSt.setHolds (s : InSt) (x : Int) : InSt := { s with holds := x }
structure InC (cs : Array Value) (s : InSt) : Prop where
  size : cs.size = 516
  line : LineR cs s.line
  holds : cs[515]? = some (.int .i64 s.holds)
def InR (w : World) (g : Nat) (s : InSt) : Prop := ∃ cs, w.heap[g]? = some (.cells cs tIn (0, 0)) ∧ InC cs s
theorem InC.set_holds {cs : Array Value} {s : InSt} (h : InC cs s) (x : Int) : InC (cs.setIfInBounds 515 (.int .i64 x)) (s.setHolds x) where
  size := by simp [h.size]
  line := h.line.far (by omega) _
  holds := by rw [Array.getElem?_setIfInBounds_self_of_lt (by rw [h.size]; omega)]; rfl
theorem InC.set_from {cs : Array Value} {s : InSt} (h : InC cs s) (x : Int) : InC (cs.setIfInBounds 0 (.int .i64 x)) (s.setLine (s.line.setFrom x)) where
  size := by simp [h.size]
  line := h.line.from_set (by rw [h.size]; omega) x
  holds := by rw [Array.getElem?_setIfInBounds_ne (by omega)]; exact h.holds
theorem InC.put {cs : Array Value} {s : InSt} (h : InC cs s) {k : Nat} (hk : k < 64) (u : U) (b : Bool) : InC ((lay cs (2 + k * 7) u).setIfInBounds (450 + k) (.bool b)) (s.setLine (s.line.set k u b)) where
  size := by rw [put_size]; exact h.size
  line := h.line.put (by rw [h.size]; omega) hk u b
  holds := by rw [put_far hk (by omega)]; exact h.holds
theorem OutC.new (n wi p : Int) : OutC (ocs (lcs n wi) n p) (.slice none 0 0) ⟨lineNew n wi, n, n, [], 0, p⟩ := by
  obtain ⟨h1, h2, h3, h4, h5⟩ := ocs_get (lcs_size n wi) n p
  exact ⟨ocs_size _ _ _, ocs_R (lcs_size n wi) (lcs_R n wi) n p, h1, h2, h3, h4, h5⟩
theorem InC.new (n wi : Int) : InC (ics (lcs n wi)) ⟨lineNew n wi, 0⟩ := ⟨ics_size _, ics_R (lcs_size n wi) (lcs_R n wi), ics_get (lcs_size n wi)⟩
theorem OutC.zero : OutC zoc (.slice none 0 0) ⟨lineZero, 0, 0, [], 0, 0⟩ where
  size := zoc_size
  line := zero_R.congr (fun j hj => by
    simp only [zoc, zoList, zcs, List.getElem?_toArray]
    rw [List.getElem?_append_left (by have := zcs_size; simp only [zcs, List.size_toArray] at this; omega)])
  sent := by kernel_rfl
  last := by kernel_rfl
  wait := by kernel_rfl
  clock := by kernel_rfl
  patience := by kernel_rfl
theorem InC.zero : InC zic ⟨lineZero, 0⟩ where
  size := zic_size
  line := zero_R.congr (fun j hj => by
    simp only [zic, ziList, zcs, List.getElem?_toArray]
    rw [List.getElem?_append_left (by have := zcs_size; simp only [zcs, List.size_toArray] at this; omega)])
  holds := by kernel_rfl
/-! ### the questions -/
theorem is_nil (w : World) : Calls Try.prog 40 #[.pointer none] w fun e w' => e = .returned (.bool false) ∧ w = w' := by
  go_enter Try.func40, Try.ntmps40
  go_wp2
  go_ret
  exact ⟨rfl, rfl⟩
theorem is_any {w : World} {g : Nat} {b : Bool} (h : w.cell? ⟨g, 514, none⟩ = some (.bool b)) : Calls Try.prog 40 #[.pointer (some ⟨g, 0, none⟩)] w fun e w' => e = .returned (.bool b) ∧ w = w' := by
  go_enter Try.func40, Try.ntmps40
  go_wp2
  go_ret
  exact ⟨rfl, rfl⟩
theorem acked_nil (w : World) : Calls Try.prog 19 #[.pointer none] w fun e w' => e = .returned (.int .i64 0) ∧ w = w' := by
  go_enter Try.func19, Try.ntmps19
  go_wp2_with (go_at_call 40; refine (is_nil _).mono ?_; rintro e w' ⟨rfl, rfl⟩)
  go_ret
  exact ⟨rfl, rfl⟩
theorem last_nil (w : World) : Calls Try.prog 20 #[.pointer none] w fun e w' => e = .returned (.int .i64 0) ∧ w = w' := by
  go_enter Try.func20, Try.ntmps20
  go_wp2_with (go_at_call 40; refine (is_nil _).mono ?_; rintro e w' ⟨rfl, rfl⟩)
  go_ret
  exact ⟨rfl, rfl⟩
theorem under_nil (w : World) : Calls Try.prog 21 #[.pointer none] w fun e w' => e = .returned (.int .i64 0) ∧ w = w' := by
  go_enter Try.func21, Try.ntmps21
  go_wp2_with (go_at_call 40; refine (is_nil _).mono ?_; rintro e w' ⟨rfl, rfl⟩)
  go_ret
  exact ⟨rfl, rfl⟩
theorem acked_not {w : World} {g : Nat} (h : w.cell? ⟨g, 514, none⟩ = some (.bool false)) : Calls Try.prog 19 #[.pointer (some ⟨g, 0, none⟩)] w fun e w' => e = .returned (.int .i64 0) ∧ w = w' := by
  have H := Lib.hid h
  clear h
  go_enter Try.func19, Try.ntmps19
  go_wp2_with (go_at_call 40; refine (is_any H.out).mono ?_; rintro e w' ⟨rfl, rfl⟩)
  go_ret
  exact ⟨rfl, rfl⟩
theorem last_not {w : World} {g : Nat} (h : w.cell? ⟨g, 514, none⟩ = some (.bool false)) : Calls Try.prog 20 #[.pointer (some ⟨g, 0, none⟩)] w fun e w' => e = .returned (.int .i64 0) ∧ w = w' := by
  have H := Lib.hid h
  clear h
  go_enter Try.func20, Try.ntmps20
  go_wp2_with (go_at_call 40; refine (is_any H.out).mono ?_; rintro e w' ⟨rfl, rfl⟩)
  go_ret
  exact ⟨rfl, rfl⟩
theorem under_not {w : World} {g : Nat} (h : w.cell? ⟨g, 514, none⟩ = some (.bool false)) : Calls Try.prog 21 #[.pointer (some ⟨g, 0, none⟩)] w fun e w' => e = .returned (.int .i64 0) ∧ w = w' := by
  have H := Lib.hid h
  clear h
  go_enter Try.func21, Try.ntmps21
  go_wp2_with (go_at_call 40; refine (is_any H.out).mono ?_; rintro e w' ⟨rfl, rfl⟩)
  go_ret
  exact ⟨rfl, rfl⟩
theorem acked_any {w : World} {g : Nat} {f : Int} (h : w.cell? ⟨g, 514, none⟩ = some (.bool true)) (hf : w.cell? ⟨g, 0, none⟩ = some (.int .i64 f)) : Calls Try.prog 19 #[.pointer (some ⟨g, 0, none⟩)] w fun e w' => e = .returned (.int .i64 f) ∧ w = w' := by
  have H := Lib.hid h
  clear h
  go_enter Try.func19, Try.ntmps19
  go_wp2_with (go_at_call 40; refine (is_any H.out).mono ?_; rintro e w' ⟨rfl, rfl⟩)
  go_ret
  exact ⟨rfl, rfl⟩
theorem last_any {w : World} {g : Nat} {f : Int} (h : w.cell? ⟨g, 514, none⟩ = some (.bool true)) (hf : w.cell? ⟨g, 516, none⟩ = some (.int .i64 f)) : Calls Try.prog 20 #[.pointer (some ⟨g, 0, none⟩)] w fun e w' => e = .returned (.int .i64 f) ∧ w = w' := by
  have H := Lib.hid h
  clear h
  go_enter Try.func20, Try.ntmps20
  go_wp2_with (go_at_call 40; refine (is_any H.out).mono ?_; rintro e w' ⟨rfl, rfl⟩)
  go_ret
  exact ⟨rfl, rfl⟩
theorem under_any {w : World} {g : Nat} {f s : Int} (h : w.cell? ⟨g, 514, none⟩ = some (.bool true)) (hf : w.cell? ⟨g, 0, none⟩ = some (.int .i64 f)) (hs : w.cell? ⟨g, 515, none⟩ = some (.int .i64 s)) (h0 : 0 ≤ f) (h1 : f ≤ s) (h2 : s ≤ 4611686018427387904) : Calls Try.prog 21 #[.pointer (some ⟨g, 0, none⟩)] w fun e w' => e = .returned (.int .i64 (s - f)) ∧ ∃ n, w' = w.drewN n := by
  have H := Lib.hid h
  clear h
  have hw : IntKind.i64.wrap (s - f) = s - f := IntWalk.i64_in _ (by omega)
  go_enter Try.func21, Try.ntmps21
  go_wp2_with (go_at_call 40; refine (is_any H.out).mono ?_; rintro e w' ⟨rfl, rfl⟩)
  go_quiet (fail)
  go_wp2
  go_ret
  exact ⟨rfl, _, rfl⟩
theorem next_nil (w : World) : Calls Try.prog 15 #[.pointer none] w fun e w' => e = .returned (.int .i64 0) ∧ w = w' := by
  go_enter Try.func15, Try.ntmps15
  go_wp2
  go_ret
  exact ⟨rfl, rfl⟩
theorem next_not {w : World} {g : Nat} (h : w.cell? ⟨g, 514, none⟩ = some (.bool false)) : Calls Try.prog 15 #[.pointer (some ⟨g, 0, none⟩)] w fun e w' => e = .returned (.int .i64 0) ∧ w = w' := by
  go_enter Try.func15, Try.ntmps15
  go_wp2
  go_ret
  exact ⟨rfl, rfl⟩
theorem next_any {w : World} {g : Nat} {f : Int} (h : w.cell? ⟨g, 514, none⟩ = some (.bool true)) (hf : w.cell? ⟨g, 0, none⟩ = some (.int .i64 f)) (h0 : 0 ≤ f) (h2 : f ≤ 4611686018427387904) : Calls Try.prog 15 #[.pointer (some ⟨g, 0, none⟩)] w fun e w' => e = .returned (.int .i64 (f + 1)) ∧ w = w' := by
  go_enter Try.func15, Try.ntmps15
  go_wp2
  go_ret
  exact ⟨rfl, rfl⟩
theorem held_nil (w : World) : Calls Try.prog 22 #[.pointer none] w fun e w' => e = .returned (.int .i64 0) ∧ w = w' := by
  go_enter Try.func22, Try.ntmps22
  go_wp2
  go_ret
  exact ⟨rfl, rfl⟩
theorem held_any {w : World} {g : Nat} {f : Int} (hf : w.cell? ⟨g, 515, none⟩ = some (.int .i64 f)) : Calls Try.prog 22 #[.pointer (some ⟨g, 0, none⟩)] w fun e w' => e = .returned (.int .i64 f) ∧ w = w' := by
  go_enter Try.func22, Try.ntmps22
  go_wp2
  go_ret
  exact ⟨rfl, rfl⟩
end Go.Proofs.Ytofmgijdeeikeaa.Hop
