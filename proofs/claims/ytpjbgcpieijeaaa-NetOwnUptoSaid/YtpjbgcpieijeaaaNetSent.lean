/- The map of what was sent, of any packets: a look-up, an entry, a store. -/
import Derived.Test.YtpjbgcpieijeaaaNetKinds
set_option linter.unusedVariables false
set_option linter.unusedSimpArgs false
namespace Go.Proofs.Ytpjbgcpieijeaaa.Net
open Go.RowKit Go.Proofs.Ytpjbgcpieijeaaa.Mem Go.Proofs.YtpjbgcpieijeaaaW.PrintWords Go.ChangeMaps Go.MapKept Go.ChangeShapes
/-- A packet as a key. -/
abbrev LtT := Int × Int × ByteArray
def letV (k : LtT) : Value := .agg #[.int .i64 k.1, .int .i64 k.2.1, .string k.2.2]
def ltOk (k : LtT) : Prop := (Lit.int .i64 k.1).wf = true ∧ (Lit.int .i64 k.2.1).wf = true ∧ k.2.2.size ≤ 9223372036854775807
theorem letV_inj {a b : LtT} (h : letV a = letV b) : a = b := by
  obtain ⟨a0, a1, a2⟩ := a
  obtain ⟨b0, b1, b2⟩ := b
  simp [letV] at h
  obtain ⟨rfl, rfl, rfl⟩ := h
  rfl
theorem let_key {k : LtT} (h : ltOk k) : ∃ l, keyOf Try.prog 82 (letV k) = some l := by
  obtain ⟨a, b, s⟩ := k
  obtain ⟨h1, h2, h3⟩ := h
  have hk : Try.prog.keyType 82 = true := by kernel_rfl
  have hcs : Try.prog.cellsOf 82 = 3 := by kernel_rfl
  have hc1 : Try.prog.cellsOf 3 = 1 := by kernel_rfl
  have hc2 : Try.prog.cellsOf 9 = 1 := by kernel_rfl
  have hu := Try.underlying82
  have hf : (letV (a, b, s)).formed Try.prog 82 = true := by simp [letV, Value.formed, hu, hcs]
  obtain ⟨m, hm⟩ : ∃ m, Try.prog.types.size = m + 1 := ⟨Try.prog.types.size - 1, by have h4 : 0 < Try.prog.types.size := of_decide_eq_true (by kernel_rfl); omega⟩
  have h5 : maxLen = 9223372036854775807 := rfl
  simp only [ltOk] at h1 h2 h3
  have hi := Try.underlying3
  have hs := Try.underlying9
  simp only [keyOf, hu, hk, hf, Bool.and_self, if_true, hm]
  simp [Program.keyLits, hu, hcs, hc1, hc2, letV, Value.cells, hi, hs, h1, h2, h5, h3]
/-- What was sent, in the map: each entry is one that was sent, counted; each that was sent has an entry. -/
structure MapOk (es : Array MapEntry) (n : Nat) (sent : List LtT) : Prop where
  old : ∀ (i : Nat) (e : MapEntry), es[i]? = some e → ∃ k ∈ sent, ∃ c : Nat, e.key = letV k ∧ e.val = .int .i64 (c : Int) ∧ 1 ≤ c ∧ c ≤ sent.length
  all : ∀ k ∈ sent, ∃ (i : Nat) (e : MapEntry), es[i]? = some e ∧ e.key = letV k
  ok : ∀ k ∈ sent, ltOk k
  born : ∀ (i : Nat) (e : MapEntry), es[i]? = some e → e.born < n
  part : ∀ (i j : Nat) (e e' : MapEntry), es[i]? = some e → es[j]? = some e' → e.born = e'.born → i = j
  one : ∀ (i j : Nat) (e e' : MapEntry), es[i]? = some e → es[j]? = some e' → e.key = e'.key → i = j
def MapR (w : World) (m : Nat) (sent : List LtT) : Prop := ∃ es n, w.heap[m]? = some (.map es n) ∧ MapOk es n sent
theorem mapR_nil {w : World} {m : Nat} (h : w.heap[m]? = some (.map #[] 0)) : MapR w m [] := ⟨#[], 0, h, ⟨by simp, by simp, by simp, by simp, by simp, by simp⟩⟩
theorem MapR.block {w w' : World} {m : Nat} {sent : List LtT} (h : MapR w m sent) (hb : w'.heap[m]? = w.heap[m]?) : MapR w' m sent := by
  obtain ⟨es, n, h1, h2⟩ := h
  exact ⟨es, n, hb.trans h1, h2⟩
theorem mem_at {es : Array MapEntry} {e : MapEntry} (h : e ∈ es.toList) : ∃ i : Nat, es[i]? = some e := by
  obtain ⟨i, hi⟩ := List.getElem?_of_mem h
  exact ⟨i, by rw [← Array.getElem?_toList]; exact hi⟩
theorem at_mem {es : Array MapEntry} {e : MapEntry} {i : Nat} (h : es[i]? = some e) : e ∈ es.toList := List.mem_of_getElem? (i := i) (by rw [Array.getElem?_toList]; exact h)
theorem MapOk.keyed {es : Array MapEntry} {n : Nat} {sent : List LtT} (h : MapOk es n sent) : ∀ e ∈ es.toList, ∃ l, keyOf Try.prog 82 e.key = some l := fun e he => by
  obtain ⟨i, hi⟩ := mem_at he
  obtain ⟨k, hk, c, h1, _⟩ := h.old i e hi
  rw [h1]
  exact let_key (h.ok k hk)
/-- A look-up: how often it was sent; no entry: never. -/
theorem look_any {w : World} {m : Nat} {sent : List LtT} (h : MapR w m sent) (k : LtT) (hk : ltOk k) :
    ∃ c : Nat, c ≤ sent.length ∧ (0 < c ↔ k ∈ sent) ∧ (Instr.lookup tM (.map (some m)) (letV k) false).run Try.prog w = .ok (.int .i64 (c : Int)) w := by
  obtain ⟨es, n, hb, ho⟩ := h
  obtain ⟨kl, hkey⟩ := let_key hk
  rcases letterLaw.find w hkey es.toList ho.keyed with ⟨h1, h2⟩ | ⟨j, e, h1, h2, h3⟩
  · refine ⟨0, Nat.zero_le _, ⟨fun h => absurd h (Nat.lt_irrefl 0), fun hm => ?_⟩, ?_⟩
    · obtain ⟨i, e, he, hek⟩ := ho.all k hm
      exact absurd hek (h2 e (at_mem he))
    · simp [Instr.lookup, run_underlying Try.underlying69, MapKept.run_getObj_map hb, letterLaw.check w _ hkey, h1, zero3, Result.andThen]
  · rw [Array.getElem?_toList] at h2
    obtain ⟨k', hk', c, h4, h5, h6, h7⟩ := ho.old j e h2
    have hkk : k' = k := letV_inj (by rw [← h4, h3])
    subst hkk
    refine ⟨c, h7, ⟨fun _ => hk', fun _ => by omega⟩, ?_⟩
    simp [Instr.lookup, run_underlying Try.underlying69, MapKept.run_getObj_map hb, letterLaw.check w _ hkey, h1, h5, Result.andThen]
theorem lookup_of {u : World} {m n : Nat} {es : Array MapEntry} {k : LtT} {v : Value} (hk : ltOk k) (hu : u.heap[m]? = some (.map es n)) (hkd : ∀ e ∈ es.toList, ∃ l, keyOf Try.prog 82 e.key = some l) {i : Nat} {e : MapEntry} (hi : es[i]? = some e) (hek : e.key = letV k) (hall : ∀ (i' : Nat) (e' : MapEntry), es[i']? = some e' → e'.key = letV k → e'.val = v) :
    (Instr.lookup tM (.map (some m)) (letV k) false).run Try.prog u = .ok v u := by
  obtain ⟨kl, hkey⟩ := let_key hk
  rcases letterLaw.find u hkey es.toList hkd with ⟨_, h5⟩ | ⟨j, e, h4, h5, h6⟩
  · exact absurd hek (h5 e (at_mem hi))
  · rw [Array.getElem?_toList] at h5
    simp [Instr.lookup, run_underlying Try.underlying69, MapKept.run_getObj_map hu, letterLaw.check u _ hkey, h4, hall j e h5 h6, Result.andThen]
theorem store_of {u : World} {m n j : Nat} {es : Array MapEntry} {e : MapEntry} (hu : u.heap[m]? = some (.map es n)) (hj : es[j]? = some e) (hp : ∀ (i : Nat) (e' : MapEntry), es[i]? = some e' → e'.born = e.born → i = j) (x : Value) :
    (Instr.entryStore tM (.map (some m)) (goInt (e.born : Int)) x).run Try.prog u = .ok () (setBlock u m (.map (es.modify j (fun e => ⟨e.key, x, e.born⟩)) n)) := by
  obtain ⟨hjl, hje⟩ := Array.getElem?_eq_some_iff.1 hj
  have hidx : es.findIdx? (fun e' => ((e'.born : Nat) : Int) == (e.born : Int)) = some j := by
    rw [Array.findIdx?_eq_some_iff_getElem]
    refine ⟨hjl, by simp [hje], fun i hi => ?_⟩
    simp
    intro hb
    have := hp i es[i] (Array.getElem?_eq_getElem (by omega)) (by omega)
    omega
  simp [Instr.entryStore, MapKept.run_getObj_map hu, asInt, asIntOf, goInt, hidx, MapKept.run_setObj_map _ hu, Result.andThen, setBlock]
theorem modify_at {es : Array MapEntry} {j i : Nat} {e : MapEntry} {f : MapEntry → MapEntry} (h : (es.modify j f)[i]? = some e) : (i = j ∧ ∃ e0, es[j]? = some e0 ∧ e = f e0) ∨ (i ≠ j ∧ es[i]? = some e) := by
  rw [Array.getElem?_modify] at h
  by_cases hij : j = i
  · rw [if_pos hij] at h
    subst hij
    obtain ⟨e0, h1, h2⟩ := Option.map_eq_some_iff.1 h
    exact .inl ⟨rfl, e0, h1, h2.symm⟩
  · rw [if_neg hij] at h
    exact .inr ⟨fun e => hij e.symm, h⟩
theorem push_at {es : Array MapEntry} {i : Nat} {e x : MapEntry} (h : (es.push x)[i]? = some e) : (i = es.size ∧ e = x) ∨ es[i]? = some e := by
  rw [Array.getElem?_push] at h
  by_cases hi : i = es.size
  · rw [if_pos hi] at h
    exact .inl ⟨hi, (Option.some.inj h).symm⟩
  · rw [if_neg hi] at h
    exact .inr h
/-- An entry is made, or found; then a look-up tells the same; then the count is stored. -/
theorem entry_any {w : World} {m : Nat} {sent : List LtT} (h : MapR w m sent) (k : LtT) (hk : ltOk k) :
    ∃ (c b : Nat) (es1 es2 : Array MapEntry) (n1 : Nat), c ≤ sent.length ∧ (Instr.lookup tM (.map (some m)) (letV k) false).run Try.prog w = .ok (.int .i64 (c : Int)) w ∧
      (Instr.mapEntry tM (.map (some m)) (letV k)).run Try.prog w = .ok (.tuple #[.int .i64 (c : Int), goInt (b : Int)]) (setBlock w m (.map es1 n1)) ∧
      (∀ u : World, u.heap[m]? = some (.map es1 n1) → (Instr.lookup tM (.map (some m)) (letV k) false).run Try.prog u = .ok (.int .i64 (c : Int)) u) ∧
      (∀ u : World, u.heap[m]? = some (.map es1 n1) → (Instr.entryStore tM (.map (some m)) (goInt (b : Int)) (.int .i64 ((c + 1 : Nat) : Int))).run Try.prog u = .ok () (setBlock u m (.map es2 n1))) ∧ MapOk es2 n1 (sent ++ [k]) := by
  obtain ⟨es, n, hb, ho⟩ := h
  obtain ⟨kl, hkey⟩ := let_key hk
  have hok : ∀ k' ∈ sent ++ [k], ltOk k' := fun k' hk' => by
    rcases List.mem_append.1 hk' with h | h
    · exact ho.ok k' h
    · rw [List.mem_singleton.1 h]; exact hk
  rcases letterLaw.find w hkey es.toList ho.keyed with ⟨h1, h2⟩ | ⟨j, e, h1, h2, h3⟩
  · have hkd : ∀ e ∈ (es.push ⟨letV k, .int .i64 0, n⟩).toList, ∃ l, keyOf Try.prog 82 e.key = some l := fun e he => by
      obtain ⟨i, hi⟩ := mem_at he
      rcases push_at hi with ⟨_, rfl⟩ | hi
      · exact ⟨kl, hkey⟩
      · exact ho.keyed e (at_mem hi)
    have hat : (es.push (⟨letV k, .int .i64 0, n⟩ : MapEntry))[es.size]? = some ⟨letV k, .int .i64 0, n⟩ := by simp
    refine ⟨0, n, es.push ⟨letV k, .int .i64 0, n⟩, (es.push ⟨letV k, .int .i64 0, n⟩).modify es.size (fun e => ⟨e.key, .int .i64 ((0 + 1 : Nat) : Int), e.born⟩), n + 1, Nat.zero_le _, ?_, ?_, fun u hu => lookup_of hk hu hkd hat rfl (fun i' e' h4 h5 => ?_), fun u hu => store_of hu hat (fun i e' h4 h5 => ?_) _, ⟨fun i e h4 => ?_, fun k' hk' => ?_, hok, fun i e h4 => ?_, fun i j e e' h4 h5 h6 => ?_, fun i j e e' h4 h5 h6 => ?_⟩⟩
    · simp [Instr.lookup, run_underlying Try.underlying69, MapKept.run_getObj_map hb, letterLaw.check w _ hkey, h1, zero3, Result.andThen]
    · simp [Instr.mapEntry, run_underlying Try.underlying69, MapKept.run_getObj_map hb, letterLaw.check w _ hkey, h1, zero3, MapKept.run_setObj_map _ hb, Result.andThen, setBlock]
    · rcases push_at h4 with ⟨_, rfl⟩ | h4
      · rfl
      · exact absurd h5 (h2 e' (at_mem h4))
    · rcases push_at h4 with ⟨h7, _⟩ | h4
      · exact h7
      · have := ho.born i e' h4
        simp only at h5
        omega
    · rcases modify_at h4 with ⟨_, e0, h5, rfl⟩ | ⟨h6, h4⟩
      · rw [hat] at h5
        cases h5
        exact ⟨k, by simp, 1, rfl, rfl, Nat.le_refl _, by simp⟩
      · rcases push_at h4 with ⟨h7, _⟩ | h4
        · exact absurd h7 h6
        · obtain ⟨k', h7, c, h8, h9, h10, h11⟩ := ho.old i e h4
          exact ⟨k', by simp [h7], c, h8, h9, h10, by rw [List.length_append]; omega⟩
    · rcases List.mem_append.1 hk' with h | h
      · obtain ⟨i, e, h4, h5⟩ := ho.all k' h
        have hi : i < es.size := (Array.getElem?_eq_some_iff.1 h4).1
        exact ⟨i, e, by rw [Array.getElem?_modify, if_neg (by omega), Array.getElem?_push, if_neg (by omega)]; exact h4, h5⟩
      · rw [List.mem_singleton.1 h]
        exact ⟨es.size, ⟨letV k, .int .i64 ((0 + 1 : Nat) : Int), n⟩, by rw [Array.getElem?_modify, if_pos rfl, hat]; rfl, rfl⟩
    · rcases modify_at h4 with ⟨_, e0, h5, rfl⟩ | ⟨h6, h4⟩
      · rw [hat] at h5
        cases h5
        exact Nat.lt_succ_self n
      · rcases push_at h4 with ⟨h7, _⟩ | h4
        · exact absurd h7 h6
        · exact Nat.lt_succ_of_lt (ho.born i e h4)
    · have hb' : ∀ (i : Nat) (e : MapEntry), ((es.push (⟨letV k, .int .i64 0, n⟩ : MapEntry)).modify es.size (fun e => ⟨e.key, .int .i64 ((0 + 1 : Nat) : Int), e.born⟩))[i]? = some e → (i = es.size ∧ e.born = n) ∨ es[i]? = some e := fun i e h => by
        rcases modify_at h with ⟨h7, e0, h5, rfl⟩ | ⟨h6, h4⟩
        · rw [hat] at h5
          cases h5
          exact .inl ⟨h7, rfl⟩
        · rcases push_at h4 with ⟨h7, _⟩ | h4
          · exact absurd h7 h6
          · exact .inr h4
      rcases hb' i e h4 with ⟨a1, a2⟩ | a <;> rcases hb' j e' h5 with ⟨b1, b2⟩ | b
      · omega
      · have := ho.born j e' b; omega
      · have := ho.born i e a; omega
      · exact ho.part i j e e' a b h6
    · have hb' : ∀ (i : Nat) (e : MapEntry), ((es.push (⟨letV k, .int .i64 0, n⟩ : MapEntry)).modify es.size (fun e => ⟨e.key, .int .i64 ((0 + 1 : Nat) : Int), e.born⟩))[i]? = some e → (i = es.size ∧ e.key = letV k) ∨ (es[i]? = some e ∧ e.key ≠ letV k) := fun i e h => by
        rcases modify_at h with ⟨h7, e0, h5, rfl⟩ | ⟨h6, h4⟩
        · rw [hat] at h5
          cases h5
          exact .inl ⟨h7, rfl⟩
        · rcases push_at h4 with ⟨h7, _⟩ | h4
          · exact absurd h7 h6
          · exact .inr ⟨h4, h2 e (at_mem h4)⟩
      rcases hb' i e h4 with ⟨a1, a2⟩ | ⟨a, a'⟩ <;> rcases hb' j e' h5 with ⟨b1, b2⟩ | ⟨b, b'⟩
      · omega
      · exact absurd (h6.symm.trans a2) b'
      · exact absurd (h6.trans b2) a'
      · exact ho.one i j e e' a b h6
  · rw [Array.getElem?_toList] at h2
    obtain ⟨k', hk', c, h4, h5, h6, h7⟩ := ho.old j e h2
    have hkk : k' = k := letV_inj (by rw [← h4, h3])
    subst hkk
    have hm1 : ∀ (i : Nat) (e' : MapEntry), (es.modify j (fun e => ⟨letV k', e.val, e.born⟩))[i]? = some e' → es[i]? = some e' := fun i e' h => by
      rcases modify_at h with ⟨rfl, e0, h8, rfl⟩ | ⟨_, h⟩
      · rw [h2] at h8
        cases h8
        rw [h2, ← h3]
      · exact h
    have hat : (es.modify j (fun e => ⟨letV k', e.val, e.born⟩))[j]? = some e := by
      rw [Array.getElem?_modify, if_pos rfl, h2, ← h3]; rfl
    have hkd : ∀ e ∈ (es.modify j (fun e => ⟨letV k', e.val, e.born⟩)).toList, ∃ l, keyOf Try.prog 82 e.key = some l := fun e he => by
      obtain ⟨i, hi⟩ := mem_at he
      exact ho.keyed e (at_mem (hm1 i e hi))
    have hone : ∀ (i : Nat) (e' : MapEntry), es[i]? = some e' → e'.key = letV k' → e'.val = .int .i64 (c : Int) := fun i e' h8 h9 => by
      have h10 := ho.one i j e' e h8 h2 (h9.trans h3.symm)
      subst h10
      rw [h2] at h8
      cases h8
      exact h5
    refine ⟨c, e.born, es.modify j (fun e => ⟨letV k', e.val, e.born⟩), (es.modify j (fun e => ⟨letV k', e.val, e.born⟩)).modify j (fun e => ⟨e.key, .int .i64 ((c + 1 : Nat) : Int), e.born⟩), n, h7, lookup_of hk hb ho.keyed h2 h3 hone, ?_, fun u hu => lookup_of hk hu hkd hat h3 (fun i' e' h8 h9 => hone i' e' (hm1 i' e' h8) h9), fun u hu => store_of hu hat (fun i e' h8 h9 => ho.part i j e' e (hm1 i e' h8) h2 h9) _, ⟨fun i e' h8 => ?_, fun k'' hk'' => ?_, hok, fun i e' h8 => ?_, fun i i' e1 e2 h8 h9 h10 => ?_, fun i i' e1 e2 h8 h9 h10 => ?_⟩⟩
    · simp [Instr.mapEntry, run_underlying Try.underlying69, MapKept.run_getObj_map hb, letterLaw.check w _ hkey, h1, MapKept.run_setObj_map _ hb, Result.andThen, setBlock, h2, h3, h5, letterLaw.stays w hkey]
    · rcases modify_at h8 with ⟨_, e0, h9, rfl⟩ | ⟨_, h8⟩
      · rw [hat] at h9
        cases h9
        exact ⟨k', by simp, c + 1, h3, rfl, by omega, by rw [List.length_append, List.length_singleton]; omega⟩
      · obtain ⟨k'', h9, c', h10, h11, h12, h13⟩ := ho.old i e' (hm1 i e' h8)
        exact ⟨k'', by simp [h9], c', h10, h11, h12, by rw [List.length_append]; omega⟩
    · have hk3 : k'' ∈ sent := by
        rcases List.mem_append.1 hk'' with h | h
        · exact h
        · rw [List.mem_singleton.1 h]; exact hk'
      obtain ⟨i, e', h8, h9⟩ := ho.all k'' hk3
      by_cases hij : j = i
      · subst hij
        rw [h2] at h8
        cases h8
        exact ⟨j, ⟨e.key, .int .i64 ((c + 1 : Nat) : Int), e.born⟩, by rw [Array.getElem?_modify, if_pos rfl, hat]; rfl, h9⟩
      · exact ⟨i, e', by rw [Array.getElem?_modify, if_neg hij, Array.getElem?_modify, if_neg hij]; exact h8, h9⟩
    · rcases modify_at h8 with ⟨_, e0, h9, rfl⟩ | ⟨_, h8⟩
      · rw [hat] at h9
        cases h9
        exact ho.born j e h2
      · exact ho.born i e' (hm1 i e' h8)
    · have hb' : ∀ (i : Nat) (e1 : MapEntry), ((es.modify j (fun e => ⟨letV k', e.val, e.born⟩)).modify j (fun e => ⟨e.key, .int .i64 ((c + 1 : Nat) : Int), e.born⟩))[i]? = some e1 → ∃ e0, es[i]? = some e0 ∧ e0.born = e1.born := fun i e1 h => by
        rcases modify_at h with ⟨rfl, e0, h11, rfl⟩ | ⟨_, h⟩
        · rw [hat] at h11
          cases h11
          exact ⟨e, h2, rfl⟩
        · exact ⟨e1, hm1 i e1 h, rfl⟩
      obtain ⟨x1, a1, a2⟩ := hb' i e1 h8
      obtain ⟨x2, b1, b2⟩ := hb' i' e2 h9
      exact ho.part i i' x1 x2 a1 b1 (by rw [a2, b2, h10])
    · have hb' : ∀ (i : Nat) (e1 : MapEntry), ((es.modify j (fun e => ⟨letV k', e.val, e.born⟩)).modify j (fun e => ⟨e.key, .int .i64 ((c + 1 : Nat) : Int), e.born⟩))[i]? = some e1 → ∃ e0, es[i]? = some e0 ∧ e0.key = e1.key := fun i e1 h => by
        rcases modify_at h with ⟨rfl, e0, h11, rfl⟩ | ⟨_, h⟩
        · rw [hat] at h11
          cases h11
          exact ⟨e, h2, rfl⟩
        · exact ⟨e1, hm1 i e1 h, rfl⟩
      obtain ⟨x1, a1, a2⟩ := hb' i e1 h8
      obtain ⟨x2, b1, b2⟩ := hb' i' e2 h9
      exact ho.one i i' x1 x2 a1 b1 (by rw [a2, b2, h10])
end Go.Proofs.Ytpjbgcpieijeaaa.Net
