/- The two farther ends go alike: plain words. -/
import Derived.Test.YtofmgijdeeikeaaHopRefTakeN
set_option linter.unusedVariables false
set_option linter.unusedSimpArgs false
namespace Go.Proofs.Ytofmgijdeeikeaa.Hop
open Go.RowKit Go.Proofs.Ytofmgijdeeikeaa.Mem Go.Proofs.YtofmgijdeeikeaaW.PrintWords Go.Proofs.YtofmgijdeeikeaaW.PrintLast Go.Deep
/-- The program's end and the document's hold the same. -/
structure Sim (s : InSt) (x : RI) : Prop where
  next : x.next = s.line.from_ + 1
  wi : x.wi = s.line.window
  same : ∀ u, u ∈ x.held ↔ s.keeps u
  one : x.held.Pairwise (fun a b => a.seq ≠ b.seq)
  len : x.held.length = s.line.cnt
theorem pw_one {l : List U} (h : l.Pairwise (fun a b => a.seq ≠ b.seq)) {a b : U} (ha : a ∈ l) (hb : b ∈ l) (e : a.seq = b.seq) : a = b := by
  induction h with
  | nil => simp at ha
  | cons h1 _ ih =>
    rcases List.mem_cons.1 ha with rfl | ha'
    · rcases List.mem_cons.1 hb with rfl | hb'
      · rfl
      · exact absurd e (h1 _ hb')
    · rcases List.mem_cons.1 hb with rfl | hb'
      · exact absurd e.symm (h1 _ ha')
      · exact ih ha' hb'
/-- What is taken out of a list of different numbers. -/
theorem mem_erase {l : List U} (h : l.Pairwise (fun a b => a.seq ≠ b.seq)) {k : Nat} {y : U} (hk : l[k]? = some y) (u : U) : u ∈ l.eraseIdx k ↔ u ∈ l ∧ u.seq ≠ y.seq := by
  induction h generalizing k with
  | nil => simp at hk
  | cons h1 h2 ih =>
    rename_i a l
    cases k with
    | zero =>
      simp only [List.getElem?_cons_zero, Option.some.injEq] at hk
      subst hk
      simp only [List.eraseIdx_cons_zero, List.mem_cons]
      constructor
      · intro hu
        exact ⟨.inr hu, fun e => h1 _ hu e.symm⟩
      · rintro ⟨rfl | hu, hne⟩
        · exact absurd rfl hne
        · exact hu
    | succ k =>
      simp only [List.getElem?_cons_succ] at hk
      have hy := List.mem_of_getElem? hk
      simp only [List.eraseIdx_cons_succ, List.mem_cons, ih hk]
      constructor
      · rintro (rfl | ⟨hu, hne⟩)
        · exact ⟨.inl rfl, h1 _ hy⟩
        · exact ⟨.inr hu, hne⟩
      · rintro ⟨rfl | hu, hne⟩
        · exact .inl rfl
        · exact .inr ⟨hu, hne⟩
theorem keeps_key {s : InSt} (h : s.Mid) {y : U} (hy : s.keeps y) : s.line.there (s.line.key y.seq) = true ∧ s.line.held (s.line.key y.seq) = y := by
  obtain ⟨k, hk, ht, he⟩ := hy
  obtain ⟨i1, i2, i3⟩ := h.in_ k hk ht
  rw [he] at i3
  rw [i3]
  exact ⟨ht, he⟩
theorem keeps_has {s : InSt} (h : s.Mid) {y : U} (hy : s.keeps y) : s.line.has y.seq = true := by
  obtain ⟨h1, h2⟩ := keeps_key h hy
  exact (has_iff _ _).2 ⟨h1, by rw [h2]⟩
theorem has_keeps {s : InSt} (h : s.Mid) {n : Int} (hn : 0 ≤ n) (hh : s.line.has n = true) : s.keeps (s.line.held (s.line.key n)) ∧ (s.line.held (s.line.key n)).seq = n := by
  obtain ⟨t1, t2⟩ := (has_iff _ _).1 hh
  exact ⟨⟨_, (key_spec h.w1 h.w2 hn).2.1, t1, rfl⟩, t2⟩
theorem keeps_step_iff {s : InSt} (h : s.Mid) {n : Int} (hn : n = s.line.from_ + 1) (u : U) : s.step.keeps u ↔ s.keeps u ∧ u.seq ≠ n := by
  subst hn
  constructor
  · intro hu
    refine ⟨keeps_step hu, fun e => ?_⟩
    obtain ⟨k, hk, ht, he⟩ := hu
    by_cases e2 : k = s.line.key (s.line.from_ + 1)
    · subst e2
      simp [InSt.step, L.set, L.setFrom] at ht
    · have ht' : s.line.there k = true := by simpa [InSt.step, L.set, L.setFrom, e2] using ht
      have he' : s.line.held k = u := by simpa [InSt.step, L.set, L.setFrom, e2] using he
      obtain ⟨_, _, i3⟩ := h.in_ k hk ht'
      rw [he', e] at i3
      exact e2 i3.symm
  · rintro ⟨⟨k, hk, ht, he⟩, hne⟩
    have e2 : ¬ k = s.line.key (s.line.from_ + 1) ∨ s.line.there k = true ∧ k = s.line.key (s.line.from_ + 1) := by
      by_cases e : k = s.line.key (s.line.from_ + 1)
      · exact .inr ⟨ht, e⟩
      · exact .inl e
    rcases e2 with e | ⟨_, e⟩
    · exact ⟨k, hk, by simpa [InSt.step, L.set, L.setFrom, e] using ht, by simpa [InSt.step, L.set, L.setFrom, e] using he⟩
    · exfalso
      obtain ⟨i1, i2, i3⟩ := h.in_ k hk ht
      have := key_inj h.w1 h.w2 (f := s.line.from_ + 1) (by have := h.f0; omega) i1 i2 (Int.le_refl _) (by have := h.w1; omega) (by rw [i3, e])
      rw [he] at this
      exact hne this
theorem find_none {s : InSt} {x : RI} (hs : Sim s x) (h : s.Mid) {n : Int} (hn : 0 ≤ n) (hh : s.line.has n = false) : x.held.findIdx? (fun u => u.seq == n) = none := by
  rw [List.findIdx?_eq_none_iff]
  intro y hy
  have hk := keeps_has h ((hs.same y).1 hy)
  by_cases e : y.seq = n
  · rw [e, hh] at hk
    cases hk
  · simpa using e
theorem find_some {s : InSt} {x : RI} (hs : Sim s x) (h : s.Mid) {n : Int} (hn : 0 ≤ n) (hh : s.line.has n = true) : ∃ k, x.held.findIdx? (fun u => u.seq == n) = some k ∧ x.held[k]? = some (s.line.held (s.line.key n)) := by
  obtain ⟨h1, h2⟩ := has_keeps h hn hh
  have hm := (hs.same _).2 h1
  cases hf : x.held.findIdx? (fun u => u.seq == n) with
  | none =>
    rw [List.findIdx?_eq_none_iff] at hf
    have := hf _ hm
    simp [h2] at this
  | some k =>
    refine ⟨k, rfl, ?_⟩
    rw [List.findIdx?_eq_some_iff_getElem] at hf
    obtain ⟨hkl, hb, _⟩ := hf
    rw [List.getElem?_eq_getElem hkl]
    have e : x.held[k].seq = n := by simpa using hb
    have := pw_one hs.one (List.getElem_mem hkl) hm (by rw [e, h2])
    rw [this]
theorem hidx_neg {s : InSt} {x : RI} (hs : Sim s x) (h : s.Mid) {n : Int} (hn : 0 ≤ n) : hidx x.held n < 0 ↔ s.line.has n = false := by
  unfold hidx
  cases hh : s.line.has n with
  | false => rw [find_none hs h hn hh]; simp
  | true =>
    obtain ⟨k, hk, _⟩ := find_some hs h hn hh
    rw [hk]
    simp
theorem sim_drain : ∀ (n m : Nat) {s : InSt} {x : RI}, s.Mid → Sim s x → s.line.cnt ≤ n → x.held.length ≤ m → s.line.from_ + n < 2305843009213693952 → (s.drain n).2 = (x.drain m).2 ∧ Sim (s.drain n).1 (x.drain m).1
  | n, m, s, x, h, hs, hn, hm, hb => by
    have hf := h.f0
    cases hh : s.line.has (s.line.from_ + 1) with
    | false =>
      rw [InSt.drain_no hh, RI.drain_no (by rw [hs.next]; exact find_none hs h (by omega) hh)]
      exact ⟨rfl, hs⟩
    | true =>
      obtain ⟨k, hk, hy⟩ := find_some hs h (by omega) hh
      rw [← hs.next] at hk
      have hkl := (List.getElem?_eq_some_iff.1 hy).1
      obtain ⟨h1, h2⟩ := h.step hh (by
        rcases n with _ | n
        · have : 1 ≤ s.line.cnt := cntTo_pos 64 (key_spec h.w1 h.w2 (show 0 ≤ s.line.from_ + 1 by omega)).2.1 ((has_iff _ _).1 hh).1
          omega
        · omega)
      match n, m, hn, hm, hb with
      | 0, _, hn, _, _ => omega
      | _ + 1, 0, _, hm, _ => omega
      | n + 1, m + 1, hn, hm, hb =>
        rw [InSt.drain_yes hh, RI.drain_yes hk]
        have hseq := (has_keeps h (show 0 ≤ s.line.from_ + 1 by omega) hh).2
        have hs' : Sim s.step ((x.setHeld (x.held.eraseIdx k)).setNext (x.next + 1)) := by
          refine ⟨?_, hs.wi, fun u => ?_, ?_, ?_⟩
          · show x.next + 1 = s.line.from_ + 1 + 1
            rw [hs.next]
          · show u ∈ x.held.eraseIdx k ↔ _
            rw [mem_erase hs.one hy, hseq, keeps_step_iff h rfl, hs.same]
          · exact hs.one.sublist (List.eraseIdx_sublist _ _)
          · show (x.held.eraseIdx k).length = _
            rw [List.length_eraseIdx, if_pos hkl]
            have := hs.len
            omega
        have hl : ((x.setHeld (x.held.eraseIdx k)).setNext (x.next + 1)).held.length ≤ m := by
          rw [hs'.len]
          have := hs.len
          omega
        obtain ⟨e1, e2⟩ := sim_drain n m h1 hs' (by omega) hl (by show s.line.from_ + 1 + (n : Int) < _; omega)
        refine ⟨?_, e2⟩
        show _ :: _ = _ :: _
        rw [e1, List.getD_eq_getElem?_getD, hy]
        rfl
/-- Both take an update alike. -/
theorem sim_take {s : InSt} {x : RI} (h : s.Ok) (hs : Sim s x) (u : U) (hb : s.line.from_ + 65 < 2305843009213693952) : (s.take u).2 = (x.take u).2 ∧ Sim (s.take u).1 (x.take u).1 := by
  have hf := h.mid.f0
  have hn := hs.next
  have hw := hs.wi
  unfold InSt.take RI.take
  by_cases h1 : u.seq < x.next ∨ x.next + x.wi ≤ u.seq
  · rw [if_pos h1, if_neg (by omega), if_pos (by have := h.mid.w1; omega)]
    exact ⟨rfl, hs⟩
  · rw [if_neg h1]
    by_cases h2 : x.next < u.seq
    · rw [if_pos h2, if_pos (by omega)]
      cases hh : s.line.has u.seq with
      | true =>
        have hx : ¬ hidx x.held u.seq < 0 := by rw [hidx_neg hs h.mid (by omega), hh]; simp
        rw [if_neg hx, if_pos rfl]
        exact ⟨rfl, hs⟩
      | false =>
        have hx : hidx x.held u.seq < 0 := (hidx_neg hs h.mid (by omega)).2 hh
        rw [if_pos hx, if_neg (by simp)]
        refine ⟨rfl, hs.next, hs.wi, fun y => ?_, ?_, ?_⟩
        · show y ∈ x.held ++ [u] ↔ _
          rw [List.mem_append, List.mem_singleton, hs.same]
          have ht : s.line.there (s.line.key u.seq) = false := by
            cases ht : s.line.there (s.line.key u.seq) with
            | false => rfl
            | true =>
              obtain ⟨i1, i2, i3⟩ := h.mid.in_ _ (key_spec h.mid.w1 h.mid.w2 (show 0 ≤ u.seq by omega)).2.1 ht
              have : (s.line.held (s.line.key u.seq)).seq = u.seq := key_inj h.mid.w1 h.mid.w2 (f := s.line.from_ + 1) (by omega) i1 i2 (by omega) (by omega) i3
              exact absurd ((has_iff _ _).2 ⟨ht, this⟩) (by simp [hh])
          constructor
          · rintro (⟨k, hk, ht', he⟩ | rfl)
            · have e : ¬ k = (u.seq.tmod s.line.window).toNat := fun e => by
                have e' : k = s.line.key u.seq := e
                rw [e', ht] at ht'
                cases ht'
              exact ⟨k, hk, by simpa [InSt.keep, L.put, L.set, e] using ht', by simpa [InSt.keep, L.put, L.set, e] using he⟩
            · exact ⟨s.line.key y.seq, (key_spec h.mid.w1 h.mid.w2 (show 0 ≤ y.seq by omega)).2.1, by simp [InSt.keep, L.put, L.set, L.key], by simp [InSt.keep, L.put, L.set, L.key]⟩
          · rintro ⟨k, hk, ht', he⟩
            by_cases e : k = (u.seq.tmod s.line.window).toNat
            · subst e
              right
              simpa [InSt.keep, L.put, L.set] using he.symm
            · left
              exact ⟨k, hk, by simpa [InSt.keep, L.put, L.set, e] using ht', by simpa [InSt.keep, L.put, L.set, e] using he⟩
        · show (x.held ++ [u]).Pairwise _
          rw [List.pairwise_append]
          refine ⟨hs.one, List.pairwise_singleton _ _, fun a ha b hb' => ?_⟩
          rw [List.mem_singleton] at hb'
          subst hb'
          intro e
          have := keeps_has h.mid ((hs.same a).1 ha)
          rw [e, hh] at this
          cases this
        · show (x.held ++ [u]).length = (s.line.put u).cnt
          have k1 := (h.keep (u := u) (by omega) (by omega) hh).mid.cnt
          have k2 := h.mid.cnt
          have k3 : (s.keep u).holds = s.holds + 1 := rfl
          have k4 : (s.keep u).line.cnt = (s.line.put u).cnt := rfl
          have := hs.len
          rw [List.length_append, List.length_singleton]
          omega
    · rw [if_neg h2, if_neg (by omega), if_neg (by omega)]
      have hm := h.next (by omega)
      have hs' : Sim s.next (x.setNext (x.next + 1)) := ⟨by show x.next + 1 = s.line.from_ + 1 + 1; rw [hn], hw, hs.same, hs.one, hs.len⟩
      have hc := cnt_le s.next.line
      obtain ⟨e1, e2⟩ := sim_drain 64 x.held.length hm hs' hc (Nat.le_refl _) (by show s.line.from_ + 1 + (64 : Nat) < _; omega)
      exact ⟨by rw [e1], e2⟩
theorem sim_new (n wi d p c l : Int) : Sim ⟨lineNew n wi, 0⟩ ⟨d, wi, p, c, l, n + 1, []⟩ := by
  refine ⟨rfl, rfl, fun u => ?_, List.Pairwise.nil, ?_⟩
  · constructor
    · intro h
      cases h
    · rintro ⟨k, _, ht, _⟩
      simp [lineNew] at ht
  · show 0 = L.cnt _
    have : ∀ k, cntTo (fun _ => false) k = 0 := by
      intro k
      induction k with
      | zero => rfl
      | succ k ih => simp [cntTo, ih]
    exact (this 64).symm
theorem sim_len {s : InSt} {x : RI} (hs : Sim s x) : x.held.length ≤ 64 := by
  rw [hs.len]
  exact cnt_le _
end Go.Proofs.Ytofmgijdeeikeaa.Hop
