/- The two nearer ends go alike: plain words. -/
import Derived.Test.YtofmgijdeeikeaaHopRefAck
import Derived.Test.YtofmgijdeeikeaaHopSim
set_option linter.unusedVariables false
set_option linter.unusedSimpArgs false
namespace Go.Proofs.Ytofmgijdeeikeaa.Hop
open Go.RowKit Go.Proofs.Ytofmgijdeeikeaa.Mem Go.Proofs.YtofmgijdeeikeaaW.PrintWords Go.Proofs.YtofmgijdeeikeaaW.PrintLast Go.Deep
/-- The program's nearer end and the document's hold the same. -/
structure SimO (s : St) (x : RO) : Prop where
  acked : x.acked = s.line.from_
  sent : x.sent = s.sent
  last : x.last = s.last
  clock : x.clock = s.clock
  wi : x.wi = s.line.window
  p : x.p = s.patience
  f0 : 0 ≤ x.first
  fa : x.first ≤ x.acked
  num : ∀ (i : Nat) (u : U), x.all[i]? = some u → u.seq = x.first + 1 + i
  wait : s.wait = x.all.drop (x.sent - x.first).toNat
  way : ∀ (i : Nat) (u : U), x.all[i]? = some u → x.acked < u.seq → u.seq ≤ x.sent → s.line.held (s.line.key u.seq) = u
theorem puts_off : ∀ (us : List U) (l : L) (k : Nat), (∀ u, u ∈ us → l.key u.seq ≠ k) → (l.puts us).held k = l.held k
  | [], _, _, _ => rfl
  | u :: us, l, k, h => by
    have h1 : ¬ k = (u.seq.tmod l.window).toNat := fun e => h u (List.mem_cons_self ..) e.symm
    have h2 := puts_off us (l.put u) k (fun y hy => h y (List.mem_cons_of_mem _ hy))
    show ((l.put u).puts us).held k = _
    rw [h2]
    simp [L.put, L.set, h1]
theorem puts_on : ∀ (us : List U) (l : L) (u : U), u ∈ us → (∀ y, y ∈ us → l.key y.seq = l.key u.seq → y = u) → (l.puts us).held (l.key u.seq) = u
  | [], _, _, h, _ => by simp at h
  | y :: us, l, u, h, hu => by
    show ((l.put y).puts us).held (l.key u.seq) = u
    by_cases hm : u ∈ us
    · exact puts_on us (l.put y) u hm (fun z hz e => hu z (List.mem_cons_of_mem _ hz) e)
    · have e : u = y := by
        rcases List.mem_cons.1 h with e | e
        · exact e
        · exact absurd e hm
      subst e
      rw [puts_off us (l.put u) (l.key u.seq) (fun z hz e2 => hm (by rw [← hu z (List.mem_cons_of_mem _ hz) e2]; exact hz))]
      simp [L.put, L.set, L.key]
theorem drops_off : ∀ (k : Nat) (l : L) (n : Int) (j : Nat), (∀ i, i < k → l.key (n + (i : Int)) ≠ j) → (l.drops n k).held j = l.held j
  | 0, _, _, _, _ => rfl
  | k + 1, l, n, j, h => by
    have h2 := drops_off k l n j (fun i hi => h i (by omega))
    have h1 : ¬ j = ((n + (k : Int)).tmod (l.drops n k).window).toNat := fun e => h k (by omega) (by rw [L.drops_window] at e; exact e.symm)
    show ((l.drops n k).drop (n + (k : Int))).held j = _
    rw [← h2]
    simp only [L.drop, L.set]
    rw [if_neg h1]
theorem simO_n {s : St} {x : RO} (h : s.Ok) (hs : SimO s x) : s.n = x.n := by
  have h1 := hs.acked
  have h2 := hs.sent
  have h3 := hs.last
  have h4 := hs.wi
  have h5 := h.len
  unfold St.n RO.n
  omega
theorem simO_onL {s : St} {x : RO} (h : s.Ok) (hs : SimO s x) : s.onL = x.onL := by
  unfold St.onL RO.onL
  rw [simO_n h hs, hs.wait]
theorem all_len {x : RO} : x.last = x.first + (x.all.length : Int) := rfl
theorem simO_on {s : St} {x : RO} (h : s.Ok) (hs : SimO s x) : SimO s.on x.on := by
  have h1 := hs.acked
  have h2 := hs.sent
  have h3 := hs.last
  have h4 := hs.wi
  have h5 := h.len
  have h6 := h.fs
  have h7 := h.f0
  have hn := simO_n h hs
  have hnb : x.sent + (x.n : Int) ≤ x.acked + x.wi := by have := h.sw; unfold RO.n; omega
  have hnl : x.sent + (x.n : Int) ≤ x.last := by have := h.sl; unfold RO.n; omega
  have hfa := hs.fa
  refine ⟨?_, ?_, hs.last, hs.clock, ?_, hs.p, hs.f0, hs.fa, hs.num, ?_, ?_⟩
  · show x.acked = (s.line.puts _).from_
    rw [L.puts_from]
    exact h1
  · show x.sent + (x.n : Int) = s.sent + (s.n : Int)
    rw [hn, h2]
  · show x.wi = (s.line.puts _).window
    rw [L.puts_window]
    exact h4
  · show s.wait.drop s.n = x.all.drop (x.sent + (x.n : Int) - x.first).toNat
    rw [hn, hs.wait, List.drop_drop]
    congr 1
    omega
  · intro i u hu ha hb
    have hb' : u.seq ≤ x.sent + (x.n : Int) := hb
    have ha' : x.acked < u.seq := ha
    have hseq := hs.num i u hu
    show (s.line.puts (s.wait.take s.n)).held ((s.line.puts (s.wait.take s.n)).key u.seq) = u
    rw [show (s.line.puts (s.wait.take s.n)).key u.seq = s.line.key u.seq by unfold L.key; rw [L.puts_window]]
    have hmem : ∀ y, y ∈ s.wait.take s.n → x.sent < y.seq ∧ y.seq ≤ x.sent + (x.n : Int) ∧ ∃ j : Nat, x.all[j]? = some y := by
      intro y hy
      obtain ⟨j, hj, rfl⟩ := List.getElem_of_mem hy
      have hy2 : (s.wait.take s.n)[j]? = some (s.wait.take s.n)[j] := List.getElem?_eq_getElem hj
      generalize (s.wait.take s.n)[j] = y at *
      rw [List.getElem?_take] at hy2
      split at hy2
      · rename_i hjn
        rw [hs.wait, List.getElem?_drop] at hy2
        have := hs.num _ _ hy2
        refine ⟨by omega, by omega, _, hy2⟩
      · cases hy2
    by_cases hw : u.seq ≤ x.sent
    · rw [puts_off]
      · exact hs.way i u hu ha' hw
      · intro y hy e
        obtain ⟨y1, y2, _⟩ := hmem y hy
        have := key_inj h.w1 h.w2 (f := x.acked + 1) (by omega) (by omega) (by omega) (by omega) (by omega) e
        omega
    · refine puts_on _ _ u ?_ ?_
      · have hil := (List.getElem?_eq_some_iff.1 hu).1
        have hj : (s.wait.take s.n)[i - (x.sent - x.first).toNat]? = some u := by
          rw [List.getElem?_take, if_pos (by omega), hs.wait, List.getElem?_drop, show (x.sent - x.first).toNat + (i - (x.sent - x.first).toNat) = i by omega]
          exact hu
        exact List.mem_of_getElem? hj
      · intro y hy e
        obtain ⟨y1, y2, j, hj⟩ := hmem y hy
        have e1 := key_inj h.w1 h.w2 (f := x.acked + 1) (by omega) (by omega) (by omega) (by omega) (by omega) e
        have e2 := hs.num j y hj
        have e3 : j = i := by omega
        subst e3
        exact Option.some.inj (hj.symm.trans hu)
theorem simO_more {s : St} {x : RO} (h : s.Ok) (hs : SimO s x) {u : U} (hu : u.seq = s.last + 1) : SimO (s.more u) (x.setAll (x.all ++ [u])) := by
  have h3 := hs.last
  have hl := all_len (x := x)
  have h2 := hs.sent
  have hsl := h.sl
  have hfa := hs.fa
  have h6 := h.fs
  have h1 := hs.acked
  have get : ∀ (i : Nat) (y : U), (x.all ++ [u])[i]? = some y → x.all[i]? = some y ∨ (i = x.all.length ∧ y = u) := by
    intro i y hy
    by_cases hi : i < x.all.length
    · rw [List.getElem?_append_left hi] at hy
      exact .inl hy
    · have h1 := (List.getElem?_eq_some_iff.1 hy).1
      simp only [List.length_append, List.length_singleton] at h1
      obtain rfl : i = x.all.length := by omega
      simp at hy
      exact .inr ⟨rfl, hy.symm⟩
  refine ⟨hs.acked, hs.sent, ?_, hs.clock, hs.wi, hs.p, hs.f0, hs.fa, ?_, ?_, ?_⟩
  · show x.first + ((x.all ++ [u]).length : Int) = s.last + 1
    rw [List.length_append, List.length_singleton]
    omega
  · intro i y hy
    rcases get i y hy with h | ⟨rfl, rfl⟩
    · exact hs.num i y h
    · show _ = x.first + 1 + _
      omega
  · show s.wait ++ [u] = (x.all ++ [u]).drop (x.sent - x.first).toNat
    rw [List.drop_append_of_le_length (by omega), hs.wait]
  · intro i y hy ha hb
    rcases get i y hy with h | ⟨_, hyu⟩
    · exact hs.way i y h ha hb
    · have hb' : y.seq ≤ x.sent := hb
      rw [hyu] at hb'
      omega
theorem simO_acked {s : St} {x : RO} (h : s.Ok) (hs : SimO s x) {a : Int} (ha0 : s.line.from_ ≤ a) (ha1 : a ≤ s.last) : SimO (s.acked a) (x.acks a) := by
  have h1 := hs.acked
  have h2 := hs.sent
  have h3 := hs.last
  have h4 := hs.wi
  have hfa := hs.fa
  have h6 := h.fs
  have h7 := h.f0
  have hsw := h.sw
  refine ⟨rfl, ?_, hs.last, rfl, ?_, hs.p, hs.f0, ?_, hs.num, ?_, ?_⟩
  · show max x.sent a = max s.sent a
    rw [h2]
  · show x.wi = (s.line.drops _ _).window
    rw [L.drops_window]
    exact h4
  · show x.first ≤ a
    omega
  · show s.wait.drop (a - s.sent).toNat = x.all.drop (max x.sent a - x.first).toNat
    rw [hs.wait, List.drop_drop]
    congr 1
    omega
  · intro i u hu hx hb
    have hx' : a < u.seq := hx
    have hb' : u.seq ≤ max x.sent a := hb
    show (s.line.drops (s.line.from_ + 1) (s.ackN a)).held ((s.line.drops (s.line.from_ + 1) (s.ackN a)).key u.seq) = u
    rw [show (s.line.drops (s.line.from_ + 1) (s.ackN a)).key u.seq = s.line.key u.seq by unfold L.key; rw [L.drops_window]]
    rw [drops_off]
    · exact hs.way i u hu (by omega) (by omega)
    · intro j hj e
      unfold St.ackN at hj
      have := key_inj h.w1 h.w2 (f := s.line.from_ + 1) (by omega) (by omega) (by omega) (by omega) (by omega) e
      omega
theorem simO_tick {s : St} {x : RO} (h : s.Ok) (hs : SimO s x) : s.tick.2 = x.tick.2 ∧ SimO s.tick.1 x.tick.1 := by
  have h1 := hs.acked
  have h2 := hs.sent
  have h6 := h.fs
  have hc := hs.clock
  have hp := hs.p
  have hfa := hs.fa
  have hsl := h.sl
  have h3 := hs.last
  have hl := all_len (x := x)
  unfold St.tick RO.tick
  by_cases hn : s.sent = s.line.from_
  · have hx : x.sent ≤ x.acked := by omega
    rw [if_pos hn, if_pos hx]
    exact ⟨rfl, hs⟩
  · have hx : ¬ x.sent ≤ x.acked := by omega
    rw [if_neg hn, if_neg hx]
    by_cases hk : s.clock + 1 < s.patience
    · have hk2 : x.clock + 1 < x.p := by omega
      rw [if_pos hk, if_pos hk2]
      exact ⟨rfl, hs.acked, hs.sent, hs.last, by show x.clock + 1 = s.clock + 1; rw [hc], hs.wi, hs.p, hs.f0, hs.fa, hs.num, hs.wait, hs.way⟩
    · have hk2 : ¬ x.clock + 1 < x.p := by omega
      rw [if_neg hk, if_neg hk2]
      refine ⟨?_, hs.acked, hs.sent, hs.last, rfl, hs.wi, hs.p, hs.f0, hs.fa, hs.num, hs.wait, hs.way⟩
      show s.under = x.under
      apply List.ext_getElem?
      intro i
      by_cases hi : i < (s.sent - s.line.from_).toNat
      · rw [under_get s hi]
        unfold RO.under
        have hil : (x.acked - x.first).toNat + i < x.all.length := by omega
        have hu := List.getElem?_eq_getElem hil
        rw [List.getElem?_take, if_pos (by omega), List.getElem?_drop]
        generalize x.all[(x.acked - x.first).toNat + i] = u at *
        rw [hu]
        have hseq := hs.num _ u hu
        have := hs.way _ u hu (by omega) (by omega)
        rw [show s.line.from_ + 1 + (i : Int) = u.seq by omega, this]
      · rw [List.getElem?_eq_none (by rw [under_len]; omega), List.getElem?_eq_none (by unfold RO.under; rw [List.length_take, List.length_drop]; omega)]
end Go.Proofs.Ytofmgijdeeikeaa.Hop
