/- The document's lists: places, what a put, a delete, a replacement come to. -/
import Derived.Test.YtjpalkggmefpfaaTabRepPlain
set_option linter.unusedVariables false
set_option linter.unusedSimpArgs false
namespace Go.Proofs.Ytjpalkggmefpfaa.Tab
open Go.RowKit Go.Proofs.Ytjpalkggmefpfaa.Mem Go.Proofs.YtjpalkggmefpfaaW.PrintWords
theorem at_below (key : ByteArray) : ∀ {l : List Row}, Up l → ∀ {i : Nat} {r : Row}, l[i]? = some r → lt r.key key = decide (i < (below key l).length)
  | [], _, _, _, h => by simp at h
  | x :: l, hu, i, r, h => by
    obtain ⟨h1, h2⟩ := List.pairwise_cons.1 hu
    cases hx : lt x.key key with
    | true =>
      have e : below key (x :: l) = x :: below key l := by unfold below; rw [List.filter_cons, hx]; rfl
      rw [e, List.length_cons]
      cases i with
      | zero => cases h; rw [hx]; simp
      | succ i =>
        rw [at_below key h2 (i := i) (r := r) h]
        simp
    | false =>
      have e : below key (x :: l) = [] := below_none (fun y hy => by
        rcases List.mem_cons.1 hy with rfl | hy
        · exact hx
        · cases hyk : lt y.key key with
          | false => rfl
          | true => exact absurd (lt_trans (h1 y hy) hyk) (by rw [hx]; decide))
      rw [e]
      have hm := List.mem_of_getElem? h
      rcases List.mem_cons.1 hm with rfl | hm
      · rw [hx]; simp
      · cases hrk : lt r.key key with
        | false => simp
        | true => exact absurd (lt_trans (h1 r hm) hrk) (by rw [hx]; decide)
theorem drop_below {l : List Row} (hu : Up l) (k : ByteArray) : l.drop (below k l).length = (find l k).toList ++ above k l := by
  conv => lhs; rw [split_list hu k]
  have e : below k (below k l ++ ((find l k).toList ++ above k l)) = below k l := by rw [← split_list hu k]
  rw [e, List.drop_left]
theorem take_below {l : List Row} (hu : Up l) (k : ByteArray) : l.take (below k l).length = below k l := by
  conv => lhs; rw [split_list hu k]
  have e : below k (below k l ++ ((find l k).toList ++ above k l)) = below k l := by rw [← split_list hu k]
  rw [e, List.take_left]
theorem at_find {l : List Row} (hu : Up l) (k : ByteArray) {o : Row} (h : find l k = some o) : l[(below k l).length]? = some o ∧ eq o.key k = true ∧ l.drop ((below k l).length + 1) = above k l := by
  have h1 := drop_below hu k
  rw [h] at h1
  have h2 : l[(below k l).length]? = some o := by
    have := congrArg (fun x => x[0]?) h1
    simpa using this
  refine ⟨h2, eq_iff.2 (find_key h).1, ?_⟩
  have := congrArg (fun x => x.drop 1) h1
  simpa [List.drop_drop, Nat.add_comm] using this
theorem at_none {l : List Row} (hu : Up l) (k : ByteArray) (h : find l k = none) : l.drop (below k l).length = above k l ∧ ∀ o, l[(below k l).length]? = some o → eq o.key k = false := by
  have h1 := drop_below hu k
  rw [h] at h1
  refine ⟨h1, fun o ho => ?_⟩
  cases he : eq o.key k with
  | false => rfl
  | true =>
    have := List.find?_eq_none.1 h o (List.mem_of_getElem? ho)
    exact absurd he (by simpa using this)
theorem without_found {l : List Row} (hu : Up l) (k : ByteArray) {o : Row} (h : find l k = some o) : without k l = l.take (below k l).length ++ l.drop ((below k l).length + 1) := by
  rw [without_split hu, take_below hu, (at_find hu k h).2.2]
/-- What a range holds. -/
def rowsIn (l : List Row) (f u : ByteArray) : List Row := l.filter (fun x => lies f u x.key)
def rowsOut (l : List Row) (f u : ByteArray) : List Row := l.filter (fun x => !lies f u x.key)
theorem lies_lt {f u k : ByteArray} (h : lt k f = true) : lies f u k = false := by
  unfold lies
  rw [show Op.bytesLess k.toList f.toList = true from h]
  rfl
theorem lies_ge {f u k : ByteArray} (h : lt k f = false) : lies f u k = (u.toList.isEmpty || lt k u) := by
  unfold lies
  rw [show Op.bytesLess k.toList f.toList = false from h]
  rfl
theorem filter_up {l : List Row} (h : Up l) (p : Row → Bool) : Up (l.filter p) := List.Pairwise.filter _ h
theorem isEmpty_size2 {u : ByteArray} : u.toList.isEmpty = decide (u.size = 0) := by
  rw [ByteArray.toList_eq]
  show u.data.toList.isEmpty = decide (u.data.size = 0)
  cases hh : u.data.toList with
  | nil => simp [← Array.length_toList, hh]
  | cons => simp [← Array.length_toList, hh]
theorem upTo_none {l : List Row} {u : ByteArray} (h : u.toList.isEmpty = true) : upTo l u = l.length := by
  unfold upTo
  rw [isEmpty_size2] at h
  rw [if_pos (by simpa using h)]
theorem upTo_some {l : List Row} {u : ByteArray} (h : u.toList.isEmpty = false) : upTo l u = (below u l).length := by
  unfold upTo
  rw [isEmpty_size2] at h
  rw [if_neg (by simpa using h)]
theorem drop_ge {l : List Row} (hu : Up l) (f : ByteArray) : l.drop (below f l).length = l.filter (fun x => !lt x.key f) := by
  induction l with
  | nil => rfl
  | cons x l ih =>
    obtain ⟨h1, h2⟩ := List.pairwise_cons.1 hu
    cases hx : lt x.key f with
    | true =>
      have e : below f (x :: l) = x :: below f l := by unfold below; rw [List.filter_cons, hx]; rfl
      rw [e, List.length_cons, List.drop_succ_cons, ih h2, List.filter_cons, hx]
      rfl
    | false =>
      have hall : ∀ y ∈ x :: l, lt y.key f = false := fun y hy => by
        rcases List.mem_cons.1 hy with rfl | hy
        · exact hx
        · cases hyk : lt y.key f with
          | false => rfl
          | true => exact absurd (lt_trans (h1 y hy) hyk) (by rw [hx]; decide)
      rw [below_none hall]
      rw [List.filter_eq_self.2 (fun y hy => by rw [hall y hy]; rfl)]
      rfl
theorem seg_in {l : List Row} (hu : Up l) (f u : ByteArray) : segD false l (below f l).length (upTo l u) = rowsIn l f u := by
  show seg l _ _ = _
  unfold seg rowsIn
  cases he : u.toList.isEmpty with
  | true =>
    rw [upTo_none he]
    simp only [Int.toNat_natCast, List.take_length]
    rw [drop_ge hu]
    congr 1
    funext x
    cases hx : lt x.key f with
    | true => rw [lies_lt hx]; rfl
    | false => rw [lies_ge hx, he]; rfl
  | false =>
    rw [upTo_some he]
    simp only [Int.toNat_natCast]
    rw [take_below hu]
    have hb : l.filter (fun x => lies f u x.key) = (below u l).filter (fun x => !lt x.key f) := by
      unfold below
      rw [List.filter_filter]
      congr 1
      funext x
      cases hx : lt x.key f with
      | true => rw [lies_lt hx]; rfl
      | false => rw [lies_ge hx, he]; simp
    have hub : Up (below u l) := filter_up hu _
    rw [hb, ← drop_ge hub]
    show (below u l).drop _ = (below u l).drop (below f (below u l)).length
    by_cases hfu : (below u l).length ≤ (below f l).length
    · rw [List.drop_of_length_le hfu]
      have hall : below f (below u l) = below u l := by
        refine below_all (fun x hx => ?_)
        obtain ⟨i, hi, hix⟩ := List.getElem_of_mem hx
        have hxl : l[i]? = some x := by
          have h1 : (l.take (below u l).length)[i]? = some x := by rw [take_below hu u, List.getElem?_eq_getElem hi, hix]
          rwa [List.getElem?_take_of_lt hi] at h1
        rw [at_below f hu hxl]
        simp
        omega
      rw [hall, List.drop_length]
    · have e : (below f (below u l)).length = (below f l).length := by
        have h1 : below f (below u l) = below f l := by
          unfold below
          rw [List.filter_filter]
          refine List.filter_congr (fun x hx => ?_)
          cases hxf : lt x.key f with
          | false => rfl
          | true =>
            obtain ⟨i, hi, hix⟩ := List.getElem_of_mem hx
            have hxl : l[i]? = some x := by rw [List.getElem?_eq_getElem hi, hix]
            have h2 := at_below f hu hxl
            rw [hxf] at h2
            have h3 := at_below u hu hxl
            have h4 : i < (below f l).length := by simpa using h2.symm
            rw [h3]
            simp
            omega
        rw [h1]
      rw [e]
/-- The document's rows behind a replacement, from here on. -/
def outR (f u : ByteArray) (rows : List Row) : Bool → List Row → List Row
  | done, [] => if done then [] else rows
  | done, x :: l => if lies f u x.key = true then outR f u rows done l else if (!done && !lt x.key f) = true then rows ++ x :: outR f u rows true l else x :: outR f u rows done l
theorem outR_true (f u : ByteArray) (rows : List Row) : ∀ l : List Row, outR f u rows true l = rowsOut l f u
  | [] => rfl
  | x :: l => by
    unfold outR rowsOut
    rw [List.filter_cons]
    cases hl : lies f u x.key with
    | true => have ih := outR_true f u rows l; unfold rowsOut at ih; simpa using ih
    | false => have ih := outR_true f u rows l; unfold rowsOut at ih; simpa using ih
theorem outR_up (f u : ByteArray) (rows : List Row) : ∀ {l : List Row}, Up l → outR f u rows false l = below f l ++ (rows ++ (l.drop (below f l).length).filter (fun x => !lies f u x.key))
  | [], _ => by simp [outR, below]
  | x :: l, hu => by
    obtain ⟨h1, h2⟩ := List.pairwise_cons.1 hu
    cases hx : lt x.key f with
    | true =>
      have e : below f (x :: l) = x :: below f l := by unfold below; rw [List.filter_cons, hx]; rfl
      unfold outR
      rw [lies_lt hx, hx, outR_up f u rows h2, e]
      simp
    | false =>
      have hall : ∀ y ∈ x :: l, lt y.key f = false := fun y hy => by
        rcases List.mem_cons.1 hy with rfl | hy
        · exact hx
        · cases hyk : lt y.key f with
          | false => rfl
          | true => exact absurd (lt_trans (h1 y hy) hyk) (by rw [hx]; decide)
      have e2 : below f l = [] := below_none (fun y hy => hall y (List.mem_cons_of_mem _ hy))
      have ih := outR_up f u rows h2
      rw [e2] at ih
      rw [below_none hall]
      unfold outR
      rw [hx, outR_true]
      cases hl : lies f u x.key with
      | true => simpa [hl] using ih
      | false => simp [hl, rowsOut]
theorem putL_mid {a c : List Row} {r : Row} (hr : r.check = 0) (ha : ∀ x ∈ a, lt x.key r.key = true) (hc : ∀ x ∈ c, lt r.key x.key = true) (hlen : a.length + c.length < 1048576) : putL (a ++ c) r = (0, a ++ r :: c) := by
  unfold putL
  rw [if_pos hr, if_pos (.inr (by rw [List.length_append]; exact hlen)), show below r.key (a ++ c) = below r.key a ++ below r.key c by simp [below], below_all ha, below_none (fun x hx => lt_asymm (hc x hx))]
  have e : above r.key (a ++ c) = c := by
    unfold above
    rw [List.filter_append, List.filter_eq_nil_iff.2 (fun x hx => by rw [lt_asymm (ha x hx)]; decide), List.filter_eq_self.2 (fun x hx => hc x hx)]
    rfl
  rw [e, List.append_nil]
theorem putAll_mid {c : List Row} : ∀ (rows a : List Row), Up (a ++ rows) → (∀ r ∈ rows, r.check = 0) → (∀ r ∈ rows, ∀ x ∈ c, lt r.key x.key = true) → a.length + rows.length + c.length ≤ 1048576 → rows.foldl (fun l r => (putL l r).2) (a ++ c) = a ++ (rows ++ c)
  | [], _, _, _, _, _ => rfl
  | r :: rows, a, hu, hch, hc, hlen => by
    simp only [List.length_cons] at hlen
    have hua : ∀ x ∈ a, lt x.key r.key = true := fun x hx => (List.pairwise_append.1 hu).2.2 x hx r (List.mem_cons_self ..)
    rw [List.foldl_cons, putL_mid (hch r (List.mem_cons_self ..)) hua (fun x hx => hc r (List.mem_cons_self ..) x hx) (by omega)]
    have h2 := putAll_mid (c := c) rows (a ++ [r]) (by rw [List.append_assoc]; exact hu) (fun x hx => hch x (List.mem_cons_of_mem _ hx)) (fun x hx => hc x (List.mem_cons_of_mem _ hx)) (by simp only [List.length_append, List.length_singleton]; omega)
    rw [List.append_assoc] at h2
    show rows.foldl _ (a ++ r :: c) = _
    rw [show a ++ r :: c = a ++ ([r] ++ c) by simp, h2]
    simp
theorem delAll_mid {c : List Row} : ∀ (m a : List Row), Up (a ++ (m ++ c)) → m.foldl (fun l r => without r.key l) (a ++ (m ++ c)) = a ++ c
  | [], _, _ => rfl
  | x :: m, a, hu => by
    have e : without x.key (a ++ (x :: m ++ c)) = a ++ (m ++ c) := by
      have hu2 : Up (a ++ x :: (m ++ c)) := hu
      obtain ⟨_, _, h1, h2⟩ := up_node hu2
      have hw : without x.key (a ++ (x :: m ++ c)) = without x.key a ++ (without x.key [x] ++ without x.key (m ++ c)) := by unfold without; rw [← List.filter_append, ← List.filter_append]; rfl
      rw [hw, without_all (l := a) (fun y hy => lt_ne (h1 y hy)), without_all (l := m ++ c) (fun y hy e => lt_ne (h2 y hy) e.symm)]
      simp [without, eq_iff.2 (rfl : x.key = x.key)]
    rw [List.foldl_cons, e]
    exact delAll_mid m a (by
      have h3 := hu
      unfold Up at h3 ⊢
      exact List.Pairwise.sublist (List.Sublist.append_left (List.Sublist.append_right (List.sublist_cons_self x m) c) a) h3)
theorem scan_facts {f u : ByteArray} : ∀ {rows : List Row} {q : Option Row}, repScan f u q rows = 0 → (∀ r ∈ rows, r.check = 0 ∧ lies f u r.key = true) ∧ Up rows ∧ (∀ p, q = some p → ∀ r ∈ rows, lt p.key r.key = true)
  | [], _, _ => ⟨fun _ h => (nomatch h), List.Pairwise.nil, fun _ _ _ h => (nomatch h)⟩
  | r :: l, q, h => by
    unfold repScan at h
    split at h
    · rename_i hc
      split at h
      · rename_i hl
        cases q with
        | none =>
          obtain ⟨h1, h2, h3⟩ := scan_facts (rows := l) (q := some r) h
          exact ⟨fun x hx => (List.mem_cons.1 hx).elim (fun e => by rw [e]; exact ⟨hc, hl⟩) (h1 x), List.pairwise_cons.2 ⟨h3 r rfl, h2⟩, fun p hp => by cases hp⟩
        | some q0 =>
          simp only at h
          split at h
          · rename_i hlt
            obtain ⟨h1, h2, h3⟩ := scan_facts (rows := l) (q := some r) h
            exact ⟨fun x hx => (List.mem_cons.1 hx).elim (fun e => by rw [e]; exact ⟨hc, hl⟩) (h1 x), List.pairwise_cons.2 ⟨h3 r rfl, h2⟩, fun p hp x hx => by
              cases hp
              rcases List.mem_cons.1 hx with rfl | hx
              · exact hlt
              · exact lt_trans hlt (h3 r rfl x hx)⟩
          · exact absurd h (by decide)
      · exact absurd h (by decide)
    · rename_i hc
      exact absurd h hc
theorem rowsIn_part {l : List Row} (hu : Up l) (f u : ByteArray) : l = below f l ++ (rowsIn l f u ++ (l.drop (below f l).length).filter (fun x => !lies f u x.key)) := by
  have h1 : rowsIn l f u = (l.drop (below f l).length).filter (fun x => lies f u x.key) := by
    rw [drop_ge hu, List.filter_filter]
    unfold rowsIn
    refine List.filter_congr (fun x _ => ?_)
    cases hx : lt x.key f with
    | true => rw [lies_lt hx]; rfl
    | false => simp
  have hd : Up (l.drop (below f l).length) := List.Pairwise.sublist (List.drop_sublist _ _) hu
  have hge : ∀ x ∈ l.drop (below f l).length, lt x.key f = false := fun x hx => by rw [drop_ge hu] at hx; simpa using (List.mem_filter.1 hx).2
  conv => lhs; rw [← List.take_append_drop (below f l).length l, take_below hu]
  congr 1
  rw [h1]
  generalize l.drop (below f l).length = m at *
  clear h1 hu
  induction m with
  | nil => rfl
  | cons x m ih =>
    obtain ⟨h3, h4⟩ := List.pairwise_cons.1 hd
    have ih := ih h4 (fun y hy => hge y (List.mem_cons_of_mem _ hy))
    cases hl : lies f u x.key with
    | true =>
      simp only [List.filter_cons, hl, if_true, Bool.not_true, Bool.false_eq_true, if_false, List.cons_append]
      rw [← ih]
    | false =>
      have hout : ∀ y ∈ m, lies f u y.key = false := fun y hy => by
        rw [lies_ge (hge y (List.mem_cons_of_mem _ hy))]
        rw [lies_ge (hge x (List.mem_cons_self ..))] at hl
        cases he : u.toList.isEmpty with
        | true => rw [he] at hl; cases hl
        | false =>
          rw [he] at hl
          have hl : lt x.key u = false := hl
          cases hy2 : lt y.key u with
          | false => rfl
          | true => exact absurd (lt_trans (h3 y hy) hy2) (by rw [hl]; decide)
      simp only [List.filter_cons, hl, Bool.false_eq_true, if_false, Bool.not_false, if_true]
      rw [List.filter_eq_nil_iff.2 (fun y hy => by rw [hout y hy]; decide), List.filter_eq_self.2 (fun y hy => by rw [hout y hy]; rfl)]
      rfl
/-- The document's Replace. -/
theorem replL_doc {l : List Row} (hl : LOk l) (f u : ByteArray) (rows : List Row) : replL l f u rows = if repScan f u none rows ≠ 0 then (repScan f u none rows, l) else if ((outR f u rows false l).length : Int) > 1048576 then (3, l) else (0, outR f u rows false l) := by
  unfold replL
  by_cases hs : repScan f u none rows = 0
  · have hs2 : ¬ (repScan f u none rows ≠ 0) := by simpa using hs
    rw [if_neg hs2, if_neg hs2]
    obtain ⟨hr1, hr2, _⟩ := scan_facts hs
    have hp := rowsIn_part hl.up f u
    have ho := outR_up f u rows hl.up
    have hseg := seg_in hl.up f u
    have hlr : (rowsIn l f u).length = (segD false l (below f l).length (upTo l u)).length := by rw [hseg]
    have hcut : (cutN l f u) = ((rowsIn l f u).length : Int) := by
      rw [hlr]
      have hbl : (below f l).length ≤ l.length := List.length_filter_le ..
      have hup : 0 ≤ upTo l u ∧ upTo l u ≤ l.length := by
        unfold upTo
        have : (below u l).length ≤ l.length := List.length_filter_le ..
        split <;> omega
      show cutN l f u = ((seg l _ _).length : Int)
      unfold cutN seg
      rw [List.length_drop, List.length_take]
      omega
    have hgt : ∀ x ∈ (l.drop (below f l).length).filter (fun x => !lies f u x.key), u.toList.isEmpty = false ∧ lt x.key u = false := fun x hx => by
      obtain ⟨h1, h2⟩ := List.mem_filter.1 hx
      have hge : lt x.key f = false := by rw [drop_ge hl.up] at h1; simpa using (List.mem_filter.1 h1).2
      rw [lies_ge hge] at h2
      simpa using h2
    generalize (l.drop (below f l).length).filter (fun x => !lies f u x.key) = c at *
    have hlen := congrArg List.length hp
    simp only [List.length_append] at hlen
    have hlo := congrArg List.length ho
    simp only [List.length_append] at hlo
    by_cases hbig : (l.length : Int) - cutN l f u + rows.length > 1048576
    · rw [if_pos hbig, if_pos (by rw [hcut] at hbig; omega)]
    · rw [if_neg hbig, if_neg (by rw [hcut] at hbig; omega), hseg]
      have hd : (rowsIn l f u).foldl (fun l r => without r.key l) l = below f l ++ c := by
        conv => lhs; arg 2; rw [hp]
        exact delAll_mid (rowsIn l f u) (below f l) (by rw [← hp]; exact hl.up)
      rw [hd, putAll_mid rows (below f l) ?_ (fun r hr => (hr1 r hr).1) ?_ (by rw [hcut] at hbig; omega), ho]
      · refine List.pairwise_append.2 ⟨filter_up hl.up _, hr2, fun a ha b hb => ?_⟩
        have h1 : lt a.key f = true := by simpa using (List.mem_filter.1 ha).2
        have h2 : lt b.key f = false := by
          cases hbf : lt b.key f with
          | false => rfl
          | true => have := (hr1 b hb).2; rw [lies_lt hbf] at this; cases this
        cases hab : lt a.key b.key with
        | true => rfl
        | false =>
          rcases Bool.eq_false_or_eq_true (eq b.key a.key) with he | he
          · rw [eq_iff.1 he, h1] at h2; cases h2
          · cases hba : lt b.key a.key with
            | true => exact absurd (lt_trans hba h1) (by rw [h2]; decide)
            | false => exact absurd (lt_tri hba hab) (eq_false.1 he)
      · intro r hr x hx
        obtain ⟨h1, h2⟩ := hgt x hx
        have h3 := (hr1 r hr).2
        have hrf : lt r.key f = false := by
          cases hbf : lt r.key f with
          | false => rfl
          | true => rw [lies_lt hbf] at h3; cases h3
        rw [lies_ge hrf, h1] at h3
        have h3 : lt r.key u = true := h3
        cases hab : lt r.key x.key with
        | true => rfl
        | false =>
          rcases Bool.eq_false_or_eq_true (eq x.key r.key) with he | he
          · rw [← eq_iff.1 he] at h3; rw [h3] at h2; cases h2
          · cases hba : lt x.key r.key with
            | true => exact absurd (lt_trans hba h3) (by rw [h2]; decide)
            | false => exact absurd (lt_tri hba hab) (eq_false.1 he)
  · rw [if_pos hs, if_pos hs]
end Go.Proofs.Ytjpalkggmefpfaa.Tab
