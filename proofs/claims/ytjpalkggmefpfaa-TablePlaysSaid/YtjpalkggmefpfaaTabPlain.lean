/- Trees of rows, and what is done with them: plain words, no program. -/
import Derived.Test.YtjpalkggmefpfaaWWords
import Derived.Lib.Hide
set_option linter.unusedVariables false
set_option linter.unusedSimpArgs false
namespace Go.Proofs.Ytjpalkggmefpfaa.Tab
open Go.RowKit Go.Proofs.YtjpalkggmefpfaaW.PrintWords
/-- The order of keys, as the model has it. -/
def lt (a b : ByteArray) : Bool := Op.bytesLess a.toList b.toList
def eq (a b : ByteArray) : Bool := a.toList == b.toList
theorem toL (a : ByteArray) : a.toList = a.data.toList := by
  have h : ∀ (n i : Nat) (r : List UInt8), n = a.size - i → i ≤ a.size → ByteArray.toList.loop a i r = r.reverse ++ a.data.toList.drop i := by
    intro n
    induction n with
    | zero =>
      intro i r hn hi
      unfold ByteArray.toList.loop
      rw [if_neg (by omega)]
      have : i = a.data.toList.length := by rw [data_length]; omega
      rw [List.drop_of_length_le (by omega)]
      simp
    | succ n ih =>
      intro i r hn hi
      unfold ByteArray.toList.loop
      rw [if_pos (by omega), ih (i + 1) _ (by omega) (by omega)]
      have hl : i < a.data.toList.length := by rw [data_length]; omega
      rw [List.drop_eq_getElem_cons hl]
      simp only [List.reverse_cons, List.append_assoc, List.cons_append, List.nil_append]
      congr 2
      have hl' : i < a.data.size := by rw [← Array.length_toList]; exact hl
      show a.get! i = _
      simp only [ByteArray.get!]
      rw [Array.getElem_toList]
      exact getElem!_pos a.data i hl'
  have := h (a.size - 0) 0 [] rfl (by omega)
  simpa [ByteArray.toList] using this
theorem eq_iff {a b : ByteArray} : eq a b = true ↔ a = b := by
  unfold eq
  rw [beq_iff_eq, toL, toL]
  constructor
  · intro h
    cases a with | mk x => cases b with | mk y =>
    have : x = y := Array.toList_inj.1 h
    rw [this]
  · intro h; rw [h]
theorem eq_false {a b : ByteArray} : eq a b = false ↔ a ≠ b := by
  rw [← Bool.not_eq_true, Ne, eq_iff]
theorem bl_irrefl : ∀ a : List UInt8, Op.bytesLess a a = false
  | [] => rfl
  | a :: x => by simp [Op.bytesLess, bl_irrefl x]
theorem bl_trans : ∀ a b c : List UInt8, Op.bytesLess a b = true → Op.bytesLess b c = true → Op.bytesLess a c = true
  | _, _, [], _, h => by cases ‹List UInt8› <;> simp [Op.bytesLess] at h
  | _, [], _ :: _, h, _ => by cases ‹List UInt8› <;> simp [Op.bytesLess] at h
  | [], _ :: _, _ :: _, _, _ => rfl
  | a :: x, b :: y, c :: z, h, k => by
    simp only [Op.bytesLess, Bool.or_eq_true, Bool.and_eq_true, decide_eq_true_eq, beq_iff_eq] at h k ⊢
    rcases h with h | ⟨h, h'⟩ <;> rcases k with k | ⟨k, k'⟩
    · exact .inl (UInt8.lt_trans h k)
    · subst k; exact .inl h
    · subst h; exact .inl k
    · subst h; subst k; exact .inr ⟨rfl, bl_trans x y z h' k'⟩
theorem bl_tri : ∀ a b : List UInt8, Op.bytesLess a b = false → Op.bytesLess b a = false → a = b
  | [], [], _, _ => rfl
  | [], _ :: _, h, _ => by simp [Op.bytesLess] at h
  | _ :: _, [], _, h => by simp [Op.bytesLess] at h
  | a :: x, b :: y, h, k => by
    simp only [Op.bytesLess, Bool.or_eq_false_iff, Bool.and_eq_false_iff, decide_eq_false_iff_not, beq_eq_false_iff_ne] at h k
    have e : a = b := UInt8.le_antisymm (UInt8.not_lt.1 k.1) (UInt8.not_lt.1 h.1)
    subst e
    have h2 : Op.bytesLess x y = false := by rcases h.2 with h | h <;> simp_all
    have k2 : Op.bytesLess y x = false := by rcases k.2 with h | h <;> simp_all
    rw [bl_tri x y h2 k2]
theorem lt_irrefl (a : ByteArray) : lt a a = false := bl_irrefl _
theorem lt_trans {a b c : ByteArray} (h : lt a b = true) (k : lt b c = true) : lt a c = true := bl_trans _ _ _ h k
theorem lt_asymm {a b : ByteArray} (h : lt a b = true) : lt b a = false := by
  cases k : lt b a with
  | false => rfl
  | true => have := lt_trans h k; rw [lt_irrefl] at this; cases this
theorem lt_tri {a b : ByteArray} (h : lt a b = false) (k : lt b a = false) : a = b := by
  have e := bl_tri _ _ h k
  exact eq_iff.1 (by unfold eq; rw [beq_iff_eq]; exact e)
theorem lt_ne {a b : ByteArray} (h : lt a b = true) : a ≠ b := fun e => by rw [e, lt_irrefl] at h; cases h
/-- A row. -/
structure Row where
  key : ByteArray
  value : ByteArray
  version : Int
def Row.zero : Row := ⟨⟨#[]⟩, ⟨#[]⟩, 0⟩
def Row.cells (r : Row) : List Value := [.string r.key, .string r.value, .int .i64 r.version]
abbrev Row.val (r : Row) : Value := .agg #[.string r.key, .string r.value, .int .i64 r.version]
/-- A tree: key, row, left, right, high, count. -/
inductive T where
  | nil : T
  | node : ByteArray → Row → T → T → Int → Int → T
def T.key : T → ByteArray
  | .nil => ⟨#[]⟩
  | .node k _ _ _ _ _ => k
def T.row : T → Row
  | .nil => Row.zero
  | .node _ v _ _ _ _ => v
def T.left : T → T
  | .nil => .nil
  | .node _ _ l _ _ _ => l
def T.right : T → T
  | .nil => .nil
  | .node _ _ _ r _ _ => r
def T.high : T → Int
  | .nil => 0
  | .node _ _ _ _ h _ => h
def T.count : T → Int
  | .nil => 0
  | .node _ _ _ _ _ c => c
def T.made (k : ByteArray) (v : Row) (l r : T) : T := .node k v l r (1 + max l.high r.high) (1 + l.count + r.count)
def T.level (k : ByteArray) (v : Row) (l r : T) : T :=
  if r.high + 1 < l.high then
    if l.right.high ≤ l.left.high then .made l.key l.row l.left (.made k v l.right r)
    else .made l.right.key l.right.row (.made l.key l.row l.left l.right.left) (.made k v l.right.right r)
  else if l.high + 1 < r.high then
    if r.left.high ≤ r.right.high then .made r.key r.row (.made k v l r.left) r.right
    else .made r.left.key r.left.row (.made k v l r.left.left) (.made r.key r.row r.left.right r.right)
  else .made k v l r
def T.put : T → ByteArray → Row → T
  | .nil, k, v => .made k v .nil .nil
  | .node k0 v0 l r _ _, k, v => if lt k k0 then .level k0 v0 (l.put k v) r else if lt k0 k then .level k0 v0 l (r.put k v) else .made k v l r
def T.least : T → T
  | .nil => .nil
  | .node k v .nil r h c => .node k v .nil r h c
  | .node _ _ (.node k v l r h c) _ _ _ => (T.node k v l r h c).least
def T.size : T → Nat
  | .nil => 0
  | .node _ _ l r _ _ => l.size + r.size + 1
def T.isNil : T → Bool
  | .nil => true
  | _ => false
/-- What 'cut' does at the least key: it is asked of a node's right part. -/
def T.cut : T → ByteArray → T
  | .nil, _ => .nil
  | .node k0 v0 l r _ _, k =>
    if lt k k0 then .level k0 v0 (l.cut k) r else if lt k0 k then .level k0 v0 l (r.cut k)
    else if l.isNil then r else if r.isNil then l else .level r.least.key r.least.row l (r.cut r.least.key)
def T.get : T → ByteArray → T
  | .nil, _ => .nil
  | .node k v l r h c, x => if eq k x then .node k v l r h c else if lt x k then l.get x else r.get x
/-- The rows in their order. -/
def T.list : T → List Row
  | .nil => []
  | .node _ v l r _ _ => l.list ++ v :: r.list
/-- Heights and counts are right, each row stands under its own key. -/
def T.WF : T → Prop
  | .nil => True
  | .node k v l r h c => l.WF ∧ r.WF ∧ h = 1 + max l.high r.high ∧ c = 1 + l.count + r.count ∧ k = v.key
theorem WF.count : ∀ {t : T}, t.WF → t.count = t.list.length
  | .nil, _ => rfl
  | .node _ _ l r _ c, ⟨hl, hr, _, hc, _⟩ => by
    show c = _
    rw [hc, WF.count hl, WF.count hr]
    simp [T.list]
    omega
theorem WF.high : ∀ {t : T}, t.WF → 0 ≤ t.high ∧ t.high ≤ t.count
  | .nil, _ => ⟨Int.le_refl _, Int.le_refl _⟩
  | .node _ _ l r h c, ⟨hl, hr, hh, hc, _⟩ => by
    have h1 := WF.high hl
    have h2 := WF.high hr
    show 0 ≤ h ∧ h ≤ c
    omega
theorem WF.left {t : T} (h : t.WF) : t.left.WF := by cases t with | nil => trivial | node => exact h.1
theorem WF.right {t : T} (h : t.WF) : t.right.WF := by cases t with | nil => trivial | node => exact h.2.1
theorem WF.made {k : ByteArray} {v : Row} {l r : T} (hl : l.WF) (hr : r.WF) (hk : k = v.key) : (T.made k v l r).WF := ⟨hl, hr, rfl, rfl, hk⟩
theorem WF.row {t : T} (h : t.WF) (hn : t ≠ .nil) : t.key = t.row.key := by cases t with | nil => exact absurd rfl hn | node => exact h.2.2.2.2
theorem WF.node {t : T} (h : t.WF) (h0 : 0 < t.high) : ∃ k v l r hh c, t = .node k v l r hh c := by
  cases t with
  | nil => exact absurd h0 (by show ¬ (0 : Int) < 0; omega)
  | node k v l r hh c => exact ⟨k, v, l, r, hh, c, rfl⟩
/-- A node that is higher than another by two has one that is high below it. -/
theorem WF.high_node {k : ByteArray} {v : Row} {l r : T} {h c : Int} (hw : (T.node k v l r h c).WF) : h = 1 + max l.high r.high ∧ 0 ≤ l.high ∧ 0 ≤ r.high := ⟨hw.2.2.1, (WF.high hw.1).1, (WF.high hw.2.1).1⟩
theorem WF.level {k : ByteArray} {v : Row} {l r : T} (hl : l.WF) (hr : r.WF) (hk : k = v.key) : (T.level k v l r).WF ∧ (T.level k v l r).list = l.list ++ v :: r.list := by
  have h1 := (WF.high hl).1
  have h2 := (WF.high hr).1
  unfold T.level
  split
  · rename_i h
    obtain ⟨lk, lv, ll, lr, lh, lc, rfl⟩ := WF.node hl (by omega)
    obtain ⟨e, h3, h4⟩ := WF.high_node hl
    split
    · exact ⟨WF.made hl.1 (WF.made hl.2.1 hr hk) hl.2.2.2.2, by simp [T.made, T.list, T.left, T.right, T.row]⟩
    · rename_i h5
      simp only [T.left, T.right] at h5
      obtain ⟨mk, mv, ml, mr, mh, mc, rfl⟩ := WF.node hl.2.1 (by omega)
      exact ⟨WF.made (WF.made hl.1 hl.2.1.1 hl.2.2.2.2) (WF.made hl.2.1.2.1 hr hk) hl.2.1.2.2.2.2, by simp [T.made, T.list, T.left, T.right, T.row]⟩
  · split
    · rename_i h
      obtain ⟨rk, rv, rl, rr, rh, rc, rfl⟩ := WF.node hr (by omega)
      obtain ⟨e, h3, h4⟩ := WF.high_node hr
      split
      · exact ⟨WF.made (WF.made hl hr.1 hk) hr.2.1 hr.2.2.2.2, by simp [T.made, T.list, T.left, T.right, T.row]⟩
      · rename_i h5
        simp only [T.left, T.right] at h5
        obtain ⟨mk, mv, ml, mr, mh, mc, rfl⟩ := WF.node hr.1 (by omega)
        exact ⟨WF.made (WF.made hl hr.1.1 hk) (WF.made hr.1.2.1 hr.2.1 hr.2.2.2.2) hr.1.2.2.2.2, by simp [T.made, T.list, T.left, T.right, T.row]⟩
    · exact ⟨WF.made hl hr hk, rfl⟩
theorem WF.put : ∀ {t : T} (h : t.WF) {v : Row}, (t.put v.key v).WF
  | .nil, _, _ => WF.made trivial trivial rfl
  | .node k0 v0 l r _ _, ⟨hl, hr, _, _, hk⟩, v => by
    rw [T.put]
    split
    · exact (WF.level (WF.put hl) hr hk).1
    · split
      · exact (WF.level hl (WF.put hr) hk).1
      · exact WF.made hl hr rfl
theorem least_node : ∀ {t : T}, t ≠ .nil → t.least ≠ .nil
  | .nil, h => absurd rfl h
  | .node _ _ .nil _ _ _, _ => by intro h; rw [T.least] at h; cases h
  | .node _ _ (.node k v l r h c) _ _ _, _ => by rw [T.least]; exact least_node (by intro h; cases h)
theorem WF.least : ∀ {t : T}, t.WF → t.least.WF
  | .nil, _ => trivial
  | .node _ _ .nil _ _ _, h => h
  | .node _ _ (.node k v l r hh c) _ _ _, h => by rw [T.least]; exact WF.least h.1
theorem isNil_iff {t : T} : t.isNil = true ↔ t = .nil := by cases t <;> simp [T.isNil]
theorem isNil_false {t : T} : t.isNil = false ↔ t ≠ .nil := by cases t <;> simp [T.isNil]
theorem WF.cut : ∀ {t : T} (h : t.WF) (k : ByteArray), (t.cut k).WF
  | .nil, _, _ => trivial
  | .node k0 v0 l r _ _, ⟨hl, hr, _, _, hk⟩, k => by
    rw [T.cut]
    split
    · exact (WF.level (WF.cut hl k) hr hk).1
    · split
      · exact (WF.level hl (WF.cut hr k) hk).1
      · split
        · exact hr
        · split
          · exact hl
          · rename_i h
            have hn : r ≠ .nil := isNil_false.1 (by simpa using h)
            exact (WF.level hl (WF.cut hr _) (WF.row (WF.least hr) (least_node hn))).1
/-- Keys rise. -/
def Up (l : List Row) : Prop := l.Pairwise (fun a b => lt a.key b.key = true)
theorem up_node {l r : List Row} {v : Row} (h : Up (l ++ v :: r)) : Up l ∧ Up r ∧ (∀ x, x ∈ l → lt x.key v.key = true) ∧ (∀ x, x ∈ r → lt v.key x.key = true) := by
  unfold Up at h
  rw [List.pairwise_append, List.pairwise_cons] at h
  exact ⟨h.1, h.2.1.2, fun x hx => h.2.2 x hx v (List.mem_cons_self ..), h.2.1.1⟩
def below (k : ByteArray) (l : List Row) : List Row := l.filter (fun x => lt x.key k)
def above (k : ByteArray) (l : List Row) : List Row := l.filter (fun x => lt k x.key)
theorem below_app (k : ByteArray) (l r : List Row) (v : Row) : below k (l ++ v :: r) = below k l ++ (if lt v.key k then v :: below k r else below k r) := by
  simp [below, List.filter_cons]
theorem above_app (k : ByteArray) (l r : List Row) (v : Row) : above k (l ++ v :: r) = above k l ++ (if lt k v.key then v :: above k r else above k r) := by
  simp [above, List.filter_cons]
theorem below_none {k : ByteArray} {l : List Row} (h : ∀ x, x ∈ l → lt x.key k = false) : below k l = [] := List.filter_eq_nil_iff.2 (fun x hx => by simp [h x hx])
theorem below_all {k : ByteArray} {l : List Row} (h : ∀ x, x ∈ l → lt x.key k = true) : below k l = l := List.filter_eq_self.2 (fun x hx => by simp [h x hx])
theorem above_none {k : ByteArray} {l : List Row} (h : ∀ x, x ∈ l → lt k x.key = false) : above k l = [] := List.filter_eq_nil_iff.2 (fun x hx => by simp [h x hx])
theorem above_all {k : ByteArray} {l : List Row} (h : ∀ x, x ∈ l → lt k x.key = true) : above k l = l := List.filter_eq_self.2 (fun x hx => by simp [h x hx])
theorem put_list : ∀ {t : T}, t.WF → Up t.list → ∀ v : Row, (t.put v.key v).list = below v.key t.list ++ v :: above v.key t.list
  | .nil, _, _, _ => rfl
  | .node k0 v0 l r _ _, ⟨hl, hr, _, _, hk⟩, hu, v => by
    obtain ⟨u1, u2, u3, u4⟩ := up_node hu
    subst hk
    rw [T.put]
    show _ = below v.key (l.list ++ v0 :: r.list) ++ v :: above v.key (l.list ++ v0 :: r.list)
    rw [below_app, above_app]
    cases h : lt v.key v0.key with
    | true =>
      simp only [if_true, lt_asymm h, Bool.false_eq_true, if_false]
      rw [(WF.level (WF.put hl) hr rfl).2, put_list hl u1 v]
      rw [below_none (l := r.list) (fun x hx => lt_asymm (lt_trans h (u4 x hx))), above_all (l := r.list) (fun x hx => lt_trans h (u4 x hx))]
      simp
    | false =>
      simp only [Bool.false_eq_true, if_false]
      cases h2 : lt v0.key v.key with
      | true =>
        simp only [if_true]
        rw [(WF.level hl (WF.put hr) rfl).2, put_list hr u2 v]
        rw [below_all (l := l.list) (fun x hx => lt_trans (u3 x hx) h2), above_none (l := l.list) (fun x hx => lt_asymm (lt_trans (u3 x hx) h2))]
        simp
      | false =>
        simp only [Bool.false_eq_true, if_false]
        have e := lt_tri h h2
        rw [e]
        rw [below_all (l := l.list) u3, above_none (l := l.list) (fun x hx => lt_asymm (u3 x hx)), below_none (l := r.list) (fun x hx => lt_asymm (u4 x hx)), above_all (l := r.list) u4]
        simp [T.made, T.list]
def without (k : ByteArray) (l : List Row) : List Row := l.filter (fun x => !eq x.key k)
theorem without_all {k : ByteArray} {l : List Row} (h : ∀ x, x ∈ l → x.key ≠ k) : without k l = l := List.filter_eq_self.2 (fun x hx => by simp [eq_false.2 (h x hx)])
theorem without_app (k : ByteArray) (l r : List Row) (v : Row) : without k (l ++ v :: r) = without k l ++ (if eq v.key k then without k r else v :: without k r) := by
  simp only [without, List.filter_append, List.filter_cons]
  cases eq v.key k <;> simp
theorem least_list : ∀ {t : T}, t ≠ .nil → ∃ r, t.list = t.least.row :: r
  | .nil, h => absurd rfl h
  | .node _ v .nil r _ _, _ => ⟨r.list, by rw [T.least]; rfl⟩
  | .node _ v0 (.node k v l r h c) r2 _ _, _ => by
    obtain ⟨r', h'⟩ := least_list (t := .node k v l r h c) (by intro h; cases h)
    rw [T.least]
    exact ⟨r' ++ v0 :: r2.list, by show (T.node k v l r h c).list ++ _ = _; rw [h']; rfl⟩
theorem cut_list : ∀ {t : T}, t.WF → Up t.list → ∀ k, (t.cut k).list = without k t.list
  | .nil, _, _, _ => rfl
  | .node k0 v0 l r _ _, ⟨hl, hr, _, _, hk⟩, hu, k => by
    obtain ⟨u1, u2, u3, u4⟩ := up_node hu
    subst hk
    rw [T.cut]
    show _ = without k (l.list ++ v0 :: r.list)
    rw [without_app]
    split
    · rename_i h
      rw [(WF.level (WF.cut hl k) hr rfl).2, cut_list hl u1 k, eq_false.2 (fun e => lt_ne h e.symm)]
      rw [without_all (l := r.list) (fun x hx => fun e => lt_ne (lt_trans h (u4 x hx)) e.symm)]
      simp
    · rename_i h
      have h : lt k v0.key = false := by simpa using h
      split
      · rename_i h2
        rw [(WF.level hl (WF.cut hr k) rfl).2, cut_list hr u2 k, eq_false.2 (lt_ne h2)]
        rw [without_all (l := l.list) (fun x hx => lt_ne (lt_trans (u3 x hx) h2))]
        simp
      · rename_i h2
        have h2 : lt v0.key k = false := by simpa using h2
        have e := lt_tri h h2
        subst e
        rw [eq_iff.2 rfl, if_pos rfl, without_all (l := l.list) (fun x hx => lt_ne (u3 x hx)), without_all (l := r.list) (fun x hx e => lt_ne (u4 x hx) e.symm)]
        split
        · rename_i h
          rw [isNil_iff.1 h]
          rfl
        · split
          · rename_i h
            rw [isNil_iff.1 h]
            simp [T.list]
          · rename_i h
            have hn : r ≠ .nil := isNil_false.1 (by simpa using h)
            have hrk := WF.row (WF.least hr) (least_node hn)
            rw [(WF.level hl (WF.cut hr _) hrk).2, cut_list hr u2, hrk]
            obtain ⟨r', hr'⟩ := least_list hn
            have u5 : Up (r.least.row :: r') := by rw [← hr']; exact u2
            unfold Up at u5
            rw [List.pairwise_cons] at u5
            rw [hr']
            have := without_app r.least.row.key [] r' r.least.row
            simp only [List.nil_append] at this
            rw [this, eq_iff.2 rfl, if_pos rfl, without_all (l := r') (fun x hx e => lt_ne (u5.1 x hx) e.symm)]
            rfl
/-- Is a key's row there; what is it. -/
def find (l : List Row) (k : ByteArray) : Option Row := l.find? (fun x => eq x.key k)
theorem find_none {l : List Row} {k : ByteArray} (h : ∀ x, x ∈ l → x.key ≠ k) : find l k = none := List.find?_eq_none.2 (fun x hx => by simp [eq_false.2 (h x hx)])
theorem get_list : ∀ {t : T}, t.WF → Up t.list → ∀ k, (t.get k = .nil ∧ find t.list k = none) ∨ ∃ k0 v l r h c, t.get k = .node k0 v l r h c ∧ find t.list k = some v
  | .nil, _, _, _ => .inl ⟨rfl, rfl⟩
  | .node k0 v0 l r h c, ⟨hl, hr, _, _, hk⟩, hu, k => by
    obtain ⟨u1, u2, u3, u4⟩ := up_node hu
    subst hk
    rw [T.get]
    have hf : find (T.node v0.key v0 l r h c).list k = ((find l.list k).or ((if eq v0.key k then some v0 else none).or (find r.list k))) := by
      show find (l.list ++ v0 :: r.list) k = _
      simp only [find, List.find?_append, List.find?_cons]
      cases eq v0.key k <;> simp
    rw [hf]
    split
    · rename_i e
      have e2 := eq_iff.1 e
      subst e2
      rw [find_none (l := l.list) (fun x hx => lt_ne (u3 x hx))]
      exact .inr ⟨_, _, _, _, _, _, rfl, by simp⟩
    · rename_i e
      have e2 : v0.key ≠ k := eq_false.1 (by simpa using e)
      split
      · rename_i h1
        rw [find_none (l := r.list) (fun x hx e => lt_ne (lt_trans h1 (u4 x hx)) e.symm)]
        simpa using get_list hl u1 k
      · rename_i h1
        have h2 : lt v0.key k = true := by
          cases h3 : lt v0.key k with
          | true => rfl
          | false => exact absurd (lt_tri h3 (by simpa using h1)) e2
        rw [find_none (l := l.list) (fun x hx => lt_ne (lt_trans (u3 x hx) h2))]
        simpa using get_list hr u2 k
theorem up_put {l : List Row} (h : Up l) (v : Row) : Up (below v.key l ++ v :: above v.key l) := by
  unfold Up at *
  rw [List.pairwise_append, List.pairwise_cons]
  refine ⟨h.filter _, ⟨fun x hx => ?_, h.filter _⟩, fun x hx y hy => ?_⟩
  · simpa [above] using (List.mem_filter.1 hx).2
  · have h1 : lt x.key v.key = true := by simpa using (List.mem_filter.1 hx).2
    rcases List.mem_cons.1 hy with e | hy
    · rw [e]; exact h1
    · exact lt_trans h1 (by simpa using (List.mem_filter.1 hy).2)
theorem up_without {l : List Row} (h : Up l) (k : ByteArray) : Up (without k l) := h.filter _
theorem len_put {l : List Row} (h : Up l) (v : Row) : (below v.key l ++ v :: above v.key l).length = if (find l v.key).isSome then l.length else l.length + 1 := by
  induction l with
  | nil => rfl
  | cons y l ih =>
    have hu : Up l ∧ ∀ x, x ∈ l → lt y.key x.key = true := by
      unfold Up at h; rw [List.pairwise_cons] at h; exact ⟨h.2, h.1⟩
    have ih := ih hu.1
    have hf : find (y :: l) v.key = if eq y.key v.key then some y else find l v.key := by
      simp only [find, List.find?_cons]
      cases eq y.key v.key <;> rfl
    have hb : below v.key (y :: l) = if lt y.key v.key then y :: below v.key l else below v.key l := by simp only [below, List.filter_cons]
    have ha : above v.key (y :: l) = if lt v.key y.key then y :: above v.key l else above v.key l := by simp only [above, List.filter_cons]
    rw [hf, hb, ha]
    rw [List.length_append, List.length_cons] at ih ⊢
    cases hy : eq y.key v.key with
    | true =>
      have hy2 := eq_iff.1 hy
      rw [hy2, lt_irrefl]
      have n1 : below v.key l = [] := below_none (fun x hx => by have := hu.2 x hx; rw [hy2] at this; exact lt_asymm this)
      have n2 : above v.key l = l := above_all (fun x hx => by have := hu.2 x hx; rw [hy2] at this; exact this)
      rw [n1, n2]
      simp
    | false =>
      have hne := eq_false.1 hy
      simp only [Bool.false_eq_true, if_false]
      cases h1 : lt y.key v.key with
      | true =>
        simp only [lt_asymm h1, if_true, Bool.false_eq_true, if_false, List.length_cons]
        by_cases h3 : (find l v.key).isSome = true
        · rw [if_pos h3] at ih ⊢
          omega
        · rw [if_neg h3] at ih ⊢
          omega
      | false =>
        have h2 : lt v.key y.key = true := by
          cases h4 : lt v.key y.key with
          | true => rfl
          | false => exact absurd (lt_tri h1 h4) hne
        simp only [h2, if_true, Bool.false_eq_true, if_false, List.length_cons]
        by_cases h3 : (find l v.key).isSome = true
        · rw [if_pos h3] at ih ⊢
          omega
        · rw [if_neg h3] at ih ⊢
          omega
theorem len_without {l : List Row} (k : ByteArray) : (without k l).length ≤ l.length := List.length_filter_le ..
end Go.Proofs.Ytjpalkggmefpfaa.Tab
