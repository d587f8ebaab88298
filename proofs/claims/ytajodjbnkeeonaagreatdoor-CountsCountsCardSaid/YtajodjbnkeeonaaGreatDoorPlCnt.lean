/- Lists of counts in their order, and maps of counts; no program in sight. -/
import Derived.Test.YtajodjbnkeeonaaGreatDoorAbVal
set_option linter.unusedSimpArgs false
set_option linter.unusedVariables false
namespace Go.Cnt

abbrev Str := List UInt8
abbrev Key := Str × Str
abbrev Ent := Key × Int

theorem bl_irrefl : ∀ a : Str, Op.bytesLess a a = false
  | [] => rfl
  | x :: a => by rw [Op.bytesLess, bl_irrefl a]; simp

theorem u8_lt_trans {a b c : UInt8} (h : a < b) (k : b < c) : a < c := by
  rw [UInt8.lt_iff_toNat_lt] at *; omega
theorem u8_tri (a b : UInt8) : a < b ∨ a = b ∨ b < a := by
  rcases Nat.lt_trichotomy a.toNat b.toNat with h | h | h
  · exact .inl (UInt8.lt_iff_toNat_lt.2 h)
  · exact .inr (.inl (UInt8.toNat_inj.1 h))
  · exact .inr (.inr (UInt8.lt_iff_toNat_lt.2 h))

theorem bl_cons (x y : UInt8) (a b : Str) : Op.bytesLess (x :: a) (y :: b) = true ↔ x < y ∨ (x = y ∧ Op.bytesLess a b = true) := by
  rw [Op.bytesLess]; simp

theorem bl_trans : ∀ {a b c : Str}, Op.bytesLess a b = true → Op.bytesLess b c = true → Op.bytesLess a c = true
  | _, [], _, h, _ => by simp [Op.bytesLess] at h
  | _, _ :: _, [], _, k => by simp [Op.bytesLess] at k
  | [], _ :: _, _ :: _, _, _ => rfl
  | x :: a, y :: b, z :: c, h, k => by
    rw [bl_cons] at *
    rcases h with h | ⟨rfl, h⟩ <;> rcases k with k | ⟨rfl, k⟩
    · exact .inl (u8_lt_trans h k)
    · exact .inl h
    · exact .inl k
    · exact .inr ⟨rfl, bl_trans h k⟩

theorem bl_tri : ∀ a b : Str, Op.bytesLess a b = true ∨ a = b ∨ Op.bytesLess b a = true
  | [], [] => .inr (.inl rfl)
  | [], _ :: _ => .inl rfl
  | _ :: _, [] => .inr (.inr rfl)
  | x :: a, y :: b => by
    rw [bl_cons, bl_cons]
    rcases u8_tri x y with h | h | h
    · exact .inl (.inl h)
    · subst h
      rcases bl_tri a b with h | h | h
      · exact .inl (.inr ⟨rfl, h⟩)
      · exact .inr (.inl (by rw [h]))
      · exact .inr (.inr (.inr ⟨rfl, h⟩))
    · exact .inr (.inr (.inl h))

/-- The order of the keys. -/
def lt (x y : Key) : Bool := Op.bytesLess x.1 y.1 || (x.1 == y.1 && Op.bytesLess x.2 y.2)
theorem lt_iff (x y : Key) : lt x y = true ↔ Op.bytesLess x.1 y.1 = true ∨ (x.1 = y.1 ∧ Op.bytesLess x.2 y.2 = true) := by simp [lt]
theorem lt_irrefl (x : Key) : lt x x = false := by simp [lt, bl_irrefl]
theorem lt_trans {x y z : Key} (h : lt x y = true) (k : lt y z = true) : lt x z = true := by
  rw [lt_iff] at *
  rcases h with h | ⟨h1, h⟩ <;> rcases k with k | ⟨k1, k⟩
  · exact .inl (bl_trans h k)
  · exact .inl (by rw [← k1]; exact h)
  · exact .inl (by rw [h1]; exact k)
  · exact .inr ⟨h1.trans k1, bl_trans h k⟩
theorem lt_tri (x y : Key) : lt x y = true ∨ x = y ∨ lt y x = true := by
  rw [lt_iff, lt_iff]
  rcases bl_tri x.1 y.1 with h | h | h
  · exact .inl (.inl h)
  · rcases bl_tri x.2 y.2 with k | k | k
    · exact .inl (.inr ⟨h, k⟩)
    · exact .inr (.inl (Prod.ext h k))
    · exact .inr (.inr (.inr ⟨h.symm, k⟩))
  · exact .inr (.inr (.inl h))
theorem lt_asymm {x y : Key} (h : lt x y = true) : lt y x = false := by
  cases e : lt y x with
  | false => rfl
  | true => have := lt_trans h e; rw [lt_irrefl] at this; cases this

/-- What a comparison of strings gives; of keys. -/
def cmpS (a b : Str) : Int := if Op.bytesLess a b = true then -1 else if Op.bytesLess b a = true then 1 else 0
def cmpK (x y : Key) : Int := if cmpS x.1 y.1 ≠ 0 then cmpS x.1 y.1 else cmpS x.2 y.2
theorem cmpS_cases (a b : Str) : (Op.bytesLess a b = true ∧ cmpS a b = -1) ∨ (a = b ∧ cmpS a b = 0) ∨ (Op.bytesLess b a = true ∧ Op.bytesLess a b = false ∧ cmpS a b = 1) := by
  unfold cmpS
  rcases bl_tri a b with h | h | h
  · exact .inl ⟨h, by rw [if_pos h]⟩
  · subst h; exact .inr (.inl ⟨rfl, by simp [bl_irrefl]⟩)
  · have h' : Op.bytesLess a b = false := by
      cases e : Op.bytesLess a b with
      | false => rfl
      | true => have := bl_trans h e; rw [bl_irrefl] at this; cases this
    exact .inr (.inr ⟨h, h', by rw [h', h]; simp⟩)
theorem cmpK_cases (x y : Key) : (lt x y = true ∧ cmpK x y = -1) ∨ (x = y ∧ cmpK x y = 0) ∨ (lt y x = true ∧ lt x y = false ∧ cmpK x y = 1) := by
  unfold cmpK
  rcases cmpS_cases x.1 y.1 with ⟨h, e⟩ | ⟨h, e⟩ | ⟨h, h', e⟩
  · exact .inl ⟨(lt_iff ..).2 (.inl h), by rw [e]; simp⟩
  · rw [e]
    simp only [ne_eq, not_true_eq_false, if_false]
    rcases cmpS_cases x.2 y.2 with ⟨k, e'⟩ | ⟨k, e'⟩ | ⟨k, k', e'⟩
    · exact .inl ⟨(lt_iff ..).2 (.inr ⟨h, k⟩), e'⟩
    · exact .inr (.inl ⟨Prod.ext h k, e'⟩)
    · have hl : lt y x = true := (lt_iff ..).2 (.inr ⟨h.symm, k⟩)
      exact .inr (.inr ⟨hl, lt_asymm hl, e'⟩)
  · have hl : lt y x = true := (lt_iff ..).2 (.inl h)
    exact .inr (.inr ⟨hl, lt_asymm hl, by rw [e]; simp⟩)
theorem cmpK_neg (x y : Key) : cmpK x y < 0 ↔ lt x y = true := by
  rcases cmpK_cases x y with ⟨h, e⟩ | ⟨h, e⟩ | ⟨h, h', e⟩
  · rw [e, h]; simp
  · subst h; rw [e, lt_irrefl]; simp
  · rw [e, h']; simp
theorem cmpK_ge (x y : Key) : 0 ≤ cmpK x y ↔ lt x y = false := by
  have := cmpK_neg x y
  cases e : lt x y with
  | true => rw [e] at this; simp at this; simp; omega
  | false => rw [e] at this; simp at this; simp; omega
theorem cmpK_zero (x y : Key) : cmpK x y = 0 ↔ x = y := by
  rcases cmpK_cases x y with ⟨h, e⟩ | ⟨h, e⟩ | ⟨h, h', e⟩
  · rw [e]; simp; rintro rfl; rw [lt_irrefl] at h; cases h
  · exact ⟨fun _ => h, fun _ => e⟩
  · rw [e]; simp; rintro rfl; rw [lt_irrefl] at h; cases h

/-- Strictly increasing. -/
def Inc (l : List Ent) : Prop := l.Pairwise fun a b => lt a.1 b.1 = true
/-- The keys are different. -/
def Dif (l : List Ent) : Prop := l.Pairwise fun a b => a.1 ≠ b.1
theorem Inc.dif {l : List Ent} (h : Inc l) : Dif l := h.imp fun {a b} k e => by rw [e, lt_irrefl] at k; cases k

theorem Inc.perm_eq : ∀ {l r : List Ent}, Inc l → Inc r → l.Perm r → l = r
  | [], r, _, _, p => (List.Perm.nil_eq p)
  | a :: l, [], _, _, p => absurd p.length_eq (by simp)
  | a :: l, b :: r, h, k, p => by
    have ha : a ∈ b :: r := p.mem_iff.1 (List.mem_cons_self ..)
    have hb : b ∈ a :: l := p.mem_iff.2 (List.mem_cons_self ..)
    have e : a = b := by
      rcases List.mem_cons.1 ha with e | ha
      · exact e
      rcases List.mem_cons.1 hb with e | hb
      · exact e.symm
      have h1 := (List.pairwise_cons.1 h).1 b hb
      have h2 := (List.pairwise_cons.1 k).1 a ha
      rw [lt_asymm h1] at h2; cases h2
    subst e
    rw [Inc.perm_eq (List.pairwise_cons.1 h).2 (List.pairwise_cons.1 k).2 ((List.perm_cons a).1 p)]

/-- The N of a key. -/
def val : List Ent → Key → Int
  | [], _ => 0
  | e :: l, k => if e.1 = k then e.2 else val l k
theorem val_none {l : List Ent} {k : Key} (h : ∀ e ∈ l, e.1 ≠ k) : val l k = 0 := by
  induction l with
  | nil => rfl
  | cons e l ih => rw [val, if_neg (h e (List.mem_cons_self ..)), ih fun x hx => h x (List.mem_cons_of_mem _ hx)]
theorem val_mem {l : List Ent} (hd : Dif l) {e : Ent} (h : e ∈ l) : val l e.1 = e.2 := by
  induction l with
  | nil => cases h
  | cons x l ih =>
    have hx := List.pairwise_cons.1 hd
    rcases List.mem_cons.1 h with rfl | h
    · rw [val, if_pos rfl]
    · rw [val, if_neg (hx.1 e h), ih hx.2 h]
theorem Dif.perm {l r : List Ent} (h : Dif l) (p : l.Perm r) : Dif r := p.pairwise h fun {a b} k => fun e => k e.symm
theorem val_perm {l r : List Ent} (h : Dif l) (p : l.Perm r) (k : Key) : val l k = val r k := by
  by_cases hk : ∃ e ∈ l, e.1 = k
  · obtain ⟨e, he, rfl⟩ := hk
    rw [val_mem h he, val_mem (h.perm p) (p.mem_iff.1 he)]
  · have h1 : ∀ e ∈ l, e.1 ≠ k := fun e he hek => hk ⟨e, he, hek⟩
    rw [val_none h1, val_none fun e he => h1 e (p.mem_iff.2 he)]

/-- A count added: what it comes to, in whatever order. -/
def addE (l : List Ent) (x : Ent) : List Ent := (x.1, val l x.1 + x.2) :: l.filter fun e => decide (e.1 ≠ x.1)
theorem addE_perm {l r : List Ent} (h : Dif l) (p : l.Perm r) (x : Ent) : (addE l x).Perm (addE r x) := by
  unfold addE
  rw [val_perm h p]
  exact (p.filter _).cons _

/-- A count added to a list in its order. -/
def ins : List Ent → Ent → List Ent
  | [], x => [x]
  | e :: l, x => if lt e.1 x.1 = true then e :: ins l x else if e.1 = x.1 then (e.1, e.2 + x.2) :: l else x :: e :: l
/-- .. to a map. -/
def upd : List Ent → Ent → List Ent
  | [], x => [x]
  | e :: l, x => if e.1 = x.1 then (e.1, e.2 + x.2) :: l else e :: upd l x

theorem filter_self {l : List Ent} {k : Key} (h : ∀ e ∈ l, e.1 ≠ k) : l.filter (fun e => decide (e.1 ≠ k)) = l := List.filter_eq_self.2 fun e he => by simpa using h e he
theorem addE_cons {e x : Ent} {l : List Ent} (h : e.1 ≠ x.1) : (addE (e :: l) x).Perm (e :: addE l x) := by
  unfold addE
  rw [val, if_neg h, List.filter_cons_of_pos (by simpa using h)]
  exact .swap ..
theorem addE_head {e x : Ent} {l : List Ent} (hd : Dif (e :: l)) (h : e.1 = x.1) : addE (e :: l) x = (e.1, e.2 + x.2) :: l := by
  unfold addE
  rw [val, if_pos h, List.filter_cons_of_neg (by simpa using h), filter_self fun y hy => by rw [← h]; exact ((List.pairwise_cons.1 hd).1 y hy).symm, h]
theorem addE_none {x : Ent} {l : List Ent} (h : ∀ e ∈ l, e.1 ≠ x.1) : addE l x = x :: l := by
  unfold addE
  rw [val_none h, filter_self h, Int.zero_add]

theorem upd_perm : ∀ {l : List Ent} (x : Ent), Dif l → (upd l x).Perm (addE l x)
  | [], x, _ => by rw [upd, addE_none (by simp)]
  | e :: l, x, h => by
    rw [upd]
    split
    · rename_i hk; rw [addE_head h hk]
    · rename_i hk; exact ((upd_perm x (List.pairwise_cons.1 h).2).cons e).trans (addE_cons hk).symm
theorem ins_perm : ∀ {l : List Ent} (x : Ent), Inc l → (ins l x).Perm (addE l x)
  | [], x, _ => by rw [ins, addE_none (by simp)]
  | e :: l, x, h => by
    have h' := List.pairwise_cons.1 h
    rw [ins]
    split
    · rename_i hk
      have hne : e.1 ≠ x.1 := fun he => by rw [he, lt_irrefl] at hk; cases hk
      exact ((ins_perm x h'.2).cons e).trans (addE_cons hne).symm
    · rename_i hk
      split
      · rename_i he; rw [addE_head h.dif he]
      · rename_i he
        have hx : lt x.1 e.1 = true := by
          rcases lt_tri x.1 e.1 with k | k | k
          · exact k
          · exact absurd k.symm he
          · exact absurd k hk
        rw [addE_none]
        intro y hy
        rcases List.mem_cons.1 hy with rfl | hy
        · exact he
        · intro e'
          have := lt_trans hx (h'.1 y hy)
          rw [e', lt_irrefl] at this; cases this

theorem mem_ins {l : List Ent} {x y : Ent} : y ∈ ins l x → y.1 = x.1 ∨ y ∈ l := by
  induction l with
  | nil => intro h; simp [ins] at h; exact .inl (by rw [h])
  | cons e l ih =>
    rw [ins]
    split
    · intro h
      rcases List.mem_cons.1 h with rfl | h
      · exact .inr (List.mem_cons_self ..)
      · exact (ih h).imp id (List.mem_cons_of_mem _)
    · split
      · rename_i he
        intro h
        rcases List.mem_cons.1 h with rfl | h
        · exact .inl he
        · exact .inr (List.mem_cons_of_mem _ h)
      · intro h
        rcases List.mem_cons.1 h with rfl | h
        · exact .inl rfl
        · exact .inr h
theorem ins_inc : ∀ {l : List Ent} (x : Ent), Inc l → Inc (ins l x)
  | [], x, _ => by simp [ins, Inc]
  | e :: l, x, h => by
    have h' := List.pairwise_cons.1 h
    rw [ins]
    split
    · rename_i hk
      refine List.pairwise_cons.2 ⟨fun y hy => ?_, ins_inc x h'.2⟩
      rcases mem_ins hy with e1 | e1
      · rw [e1]; exact hk
      · exact h'.1 y e1
    · rename_i hk
      split
      · exact List.pairwise_cons.2 ⟨fun y hy => h'.1 y hy, h'.2⟩
      · rename_i he
        have hx : lt x.1 e.1 = true := by
          rcases lt_tri x.1 e.1 with k | k | k
          · exact k
          · exact absurd k.symm he
          · exact absurd k hk
        refine List.pairwise_cons.2 ⟨fun y hy => ?_, h⟩
        rcases List.mem_cons.1 hy with rfl | hy
        · exact hx
        · exact lt_trans hx (h'.1 y hy)

theorem addE_dif {l : List Ent} (h : Dif l) (x : Ent) : Dif (addE l x) :=
  List.pairwise_cons.2 ⟨fun y hy => fun e => by have := (List.mem_filter.1 hy).2; simp at this; exact this e.symm, h.filter _⟩
theorem upd_dif {l : List Ent} (h : Dif l) (x : Ent) : Dif (upd l x) := (addE_dif h x).perm (upd_perm x h).symm

/-- Counts one behind the other, into a list and into a map: the same counts. -/
theorem fold_perm : ∀ (xs : List Ent) {l m : List Ent}, Inc l → Dif m → l.Perm m → (xs.foldl ins l).Perm (xs.foldl upd m) ∧ Inc (xs.foldl ins l) ∧ Dif (xs.foldl upd m)
  | [], _, _, h, k, p => ⟨p, h, k⟩
  | x :: xs, _, _, h, k, p => fold_perm xs (ins_inc x h) (upd_dif k x) ((ins_perm x h).trans ((addE_perm h.dif p x).trans (upd_perm x k).symm))

theorem upd_new : ∀ {m : List Ent} {x : Ent}, (∀ e ∈ m, e.1 ≠ x.1) → upd m x = m ++ [x]
  | [], _, _ => rfl
  | e :: m, x, h => by
    rw [upd, if_neg (h e (List.mem_cons_self ..)), upd_new fun y hy => h y (List.mem_cons_of_mem _ hy)]; rfl
theorem fold_upd_new : ∀ (xs m : List Ent), Dif (m ++ xs) → xs.foldl upd m = m ++ xs
  | [], m, _ => by simp
  | x :: xs, m, h => by
    have h1 : upd m x = m ++ [x] := upd_new fun e he => (List.pairwise_append.1 h).2.2 e he x (List.mem_cons_self ..)
    rw [List.foldl_cons, h1, fold_upd_new xs (m ++ [x]) (by rw [List.append_assoc]; exact h), List.append_assoc]
    rfl

/-- Two lists of counts together: the map's list and the reference's. -/
theorem merge_perm {a b : List Ent} (ha : Inc a) : (b.foldl ins a).Perm ((a ++ b).foldl upd []) ∧ Inc (b.foldl ins a) ∧ Dif ((a ++ b).foldl upd []) := by
  rw [List.foldl_append, fold_upd_new a [] (by simpa using ha.dif)]
  exact fold_perm b ha ha.dif (.refl _)

/-! ### What a map does -/

def has : List Ent → Key → Bool
  | [], _ => false
  | e :: l, k => if e.1 = k then true else has l k
/-- The place of a key; behind the last one where there is none. -/
def pos : List Ent → Key → Nat
  | [], _ => 0
  | e :: l, k => if e.1 = k then 0 else pos l k + 1
/-- With an entry for the key. -/
def ent : List Ent → Key → List Ent
  | [], k => [(k, 0)]
  | e :: l, k => if e.1 = k then e :: l else e :: ent l k
/-- With that number there. -/
def sto : List Ent → Key → Int → List Ent
  | [], k, n => [(k, n)]
  | e :: l, k, n => if e.1 = k then (e.1, n) :: l else e :: sto l k n
theorem sto_upd : ∀ (l : List Ent) (k : Key) (d : Int), sto l k (val l k + d) = upd l (k, d)
  | [], k, d => by simp [sto, val, upd]
  | e :: l, k, d => by
    rw [sto, val, upd]
    by_cases h : e.1 = k
    · rw [if_pos h, if_pos h, if_pos h]
    · rw [if_neg h, if_neg h, if_neg h, sto_upd l k d]
theorem ent_has : ∀ {l : List Ent} {k : Key}, has l k = true → ent l k = l
  | [], _, h => by cases h
  | e :: l, k, h => by
    rw [has] at h
    rw [ent]
    by_cases hk : e.1 = k
    · rw [if_pos hk]
    · rw [if_neg hk] at h; rw [if_neg hk, ent_has h]
theorem ent_not : ∀ {l : List Ent} {k : Key}, has l k = false → ent l k = l ++ [(k, 0)] ∧ val l k = 0 ∧ pos l k = l.length
  | [], _, _ => ⟨rfl, rfl, rfl⟩
  | e :: l, k, h => by
    rw [has] at h
    rw [ent, val, pos]
    by_cases hk : e.1 = k
    · rw [if_pos hk] at h; cases h
    · rw [if_neg hk] at h
      rw [if_neg hk, if_neg hk, if_neg hk]
      obtain ⟨h1, h2, h3⟩ := ent_not h
      exact ⟨by rw [h1]; rfl, h2, by rw [h3]; rfl⟩
theorem sto_len : ∀ (l : List Ent) (k : Key) (n : Int), (sto l k n).length = (ent l k).length
  | [], _, _ => rfl
  | e :: l, k, n => by
    rw [sto, ent]
    by_cases hk : e.1 = k
    · rw [if_pos hk, if_pos hk]; rfl
    · rw [if_neg hk, if_neg hk, List.length_cons, List.length_cons, sto_len]
theorem val_ent : ∀ (l : List Ent) (k j : Key), val (ent l k) j = val l j
  | [], k, j => by simp [ent, val]
  | e :: l, k, j => by
    rw [ent]
    by_cases hk : e.1 = k
    · rw [if_pos hk]
    · rw [if_neg hk, val, val, val_ent]
theorem val_upd : ∀ (l : List Ent) (x : Ent), val (upd l x) x.1 = val l x.1 + x.2
  | [], x => by simp [upd, val]
  | e :: l, x => by
    rw [upd, val]
    by_cases hk : e.1 = x.1
    · rw [if_pos hk, if_pos hk, val, if_pos hk]
    · rw [if_neg hk, if_neg hk, val, if_neg hk, val_upd]

end Go.Cnt
