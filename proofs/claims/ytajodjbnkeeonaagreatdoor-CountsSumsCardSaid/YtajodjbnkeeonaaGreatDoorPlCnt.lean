/- Lists of counts in their order, and maps of counts; no program in sight. -/
import Derived.Test.YtajodjbnkeeonaaGreatDoorAbVal
import Derived.Test.YtajodjbnkeeonaaGreatDoorAbSimp2
set_option linter.unusedSimpArgs false
set_option linter.unusedVariables false
namespace Go.Cnt
abbrev Str := List UInt8
abbrev Key := Str × Str
abbrev Ent := Key × Int
theorem bl_irrefl : ∀ a : Str, Op.bytesLess a a = false
  | [] => rfl
  | x :: a => by rw [Op.bytesLess, bl_irrefl a]; simp
theorem u8_lt_trans {a b c : UInt8} (h : a < b) (k : b < c) : a < c := by
  rw [UInt8.lt_iff_toNat_lt] at *; omega
theorem u8_tri (a b : UInt8) : a < b ∨ a = b ∨ b < a := by
  rcases Nat.lt_trichotomy a.toNat b.toNat with h | h | h
  · exact .inl (UInt8.lt_iff_toNat_lt.2 h)
  · exact .inr (.inl (UInt8.toNat_inj.1 h))
  · exact .inr (.inr (UInt8.lt_iff_toNat_lt.2 h))
theorem bl_cons (x y : UInt8) (a b : Str) : Op.bytesLess (x :: a) (y :: b) = true ↔ x < y ∨ (x = y ∧ Op.bytesLess a b = true) := by
  rw [Op.bytesLess]; simp
theorem bl_trans : ∀ {a b c : Str}, Op.bytesLess a b = true → Op.bytesLess b c = true → Op.bytesLess a c = true
  | _, [], _, h, _ => by simp [Op.bytesLess] at h
  | _, _ :: _, [], _, k => by simp [Op.bytesLess] at k
  | [], _ :: _, _ :: _, _, _ => rfl
  | x :: a, y :: b, z :: c, h, k => by
    rw [bl_cons] at *
    rcases h with h | ⟨rfl, h⟩ <;> rcases k with k | ⟨rfl, k⟩
    · exact .inl (u8_lt_trans h k)
    · exact .inl h
    · exact .inl k
    · exact .inr ⟨rfl, bl_trans h k⟩
theorem bl_tri : ∀ a b : Str, Op.bytesLess a b = true ∨ a = b ∨ Op.bytesLess b a = true
  | [], [] => .inr (.inl rfl)
  | [], _ :: _ => .inl rfl
  | _ :: _, [] => .inr (.inr rfl)
  | x :: a, y :: b => by
    rw [bl_cons, bl_cons]
    rcases u8_tri x y with h | h | h
    · exact .inl (.inl h)
    · subst h
      rcases bl_tri a b with h | h | h
      · exact .inl (.inr ⟨rfl, h⟩)
      · exact .inr (.inl (by rw [h]))
      · exact .inr (.inr (.inr ⟨rfl, h⟩))
    · exact .inr (.inr (.inl h))
def lt (x y : Key) : Bool := Op.bytesLess x.1 y.1 || (x.1 == y.1 && Op.bytesLess x.2 y.2)
theorem lt_iff (x y : Key) : lt x y = true ↔ Op.bytesLess x.1 y.1 = true ∨ (x.1 = y.1 ∧ Op.bytesLess x.2 y.2 = true) := by simp [lt]
theorem lt_irrefl (x : Key) : lt x x = false := by simp [lt, bl_irrefl]
theorem lt_trans {x y z : Key} (h : lt x y = true) (k : lt y z = true) : lt x z = true := by
  rw [lt_iff] at *
  rcases h with h | ⟨h1, h⟩ <;> rcases k with k | ⟨k1, k⟩
  · exact .inl (bl_trans h k)
  · exact .inl (by rw [← k1]; exact h)
  · exact .inl (by rw [h1]; exact k)
  · exact .inr ⟨h1.trans k1, bl_trans h k⟩
theorem lt_tri (x y : Key) : lt x y = true ∨ x = y ∨ lt y x = true := by
  rw [lt_iff, lt_iff]
  rcases bl_tri x.1 y.1 with h | h | h
  · exact .inl (.inl h)
  · rcases bl_tri x.2 y.2 with k | k | k
    · exact .inl (.inr ⟨h, k⟩)
    · exact .inr (.inl (Prod.ext h k))
    · exact .inr (.inr (.inr ⟨h.symm, k⟩))
  · exact .inr (.inr (.inl h))
theorem lt_asymm {x y : Key} (h : lt x y = true) : lt y x = false := by
  cases e : lt y x with
  | false => rfl
  | true => have := lt_trans h e; rw [lt_irrefl] at this; cases this
def cmpS (a b : Str) : Int := if Op.bytesLess a b = true then -1 else if Op.bytesLess b a = true then 1 else 0
def cmpK (x y : Key) : Int := if cmpS x.1 y.1 ≠ 0 then cmpS x.1 y.1 else cmpS x.2 y.2
theorem cmpS_cases (a b : Str) : (Op.bytesLess a b = true ∧ cmpS a b = -1) ∨ (a = b ∧ cmpS a b = 0) ∨ (Op.bytesLess b a = true ∧ Op.bytesLess a b = false ∧ cmpS a b = 1) := by
  unfold cmpS
  rcases bl_tri a b with h | h | h
  · exact .inl ⟨h, by rw [if_pos h]⟩
  · subst h; exact .inr (.inl ⟨rfl, by simp [bl_irrefl]⟩)
  · have h' : Op.bytesLess a b = false := by
      cases e : Op.bytesLess a b with
      | false => rfl
      | true => have := bl_trans h e; rw [bl_irrefl] at this; cases this
    exact .inr (.inr ⟨h, h', by rw [h', h]; simp⟩)
theorem cmpK_cases (x y : Key) : (lt x y = true ∧ cmpK x y = -1) ∨ (x = y ∧ cmpK x y = 0) ∨ (lt y x = true ∧ lt x y = false ∧ cmpK x y = 1) := by
  unfold cmpK
  rcases cmpS_cases x.1 y.1 with ⟨h, e⟩ | ⟨h, e⟩ | ⟨h, h', e⟩
  · exact .inl ⟨(lt_iff ..).2 (.inl h), by rw [e]; simp⟩
  · rw [e]
    simp only [ne_eq, not_true_eq_false, if_false]
    rcases cmpS_cases x.2 y.2 with ⟨k, e'⟩ | ⟨k, e'⟩ | ⟨k, k', e'⟩
    · exact .inl ⟨(lt_iff ..).2 (.inr ⟨h, k⟩), e'⟩
    · exact .inr (.inl ⟨Prod.ext h k, e'⟩)
    · have hl : lt y x = true := (lt_iff ..).2 (.inr ⟨h.symm, k⟩)
      exact .inr (.inr ⟨hl, lt_asymm hl, e'⟩)
  · have hl : lt y x = true := (lt_iff ..).2 (.inl h)
    exact .inr (.inr ⟨hl, lt_asymm hl, by rw [e]; simp⟩)
theorem cmpK_neg (x y : Key) : cmpK x y < 0 ↔ lt x y = true := by
  rcases cmpK_cases x y with ⟨h, e⟩ | ⟨h, e⟩ | ⟨h, h', e⟩
  · rw [e, h]; simp
  · subst h; rw [e, lt_irrefl]; simp
  · rw [e, h']; simp
theorem cmpK_ge (x y : Key) : 0 ≤ cmpK x y ↔ lt x y = false := by
  have := cmpK_neg x y
  cases e : lt x y with
  | true => rw [e] at this; simp at this; simp; omega
  | false => rw [e] at this; simp at this; simp; omega
theorem cmpK_zero (x y : Key) : cmpK x y = 0 ↔ x = y := by
  rcases cmpK_cases x y with ⟨h, e⟩ | ⟨h, e⟩ | ⟨h, h', e⟩
  · rw [e]; simp; rintro rfl; rw [lt_irrefl] at h; cases h
  · exact ⟨fun _ => h, fun _ => e⟩
  · rw [e]; simp; rintro rfl; rw [lt_irrefl] at h; cases h
def Inc (l : List Ent) : Prop := l.Pairwise fun a b => lt a.1 b.1 = true
def Dif (l : List Ent) : Prop := l.Pairwise fun a b => a.1 ≠ b.1
theorem Inc.dif {l : List Ent} (h : Inc l) : Dif l := h.imp fun {a b} k e => by rw [e, lt_irrefl] at k; cases k
theorem Inc.perm_eq : ∀ {l r : List Ent}, Inc l → Inc r → l.Perm r → l = r
  | [], r, _, _, p => (List.Perm.nil_eq p)
  | a :: l, [], _, _, p => absurd p.length_eq (by simp)
  | a :: l, b :: r, h, k, p => by
    have ha : a ∈ b :: r := p.mem_iff.1 (List.mem_cons_self ..)
    have hb : b ∈ a :: l := p.mem_iff.2 (List.mem_cons_self ..)
    have e : a = b := by
      rcases List.mem_cons.1 ha with e | ha
      · exact e
      rcases List.mem_cons.1 hb with e | hb
      · exact e.symm
      have h1 := (List.pairwise_cons.1 h).1 b hb
      have h2 := (List.pairwise_cons.1 k).1 a ha
      rw [lt_asymm h1] at h2; cases h2
    subst e
    rw [Inc.perm_eq (List.pairwise_cons.1 h).2 (List.pairwise_cons.1 k).2 ((List.perm_cons a).1 p)]
def val : List Ent → Key → Int
  | [], _ => 0
  | e :: l, k => if e.1 = k then e.2 else val l k
theorem val_none {l : List Ent} {k : Key} (h : ∀ e ∈ l, e.1 ≠ k) : val l k = 0 := by
  induction l with
  | nil => rfl
  | cons e l ih => rw [val, if_neg (h e (List.mem_cons_self ..)), ih fun x hx => h x (List.mem_cons_of_mem _ hx)]
theorem val_mem {l : List Ent} (hd : Dif l) {e : Ent} (h : e ∈ l) : val l e.1 = e.2 := by
  induction l with
  | nil => cases h
  | cons x l ih =>
    have hx := List.pairwise_cons.1 hd
    rcases List.mem_cons.1 h with rfl | h
    · rw [val, if_pos rfl]
    · rw [val, if_neg (hx.1 e h), ih hx.2 h]
theorem Dif.perm {l r : List Ent} (h : Dif l) (p : l.Perm r) : Dif r := p.pairwise h fun {a b} k => fun e => k e.symm
theorem val_perm {l r : List Ent} (h : Dif l) (p : l.Perm r) (k : Key) : val l k = val r k := by
  by_cases hk : ∃ e ∈ l, e.1 = k
  · obtain ⟨e, he, rfl⟩ := hk
    rw [val_mem h he, val_mem (h.perm p) (p.mem_iff.1 he)]
  · have h1 : ∀ e ∈ l, e.1 ≠ k := fun e he hek => hk ⟨e, he, hek⟩
    rw [val_none h1, val_none fun e he => h1 e (p.mem_iff.2 he)]
def addE (l : List Ent) (x : Ent) : List Ent := (x.1, val l x.1 + x.2) :: l.filter fun e => decide (e.1 ≠ x.1)
theorem addE_perm {l r : List Ent} (h : Dif l) (p : l.Perm r) (x : Ent) : (addE l x).Perm (addE r x) := by
  unfold addE
  rw [val_perm h p]
  exact (p.filter _).cons _
def ins : List Ent → Ent → List Ent
  | [], x => [x]
  | e :: l, x => if lt e.1 x.1 = true then e :: ins l x else if e.1 = x.1 then (e.1, e.2 + x.2) :: l else x :: e :: l
def upd : List Ent → Ent → List Ent
  | [], x => [x]
  | e :: l, x => if e.1 = x.1 then (e.1, e.2 + x.2) :: l else e :: upd l x
theorem filter_self {l : List Ent} {k : Key} (h : ∀ e ∈ l, e.1 ≠ k) : l.filter (fun e => decide (e.1 ≠ k)) = l := List.filter_eq_self.2 fun e he => by simpa using h e he
theorem addE_cons {e x : Ent} {l : List Ent} (h : e.1 ≠ x.1) : (addE (e :: l) x).Perm (e :: addE l x) := by
  unfold addE
  rw [val, if_neg h, List.filter_cons_of_pos (by simpa using h)]
  exact .swap ..
theorem addE_head {e x : Ent} {l : List Ent} (hd : Dif (e :: l)) (h : e.1 = x.1) : addE (e :: l) x = (e.1, e.2 + x.2) :: l := by
  unfold addE
  rw [val, if_pos h, List.filter_cons_of_neg (by simpa using h), filter_self fun y hy => by rw [← h]; exact ((List.pairwise_cons.1 hd).1 y hy).symm, h]
theorem addE_none {x : Ent} {l : List Ent} (h : ∀ e ∈ l, e.1 ≠ x.1) : addE l x = x :: l := by
  unfold addE
  rw [val_none h, filter_self h, Int.zero_add]
theorem upd_perm : ∀ {l : List Ent} (x : Ent), Dif l → (upd l x).Perm (addE l x)
  | [], x, _ => by rw [upd, addE_none (by simp)]
  | e :: l, x, h => by
    rw [upd]
    split
    · rename_i hk; rw [addE_head h hk]
    · rename_i hk; exact ((upd_perm x (List.pairwise_cons.1 h).2).cons e).trans (addE_cons hk).symm
theorem ins_perm : ∀ {l : List Ent} (x : Ent), Inc l → (ins l x).Perm (addE l x)
  | [], x, _ => by rw [ins, addE_none (by simp)]
  | e :: l, x, h => by
    have h' := List.pairwise_cons.1 h
    rw [ins]
    split
    · rename_i hk
      have hne : e.1 ≠ x.1 := fun he => by rw [he, lt_irrefl] at hk; cases hk
      exact ((ins_perm x h'.2).cons e).trans (addE_cons hne).symm
    · rename_i hk
      split
      · rename_i he; rw [addE_head h.dif he]
      · rename_i he
        have hx : lt x.1 e.1 = true := by
          rcases lt_tri x.1 e.1 with k | k | k
          · exact k
          · exact absurd k.symm he
          · exact absurd k hk
        rw [addE_none]
        intro y hy
        rcases List.mem_cons.1 hy with rfl | hy
        · exact he
        · intro e'
          have := lt_trans hx (h'.1 y hy)
          rw [e', lt_irrefl] at this; cases this
theorem mem_ins {l : List Ent} {x y : Ent} : y ∈ ins l x → y.1 = x.1 ∨ y ∈ l := by
  induction l with
  | nil => intro h; simp [ins] at h; exact .inl (by rw [h])
  | cons e l ih =>
    rw [ins]
    split
    · intro h
      rcases List.mem_cons.1 h with rfl | h
      · exact .inr (List.mem_cons_self ..)
      · exact (ih h).imp id (List.mem_cons_of_mem _)
    · split
      · rename_i he
        intro h
        rcases List.mem_cons.1 h with rfl | h
        · exact .inl he
        · exact .inr (List.mem_cons_of_mem _ h)
      · intro h
        rcases List.mem_cons.1 h with rfl | h
        · exact .inl rfl
        · exact .inr h
theorem ins_inc : ∀ {l : List Ent} (x : Ent), Inc l → Inc (ins l x)
  | [], x, _ => by simp [ins, Inc]
  | e :: l, x, h => by
    have h' := List.pairwise_cons.1 h
    rw [ins]
    split
    · rename_i hk
      refine List.pairwise_cons.2 ⟨fun y hy => ?_, ins_inc x h'.2⟩
      rcases mem_ins hy with e1 | e1
      · rw [e1]; exact hk
      · exact h'.1 y e1
    · rename_i hk
      split
      · exact List.pairwise_cons.2 ⟨fun y hy => h'.1 y hy, h'.2⟩
      · rename_i he
        have hx : lt x.1 e.1 = true := by
          rcases lt_tri x.1 e.1 with k | k | k
          · exact k
          · exact absurd k.symm he
          · exact absurd k hk
        refine List.pairwise_cons.2 ⟨fun y hy => ?_, h⟩
        rcases List.mem_cons.1 hy with rfl | hy
        · exact hx
        · exact lt_trans hx (h'.1 y hy)
theorem addE_dif {l : List Ent} (h : Dif l) (x : Ent) : Dif (addE l x) :=
  List.pairwise_cons.2 ⟨fun y hy => fun e => by have := (List.mem_filter.1 hy).2; simp at this; exact this e.symm, h.filter _⟩
theorem upd_dif {l : List Ent} (h : Dif l) (x : Ent) : Dif (upd l x) := (addE_dif h x).perm (upd_perm x h).symm
theorem fold_perm : ∀ (xs : List Ent) {l m : List Ent}, Inc l → Dif m → l.Perm m → (xs.foldl ins l).Perm (xs.foldl upd m) ∧ Inc (xs.foldl ins l) ∧ Dif (xs.foldl upd m)
  | [], _, _, h, k, p => ⟨p, h, k⟩
  | x :: xs, _, _, h, k, p => fold_perm xs (ins_inc x h) (upd_dif k x) ((ins_perm x h).trans ((addE_perm h.dif p x).trans (upd_perm x k).symm))
theorem upd_new : ∀ {m : List Ent} {x : Ent}, (∀ e ∈ m, e.1 ≠ x.1) → upd m x = m ++ [x]
  | [], _, _ => rfl
  | e :: m, x, h => by
    rw [upd, if_neg (h e (List.mem_cons_self ..)), upd_new fun y hy => h y (List.mem_cons_of_mem _ hy)]; rfl
theorem fold_upd_new : ∀ (xs m : List Ent), Dif (m ++ xs) → xs.foldl upd m = m ++ xs
  | [], m, _ => by simp
  | x :: xs, m, h => by
    have h1 : upd m x = m ++ [x] := upd_new fun e he => (List.pairwise_append.1 h).2.2 e he x (List.mem_cons_self ..)
    rw [List.foldl_cons, h1, fold_upd_new xs (m ++ [x]) (by rw [List.append_assoc]; exact h), List.append_assoc]
    rfl
theorem merge_perm {a b : List Ent} (ha : Inc a) : (b.foldl ins a).Perm ((a ++ b).foldl upd []) ∧ Inc (b.foldl ins a) ∧ Dif ((a ++ b).foldl upd []) := by
  rw [List.foldl_append, fold_upd_new a [] (by simpa using ha.dif)]
  exact fold_perm b ha ha.dif (.refl _)
def has : List Ent → Key → Bool
  | [], _ => false
  | e :: l, k => if e.1 = k then true else has l k
def pos : List Ent → Key → Nat
  | [], _ => 0
  | e :: l, k => if e.1 = k then 0 else pos l k + 1
def ent : List Ent → Key → List Ent
  | [], k => [(k, 0)]
  | e :: l, k => if e.1 = k then e :: l else e :: ent l k
def sto : List Ent → Key → Int → List Ent
  | [], k, n => [(k, n)]
  | e :: l, k, n => if e.1 = k then (e.1, n) :: l else e :: sto l k n
theorem sto_upd : ∀ (l : List Ent) (k : Key) (d : Int), sto l k (val l k + d) = upd l (k, d)
  | [], k, d => by simp [sto, val, upd]
  | e :: l, k, d => by
    rw [sto, val, upd]
    by_cases h : e.1 = k
    · rw [if_pos h, if_pos h, if_pos h]
    · rw [if_neg h, if_neg h, if_neg h, sto_upd l k d]
theorem ent_has : ∀ {l : List Ent} {k : Key}, has l k = true → ent l k = l
  | [], _, h => by cases h
  | e :: l, k, h => by
    rw [has] at h
    rw [ent]
    by_cases hk : e.1 = k
    · rw [if_pos hk]
    · rw [if_neg hk] at h; rw [if_neg hk, ent_has h]
theorem ent_not : ∀ {l : List Ent} {k : Key}, has l k = false → ent l k = l ++ [(k, 0)] ∧ val l k = 0 ∧ pos l k = l.length
  | [], _, _ => ⟨rfl, rfl, rfl⟩
  | e :: l, k, h => by
    rw [has] at h
    rw [ent, val, pos]
    by_cases hk : e.1 = k
    · rw [if_pos hk] at h; cases h
    · rw [if_neg hk] at h
      rw [if_neg hk, if_neg hk, if_neg hk]
      obtain ⟨h1, h2, h3⟩ := ent_not h
      exact ⟨by rw [h1]; rfl, h2, by rw [h3]; rfl⟩
theorem sto_len : ∀ (l : List Ent) (k : Key) (n : Int), (sto l k n).length = (ent l k).length
  | [], _, _ => rfl
  | e :: l, k, n => by
    rw [sto, ent]
    by_cases hk : e.1 = k
    · rw [if_pos hk, if_pos hk]; rfl
    · rw [if_neg hk, if_neg hk, List.length_cons, List.length_cons, sto_len]
theorem val_ent : ∀ (l : List Ent) (k j : Key), val (ent l k) j = val l j
  | [], k, j => by simp [ent, val]
  | e :: l, k, j => by
    rw [ent]
    by_cases hk : e.1 = k
    · rw [if_pos hk]
    · rw [if_neg hk, val, val, val_ent]
theorem val_upd : ∀ (l : List Ent) (x : Ent), val (upd l x) x.1 = val l x.1 + x.2
  | [], x => by simp [upd, val]
  | e :: l, x => by
    rw [upd, val]
    by_cases hk : e.1 = x.1
    · rw [if_pos hk, if_pos hk, val, if_pos hk]
    · rw [if_neg hk, if_neg hk, val, if_neg hk, val_upd]
end Go.Cnt

/- Rules for maps whose keys are pairs of strings and whose values are integers; for their iterators; for slices built of more than one element; for loops of few rounds. -/
namespace Go.Ab
open Go.Cnt
variable {P : Program} {C : Cfg} {env : Env} {H : Hp}
def mpF : Nat → List Ent → List (Nat × V × V)
  | _, [] => []
  | i, e :: l => (i, .agg [.str e.1.1, .str e.1.2], .int .i64 e.2) :: mpF (i + 1) l
theorem len_mpF : ∀ (i : Nat) (l : List Ent), (mpF i l).length = l.length
  | _, [] => rfl
  | i, e :: l => by rw [mpF, List.length_cons, len_mpF]; rfl
theorem mpF_append : ∀ (i : Nat) (l r : List Ent), mpF i (l ++ r) = mpF i l ++ mpF (i + l.length) r
  | _, [], _ => rfl
  | i, e :: l, r => by
    rw [List.cons_append, mpF, mpF_append, mpF, List.length_cons, show i + (l.length + 1) = i + 1 + l.length by omega]; rfl
theorem keyEq_ss (a b c d : Str) : keyEq (.agg [.str a, .str b]) (.agg [.str c, .str d]) = some (decide ((c, d) = (a, b))) := by
  show keyEqs [.str a, .str b] [.str c, .str d] = _
  simp only [keyEqs, keyEq1]
  by_cases h : a = c
  · subst h
    by_cases k : b = d
    · subst k; simp
    · have k' : ¬ d = b := fun e => k e.symm
      have e : (b == d) = false := by simp [k]
      rw [e]; simp [k']
  · have h' : ¬ c = a := fun e => h e.symm
    have e : (a == c) = false := by simp [h]
    rw [e]; simp [h']
theorem findV_mp (a b : Str) : ∀ (i : Nat) (l : List Ent) (j : Nat), findV (.agg [.str a, .str b]) (mpF i l) j = some (match has l (a, b) with | true => some (j + pos l (a, b), .int .i64 (val l (a, b))) | false => none)
  | i, [], j => rfl
  | i, e :: l, j => by
    rw [mpF, findV, keyEq_ss, has, pos, val]
    by_cases h : e.1 = (a, b)
    · rw [if_pos h, if_pos h, if_pos h, decide_eq_true (show (e.1.1, e.1.2) = (a, b) from h)]; rfl
    · rw [if_neg h, if_neg h, if_neg h, decide_eq_false (show ¬ (e.1.1, e.1.2) = (a, b) from h)]
      show findV _ _ _ = _
      rw [findV_mp a b (i + 1) l (j + 1), show j + 1 + pos l (a, b) = j + (pos l (a, b) + 1) by omega]
def mapSS (P : Program) (t : TypeId) : Bool :=
  match mapT P t with
  | some (kt, et) => keyT P kt (.agg [.str [], .str []]) && (match zeroT P et with | some (.int .i64 0) => true | _ => false)
  | none => false
theorem keyFs_ss (a b c d : Str) (fs : List Field) : keyFs P fs [.str a, .str b] = keyFs P fs [.str c, .str d] := by
  have h1 : ∀ (t : TypeId) (a c : Str), keyT1 P t (.str a) = keyT1 P t (.str c) := by
    intro t a c
    unfold keyT1
    split <;> simp_all
  match fs with
  | [] => rfl
  | [f] => simp [keyFs]
  | [f, f'] => simp only [keyFs]; rw [h1 f.type a c, h1 f'.type b d]
  | f :: f' :: f'' :: r => simp [keyFs]
theorem mapSS_ok {t : TypeId} (h : mapSS P t = true) (a b : Str) : ∃ kt et, mapT P t = some (kt, et) ∧ keyT P kt (.agg [.str a, .str b]) = true ∧ zeroT P et = some (.int .i64 0) := by
  unfold mapSS at h
  split at h
  · rename_i kt et hm
    simp only [Bool.and_eq_true] at h
    refine ⟨kt, et, hm, ?_, ?_⟩
    · have := h.1
      unfold keyT at this ⊢
      simp only at this ⊢
      split at this
      · rename_i fs hf; rw [← this]; exact keyFs_ss ..
      · cases this
    · have := h.2
      split at this
      · assumption
      · cases this
  · cases h
theorem xr_ar_some (v : V) (h : Hp) (R W : List Nat) : XR.ar H (some ⟨v, h, R, W⟩) = ⟨True, v, h, R, W⟩ := rfl
def xLookup0 := @xLookup
def luK (fl : Bool) (o : Option Blk) (b : Nat) (x y : Str) (H : Hp) (orig : Option XR) : Option XR :=
  match fl, o with
  | true, some (.mp es _) => (match findV (.agg [.str x, .str y]) es 0 with | some (some p) => some ⟨p.2, H, [b], []⟩ | some none => some ⟨.int .i64 0, H, [b], []⟩ | none => orig)
  | _, _ => orig
theorem rl_lookup (t : TypeId) (b : Nat) (x y : Str) (bs : List (Nat × Blk)) (n : Nat) : xLookup P t (.map b) (.agg [.str x, .str y]) false ⟨bs, n⟩ = luK (mapSS P t) (lookB bs b) b x y ⟨bs, n⟩ (xLookup0 P t (.map b) (.agg [.str x, .str y]) false ⟨bs, n⟩) := by
  unfold luK
  split
  · rename_i es c hf ho
    obtain ⟨kt, et, h1, h2, h3⟩ := mapSS_ok hf x y
    have hg : (⟨bs, n⟩ : Hp).get b = some (.mp es c) := (lookB_eq bs b).trans ho
    split
    · rename_i p hp; unfold xLookup; simp only [h1, h2, h3, hg, hp]; rfl
    · rename_i hp; unfold xLookup; simp only [h1, h2, h3, hg, hp]; rfl
    · rfl
  · rfl
theorem luK_mp (l : List Ent) (c b : Nat) (x y : Str) (orig : Option XR) : luK true (some (.mp (mpF 0 l) c)) b x y H orig = some ⟨.int .i64 (val l (x, y)), H, [b], []⟩ := by
  unfold luK
  simp only [findV_mp]
  cases h : has l (x, y) with
  | true => simp
  | false => simp [(ent_not h).2.1]
theorem updE_self (k x : V) : ∀ (l : List (Nat × V × V)) (i : Nat), (∀ e, l[i]? = some e → e.2 = (k, x)) → updE i k x l = l
  | [], _, _ => by unfold updE; rfl
  | e :: r, 0, h => by
    have := h e (by simp)
    unfold updE
    rw [← this]
  | e :: r, i + 1, h => by unfold updE; rw [updE_self k x r i fun e' h' => h e' (by simpa using h')]
theorem mpF_at : ∀ (i : Nat) (l : List Ent) (k : Key), has l k = true → ∃ e, (mpF i l)[pos l k]? = some e ∧ e.1 = i + pos l k ∧ e.2 = (.agg [.str k.1, .str k.2], .int .i64 (val l k))
  | i, [], k, h => by cases h
  | i, e :: l, k, h => by
    rw [has] at h
    rw [mpF, pos, val]
    by_cases hk : e.1 = k
    · rw [if_pos hk, if_pos hk]; subst hk; exact ⟨_, rfl, rfl, rfl⟩
    · rw [if_neg hk] at h
      rw [if_neg hk, if_neg hk]
      obtain ⟨e', h1, h2, h3⟩ := mpF_at (i + 1) l k h
      exact ⟨e', by simpa using h1, by omega, h3⟩
def xMapEntry0 := @xMapEntry
def meK (fl : Bool) (o : Option Blk) (b : Nat) (x y : Str) (H : Hp) (orig : Option XR) : Option XR :=
  match fl, o with
  | true, some (.mp es clock) => (match findV (.agg [.str x, .str y]) es 0 with
    | some (some p) => some ⟨.tup [p.2, .int .i64 (bornAt es p.1 : Nat)], H.put b (.mp (updE p.1 (.agg [.str x, .str y]) p.2 es) clock), [b], [b]⟩
    | some none => some ⟨.tup [.int .i64 0, .int .i64 (clock : Nat)], H.put b (.mp (es ++ [(clock, .agg [.str x, .str y], .int .i64 0)]) (clock + 1)), [b], [b]⟩
    | none => orig)
  | _, _ => orig
theorem rl_mapEntry (t : TypeId) (b : Nat) (x y : Str) (bs : List (Nat × Blk)) (n : Nat) : xMapEntry P t (.map b) (.agg [.str x, .str y]) ⟨bs, n⟩ = meK (mapSS P t) (lookB bs b) b x y ⟨bs, n⟩ (xMapEntry0 P t (.map b) (.agg [.str x, .str y]) ⟨bs, n⟩) := by
  unfold meK
  split
  · rename_i es c hf ho
    obtain ⟨kt, et, h1, h2, h3⟩ := mapSS_ok hf x y
    have hg : (⟨bs, n⟩ : Hp).get b = some (.mp es c) := (lookB_eq bs b).trans ho
    split
    · rename_i p hp; unfold xMapEntry; simp only [h1, h2, h3, hg, hp]
    · rename_i hp; unfold xMapEntry; simp only [h1, h2, h3, hg, hp]; rfl
    · rfl
  · rfl
theorem meK_mp (l : List Ent) (b : Nat) (x y : Str) (orig : Option XR) : meK true (some (.mp (mpF 0 l) l.length)) b x y H orig =
    some ⟨.tup [.int .i64 (val l (x, y)), .int .i64 (pos l (x, y) : Nat)], H.put b (.mp (mpF 0 (ent l (x, y))) (ent l (x, y)).length), [b], [b]⟩ := by
  unfold meK
  simp only [findV_mp]
  cases h : has l (x, y) with
  | true =>
    obtain ⟨e, h1, h2, h3⟩ := mpF_at 0 l (x, y) h
    simp only [Nat.zero_add]
    rw [ent_has h, updE_self _ _ _ _ fun e' h' => by rw [h1] at h'; cases h'; exact h3, bornAt, h1]
    simp only [Option.some.injEq, XR.mk.injEq, V.tup.injEq, List.cons.injEq, and_true, true_and, V.int.injEq]
    rw [h2]; simp
  | false =>
    obtain ⟨h1, h2, h3⟩ := ent_not h
    rw [h1, h2, h3, mpF_append]
    simp [mpF]
theorem setBorn_mp (k : Key) (n : Int) : ∀ (i : Nat) (l : List Ent), setBorn ((i + pos l k : Nat) : Int) (.int .i64 n) (mpF i (ent l k)) = some (mpF i (sto l k n))
  | i, [] => by
    simp only [ent, pos, mpF, setBorn, sto]
    simp
  | i, e :: l => by
    rw [ent, pos, sto]
    by_cases hk : e.1 = k
    · rw [if_pos hk, if_pos hk, if_pos hk]
      simp only [mpF, setBorn]
      simp
    · rw [if_neg hk, if_neg hk, if_neg hk]
      simp only [mpF, setBorn]
      have : ¬ (i : Int) = ((i + (pos l k + 1) : Nat) : Int) := by omega
      simp only [this, decide_false]
      have e1 : ((i + (pos l k + 1) : Nat) : Int) = ((i + 1 + pos l k : Nat) : Int) := by omega
      rw [e1, setBorn_mp k n (i + 1) l]
def esK (o : Option (List (Nat × V × V))) (clock b : Nat) (H : Hp) : Option XR := match o with | some es => some ⟨undefV, H.put b (.mp es clock), [b], [b]⟩ | none => none
def esB (o : Option Blk) (b : Nat) (s : Int) (x : V) (H : Hp) : Option XR := match o with | some (.mp es clock) => esK (setBorn s x es) clock b H | _ => none
theorem rl_entryStore (b : Nat) (k : IntKind) (s : Int) (x : V) (bs : List (Nat × Blk)) (n : Nat) : xEntryStore (.map b) (.int k s) x ⟨bs, n⟩ = esB (lookB bs b) b s x ⟨bs, n⟩ := by
  unfold xEntryStore esB
  rw [← lookB_eq]
  rfl
theorem esB_mp (l : List Ent) (k : Key) (n : Int) (c b : Nat) : esB (some (.mp (mpF 0 (ent l k)) c)) b ((pos l k : Nat) : Int) (.int .i64 n) H = some ⟨undefV, H.put b (.mp (mpF 0 (sto l k n)) c), [b], [b]⟩ := by
  unfold esB
  have := setBorn_mp k n 0 l
  rw [Nat.zero_add] at this
  simp only [this]
  rfl
def lmK (fl : Bool) (o : Option Blk) (b : Nat) (H : Hp) (orig : AR) : AR :=
  match fl, o with
  | true, some (.mp es _) => ⟨True, .int .i64 es.length, H, [b], []⟩
  | _, _ => orig
theorem lmK_mp (es : List (Nat × V × V)) (c b : Nat) (orig : AR) : lmK true (some (.mp es c)) b H orig = ⟨True, .int .i64 es.length, H, [b], []⟩ := rfl
def aLenM := @aLen
theorem rl_len_map (t : TypeId) (b : Nat) (bs : List (Nat × Blk)) (n : Nat) : aLen P t (.map b) ⟨bs, n⟩ = lmK (mapSS P t) (lookB bs b) b ⟨bs, n⟩ (aLenM P t (.map b) ⟨bs, n⟩) := by
  unfold lmK
  split
  · rename_i es c hf ho
    obtain ⟨kt, et, h1, h2, h3⟩ := mapSS_ok hf [] []
    have hg : (⟨bs, n⟩ : Hp).get b = some (.mp es c) := (lookB_eq bs b).trans ho
    unfold mapT at h1
    split at h1
    · rename_i k e hu
      unfold aLen; simp only [hu, hg]
    · cases h1
  · rfl
def rgK (fl : Bool) (o : Option Blk) (b : Nat) (H : Hp) (orig : Option XR) : Option XR :=
  match fl, o with
  | true, some (.mp es clock) => some ⟨.ptr H.next 0, H.new (.it (some b) (es.map (·.1)) (es.map (·.1)) clock clock none), [b], []⟩
  | _, _ => orig
theorem rgK_mp (es : List (Nat × V × V)) (c b : Nat) (orig : Option XR) : rgK true (some (.mp es c)) b H orig = some ⟨.ptr H.next 0, H.new (.it (some b) (es.map (·.1)) (es.map (·.1)) c c none), [b], []⟩ := rfl
def xRange0 := @xRange
theorem rl_range (t : TypeId) (b : Nat) (bs : List (Nat × Blk)) (n : Nat) : xRange P t (.map b) ⟨bs, n⟩ = rgK (mapSS P t) (lookB bs b) b ⟨bs, n⟩ (xRange0 P t (.map b) ⟨bs, n⟩) := by
  unfold rgK
  split
  · rename_i es c hf ho
    obtain ⟨kt, et, h1, h2, h3⟩ := mapSS_ok hf [] []
    have hg : (⟨bs, n⟩ : Hp).get b = some (.mp es c) := (lookB_eq bs b).trans ho
    unfold xRange; simp only [h1, hg]
  · rfl
def etM (o : Option Blk) (last c b m : Nat) (H : Hp) : Option XR :=
  match o with
  | some (.mp es clock) => (match Nat.beq clock last, findBorn c es with | true, some kv => some ⟨.tup [kv.1, kv.2], H, [b, m], []⟩ | _, _ => none)
  | _ => none
def etK (o : Option Blk) (bs : List (Nat × Blk)) (b : Nat) (H : Hp) : Option XR :=
  match o with
  | some (.it (some m) _ _ _ last (some c)) => etM (lookB bs m) last c b m H
  | _ => none
theorem rl_entry (b : Nat) (bs : List (Nat × Blk)) (n : Nat) : xEntry (.ptr b 0) ⟨bs, n⟩ = etK (lookB bs b) bs b ⟨bs, n⟩ := by
  have e : ∀ m, (⟨bs, n⟩ : Hp).get m = lookB bs m := lookB_eq bs
  unfold xEntry etK etM
  simp only [e]
  generalize lookB bs b = o
  cases o with
  | none => rfl
  | some x =>
    cases x with
    | it m _ _ _ last cur => cases m <;> cases cur <;> rfl
    | _ => rfl
theorem etK_it (m : Nat) (x l : List Nat) (s last c : Nat) (bs : List (Nat × Blk)) (b : Nat) : etK (some (.it (some m) x l s last (some c))) bs b H = etM (lookB bs m) last c b m H := rfl
theorem etM_mp (es : List (Nat × V × V)) (clock c b m : Nat) (k v : V) (hf : findBorn c es = some (k, v)) : etM (some (.mp es clock)) clock c b m H = some ⟨.tup [k, v], H, [b, m], []⟩ := by
  unfold etM
  simp only [Nat.beq_refl, hf]
theorem rl_makeMap (bs : List (Nat × Blk)) (n : Nat) : xMakeMap ⟨bs, n⟩ = some ⟨.map n, ⟨(n, .mp [] 0) :: bs, n + 1⟩, [], []⟩ := rfl
theorem mpF_nil : ([] : List (Nat × V × V)) = mpF 0 [] := rfl
theorem step1_lookup (t : TypeId) (x k : Operand) (ok : Bool) : step1 C P env (.lookup t x k ok) H = mkSR false ((ev env x).cond ∧ (ev env k).cond) (XR.ar H (xLookup P t (ev env x).val (ev env k).val ok H)) H := step_of rfl (by simp [Op.operands, needs]) rfl
theorem step1_mapEntry (t : TypeId) (x k : Operand) : step1 C P env (.mapEntry t x k) H = mkSR false ((ev env x).cond ∧ (ev env k).cond) (XR.ar H (xMapEntry P t (ev env x).val (ev env k).val H)) H := step_of rfl (by simp [Op.operands, needs]) rfl
theorem step1_entryStore (t : TypeId) (x k v : Operand) : step1 C P env (.entryStore t x k v) H = mkSR false ((ev env x).cond ∧ (ev env k).cond ∧ (ev env v).cond) (XR.ar H (xEntryStore (ev env x).val (ev env k).val (ev env v).val H)) H := step_of rfl (by simp [Op.operands, needs]) rfl
theorem step1_makeMap (t : TypeId) : step1 C P env (.makeMap t none) H = mkSR false True (XR.ar H (xMakeMap H)) H := step_of rfl (by simp [Op.operands, needs]) rfl
theorem step1_range (t : TypeId) (x : Operand) : step1 C P env (.range t x) H = mkSR false (ev env x).cond (XR.ar H (xRange P t (ev env x).val H)) H := step_of rfl (by simp [Op.operands, needs]) rfl
theorem step1_entry (x : Operand) : step1 C P env (.entry x) H = mkSR false (ev env x).cond (XR.ar H (xEntry (ev env x).val H)) H := step_of rfl (by simp [Op.operands, needs]) rfl
theorem step1_cap (t : TypeId) (x : Operand) : step1 C P env (.call { callee := .builtin .cap, args := ⟨[x]⟩, argTypes := ⟨[t]⟩ }) H = mkSR false (ev env x).cond (XR.ar H (xCap P t (ev env x).val H)) H := step_of rfl (by simp [Op.operands, Call.operands, needs]) rfl
theorem AXw.intro {K : Out → St → Prop} {st : List Fr} {ops : Array Oper} {os : List Oper} {d : Nat} {b m n : Nat} {bs : List (Nat × Blk)} {bs0 left : List Nat} {since last clock : Nat} {cur : Option Nat} {es : List (Nat × V × V)}
    (h1 : lookB bs b = some (.it (some m) bs0 left since last cur)) (h2 : lookB bs m = some (.mp es clock)) (h3 : es.map (·.1) = bs0) (h4 : since ≤ last) (h5 : ∀ x ∈ bs0, x < since) (h6 : C.nx ≤ b)
    (k0 : (∀ e ∈ es, left.contains e.1 = false) → AXr C P K st ops os ((d, .tup [.bool false]) :: env) ⟨killB bs b, n⟩)
    (k1 : ∀ e ∈ es, left.contains e.1 = true → AXr C P K st ops os ((d, .tup [.bool true, e.2.1, e.2.2]) :: env) ⟨putB bs b (.it (some m) bs0 (left.filter fun n => !Nat.beq n e.1) since clock (some e.1)), n⟩) :
    AXw C P K st ops os (some d) True (.ptr b 0) env ⟨bs, n⟩ := by
  have g1 : (⟨bs, n⟩ : Hp).get b = _ := (lookB_eq bs b).trans h1
  have g2 : (⟨bs, n⟩ : Hp).get m = _ := (lookB_eq bs m).trans h2
  have hb : (bs0.all fun n => Nat.blt n since) = true := List.all_eq_true.2 fun x hx => by simpa using h5 x hx
  have hw : wok C [b] = true := by simp [wok, h6]
  refine ⟨trivial, ?_⟩
  unfold xNext
  simp only [g1, g2, h3, h4, and_self, decide_true, Bool.true_and, hb]
  cases hf : es.filter fun e => left.contains e.1 with
  | nil =>
    simp only
    intro q hq
    rw [List.mem_singleton] at hq
    subst hq
    have k0' := k0 fun e he => ?_
    · rw [← kill_mk] at k0'; exact ⟨hw, k0'⟩
    have : e ∉ es.filter fun e => left.contains e.1 := by rw [hf]; simp
    simp only [List.mem_filter, not_and, Bool.not_eq_true] at this
    exact this he
  | cons e0 l =>
    simp only
    intro q hq
    obtain ⟨e, he, rfl⟩ := List.mem_map.1 hq
    rw [← hf] at he
    obtain ⟨he1, he2⟩ := List.mem_filter.1 he
    have k1' := k1 e he1 he2
    rw [← put_mk] at k1'
    exact ⟨hw, k1'⟩
theorem V.one_cells {x : V} (h : x.one = true) : x.cellsV = [x] ∧ okCells x = true := by
  cases x <;> first | exact ⟨rfl, h⟩ | (cases h)
def bsL (o : Option (Nat × Value)) (l : List V) (H : Hp) (orig : AR) : AR :=
  match o with
  | some (s, z) => if s = 1 ∧ okCells (cv z) = true ∧ (cv z).cellsV.length = 1 ∧ l.all V.one = true then ⟨True, .sl H.next 0 l.length 1 (some l.length), H.new (.cells l), [], []⟩ else orig
  | none => orig
theorem bsL_some (s : Nat) (z : Value) (l : List V) (orig : AR) : bsL (some (s, z)) l H orig = if s = 1 ∧ okCells (cv z) = true ∧ (cv z).cellsV.length = 1 ∧ l.all V.one = true then ⟨True, .sl H.next 0 l.length 1 (some l.length), H.new (.cells l), [], []⟩ else orig := rfl
theorem rl_buildSlice2 (t : TypeId) (a b : V) (bs : List (Nat × Blk)) (m : Nat) : aBuildSlice P t 2 [(0, a), (1, b)] ⟨bs, m⟩ = bsL (buildT P t) [a, b] ⟨bs, m⟩ (aBuildSlice0 P t 2 [(0, a), (1, b)] ⟨bs, m⟩) := by
  unfold bsL
  split
  · rename_i s z hb
    split
    · rename_i hc
      obtain ⟨rfl, h1, h2, h3⟩ := hc
      simp only [List.all_cons, List.all_nil, Bool.and_true, Bool.and_eq_true] at h3
      obtain ⟨a1, a2⟩ := V.one_cells h3.1
      obtain ⟨b1, b2⟩ := V.one_cells h3.2
      unfold buildT at hb
      split at hb
      · rename_i e he
        split at hb
        · rename_i s' z' k1 k2
          cases hb
          match hz : (cv z).cellsV, h2 with
          | [c], _ =>
            have zz : zerosV P e 2 = [c, c] := by simp [zerosV, k2, hz]
            simp [aBuildSlice, he, k1, k2, fillV, a1, a2, b1, b2, zz, hz, h1, putCells, Hp.new]
        · cases hb
      · cases hb
    · rfl
  · rfl
theorem rl_buildSlice4 (t : TypeId) (a b c d : V) (bs : List (Nat × Blk)) (m : Nat) : aBuildSlice P t 4 [(0, a), (1, b), (2, c), (3, d)] ⟨bs, m⟩ = bsL (buildT P t) [a, b, c, d] ⟨bs, m⟩ (aBuildSlice0 P t 4 [(0, a), (1, b), (2, c), (3, d)] ⟨bs, m⟩) := by
  unfold bsL
  split
  · rename_i s z hb
    split
    · rename_i hc
      obtain ⟨rfl, h1, h2, h3⟩ := hc
      simp only [List.all_cons, List.all_nil, Bool.and_true, Bool.and_eq_true] at h3
      obtain ⟨a1, a2⟩ := V.one_cells h3.1
      obtain ⟨b1, b2⟩ := V.one_cells h3.2.1
      obtain ⟨c1, c2⟩ := V.one_cells h3.2.2.1
      obtain ⟨d1, d2⟩ := V.one_cells h3.2.2.2
      unfold buildT at hb
      split at hb
      · rename_i e he
        split at hb
        · rename_i s' z' k1 k2
          cases hb
          match hz : (cv z).cellsV, h2 with
          | [y], _ =>
            have zz : zerosV P e 4 = [y, y, y, y] := by simp [zerosV, k2, hz]
            simp [aBuildSlice, he, k1, k2, fillV, a1, a2, b1, b2, c1, c2, d1, d2, zz, hz, h1, putCells, Hp.new]
        · cases hb
      · cases hb
    · rfl
  · rfl
def bs0K (o : Option (Nat × Value)) (H : Hp) (orig : AR) : AR :=
  match o with
  | some (s, z) => if okCells (cv z) = true ∧ (cv z).cellsV.length = s then ⟨True, .sl H.next 0 0 s (some 0), H.new (.cells []), [], []⟩ else orig
  | none => orig
theorem bs0K_some (s : Nat) (z : Value) (orig : AR) : bs0K (some (s, z)) H orig = if okCells (cv z) = true ∧ (cv z).cellsV.length = s then ⟨True, .sl H.next 0 0 s (some 0), H.new (.cells []), [], []⟩ else orig := rfl
theorem rl_buildSlice0 (t : TypeId) (bs : List (Nat × Blk)) (m : Nat) : aBuildSlice P t 0 [] ⟨bs, m⟩ = bs0K (buildT P t) ⟨bs, m⟩ (aBuildSlice0 P t 0 [] ⟨bs, m⟩) := by
  unfold bs0K
  split
  · rename_i s z hb
    split
    · rename_i hc
      obtain ⟨h1, h2⟩ := hc
      unfold buildT at hb
      split at hb
      · rename_i e he
        split at hb
        · rename_i s' z' k1 k2
          cases hb
          have zz : zerosV P e 0 = [] := by simp only [zerosV, k2]; split <;> simp
          simp [aBuildSlice, he, k1, k2, fillV, zz, h1, h2, Hp.new]
        · cases hb
      · cases hb
    · rfl
  · rfl
def capK (o : Option Nat) (H : Hp) (orig : Option XR) : Option XR := match o with | some _ => some ⟨.int .i64 0, H, [], []⟩ | none => orig
theorem capK_some (n : Nat) (orig : Option XR) : capK (some n) H orig = some ⟨.int .i64 0, H, [], []⟩ := rfl
def xCap0 := @xCap
theorem rl_cap_nil (t : TypeId) : xCap P t .nilS H = capK (elemS P t) H (xCap0 P t .nilS H) := by
  cases h : elemS P t with
  | none => rfl
  | some n =>
    obtain ⟨_, e, h1, h2, _⟩ := elemS_some (P := P) (t := t) (by rw [h]; rfl)
    rw [capK_some]
    unfold xCap
    simp only [h1]
def srcI := @srcCells
theorem rl_src_int (t : TypeId) (k : IntKind) (n : Int) (sz : Nat) : srcCells P H t (.int k n) sz = whenI (P.underlying t) none (srcI P H t (.int k n) sz) := by
  cases h : P.underlying t with
  | none => rfl
  | some d =>
    cases d <;> first | rfl | skip
    unfold srcCells
    simp only [h]
    rfl
theorem srcK_none (d : AR) (k : List V → Nat → List Nat → AR) : srcK none d k = d := rfl
def gwK (u : Option TypeDesc) (i : Option (Nat × Nat × Bool)) (z : Option Value) (n : Int) (H : Hp) (orig : Option XR) : Option XR :=
  match u, i, z with
  | some (.int _), some (isz, ib, _), some z => if okCells (cv z) = true ∧ (cv z).cellsV.length = isz ∧ 0 < n ∧ n ≤ 1000000 ∧ ib ≤ 100000 then some ⟨.sl H.next 0 n.toNat isz none, H.new (.cells (zerosE (some z) n.toNat)), [], []⟩ else orig
  | _, _, _ => orig
theorem gwK_some (k : IntKind) (isz ib : Nat) (zok : Bool) (z : Value) (n : Int) (orig : Option XR) : gwK (some (.int k)) (some (isz, ib, zok)) (some z) n H orig =
    if okCells (cv z) = true ∧ (cv z).cellsV.length = isz ∧ 0 < n ∧ n ≤ 1000000 ∧ ib ≤ 100000 then some ⟨.sl H.next 0 n.toNat isz none, H.new (.cells (zerosE (some z) n.toNat)), [], []⟩ else orig := rfl
def xGrow0 := @xGrow
theorem rl_grow (e xT : TypeId) (k : IntKind) (n : Int) : xGrow P e xT .nilS (.int k n) H = gwK (P.underlying xT) (infoT P e) (zeroT P e) n H (xGrow0 P e xT .nilS (.int k n) H) := by
  unfold gwK
  split
  · rename_i k' isz ib zok z h1 h2 h3
    split
    · rename_i hc
      unfold xGrow
      simp only [h1, h2, h3, hc, and_self, decide_true]
      unfold zerosV zerosE
      simp only [h3]
      rfl
    · rfl
  · rfl
def RoundK0 (C : Cfg) (P : Program) (x : Code) (K : Out → St → Prop) : List Unit → Out → St → Prop
  | [] => OThen (fun _ => False) K
  | _ :: n => OThen (fun s => AXf C P x s (RoundK0 C P x K n)) K
theorem roundK_ex : ∃ f : Cfg → Program → Code → (Out → St → Prop) → List Unit → Out → St → Prop, f = RoundK0 := ⟨_, rfl⟩
noncomputable def RoundK : Cfg → Program → Code → (Out → St → Prop) → List Unit → Out → St → Prop := Classical.choose roundK_ex
theorem roundK_def : RoundK = RoundK0 := Classical.choose_spec roundK_ex
end Go.Ab
