/- Whether two abstract values, and two abstract heaps, are the same. -/
import Derived.Test.YtiemejfbgmllfaaGreatDoorAbHeap
namespace Go.Ab

def beqL (f : V → V → Bool) : List V → List V → Bool
  | [], [] => true
  | a :: r, b :: s => f a b && beqL f r s
  | _, _ => false
/-- (The first number: how deep.) -/
def beqN : Nat → V → V → Bool
  | 0, _, _ => false
  | n + 1, x, y =>
    match x, y with
    | .bool a, .bool b => a == b
    | .int k a, .int k' b => decide (k = k') && decide (a = b)
    | .str a, .str b => decide (a = b)
    | .nilS, .nilS => true
    | .sl b o l s c, .sl b' o' l' s' c' => Nat.beq b b' && Nat.beq o o' && Nat.beq l l' && Nat.beq s s' && decide (c = c')
    | .fs cs n1, .fs cs' n2 => Nat.beq n1 n2 && beqL (beqN n) cs cs'
    | .nilP, .nilP => true
    | .ptr b o, .ptr b' o' => Nat.beq b b' && Nat.beq o o'
    | .fp cs, .fp cs' => beqL (beqN n) cs cs'
    | .nilM, .nilM => true
    | .map b, .map b' => Nat.beq b b'
    | .fn f cs, .fn f' cs' => Nat.beq f f' && beqL (beqN n) cs cs'
    | .bnd f cs, .bnd f' cs' => Nat.beq f f' && beqL (beqN n) cs cs'
    | .nilF, .nilF => true
    | .ifc t v, .ifc t' v' => Nat.beq t t' && beqN n v v'
    | .nilI, .nilI => true
    | .agg cs, .agg cs' => beqL (beqN n) cs cs'
    | .tup cs, .tup cs' => beqL (beqN n) cs cs'
    | .any, .any => true
    | .opt b v, .opt b' v' => (b == b') && beqN n v v'
    | _, _ => false
def beqV (x y : V) : Bool := beqN 12 x y
def beqVs (l r : List V) : Bool := beqL (beqN 12) l r

theorem beqL_eq {f : V → V → Bool} (hf : ∀ a b, f a b = true → a = b) : ∀ {l r : List V}, beqL f l r = true → l = r
  | [], r, h => by cases r <;> simp [beqL] at h; rfl
  | a :: l, r, h => by
    cases r with
    | nil => simp [beqL] at h
    | cons b s =>
      simp [beqL] at h
      rw [hf a b h.1, beqL_eq hf h.2]
theorem beqN_eq : ∀ (n : Nat) (a b : V), beqN n a b = true → a = b
  | 0, a, b, h => by simp [beqN] at h
  | n + 1, a, b, h => by
    have ih := beqN_eq n
    have il : ∀ {l r : List V}, beqL (beqN n) l r = true → l = r := beqL_eq ih
    unfold beqN at h
    split at h <;> (try simp only [Bool.and_eq_true, Nat.beq_eq, decide_eq_true_eq, beq_iff_eq] at h) <;> first
      | rfl
      | (rw [h]; done)
      | (rw [h.1, h.2]; done)
      | (rw [h.1, il h.2]; done)
      | (rw [il h]; done)
      | (rw [h.1, ih _ _ h.2]; done)
      | (simp [h]; done)
      | (cases h; done)
theorem beqV_eq {a b : V} (h : beqV a b = true) : a = b := beqN_eq _ _ _ h
theorem beqVs_eq {l r : List V} (h : beqVs l r = true) : l = r := beqL_eq (beqN_eq _) h

def beqEs : List (Nat × V × V) → List (Nat × V × V) → Bool
  | [], [] => true
  | a :: r, b :: s => Nat.beq a.1 b.1 && beqV a.2.1 b.2.1 && beqV a.2.2 b.2.2 && beqEs r s
  | _, _ => false
theorem beqEs_eq : ∀ {a b : List (Nat × V × V)}, beqEs a b = true → a = b
  | [], b, h => by cases b <;> simp [beqEs] at h; rfl
  | (n, x, y) :: r, b, h => by
    cases b with
    | nil => simp [beqEs] at h
    | cons q s =>
      obtain ⟨m, x', y'⟩ := q
      simp [beqEs] at h
      rw [h.1.1.1, beqV_eq h.1.1.2, beqV_eq h.1.2, beqEs_eq h.2]

def beqB : Blk → Blk → Bool
  | .cells cs, .cells cs' => beqVs cs cs'
  | .mp es c, .mp es' c' => Nat.beq c c' && beqEs es es'
  | .it m bs l s t c, .it m' bs' l' s' t' c' => decide (m = m' ∧ bs = bs' ∧ l = l' ∧ s = s' ∧ t = t' ∧ c = c')
  | .ty t cs, .ty t' cs' => Nat.beq t t' && beqVs cs cs'
  | _, _ => false
theorem beqB_eq {a b : Blk} (h : beqB a b = true) : a = b := by
  cases a <;> cases b <;> simp [beqB] at h
  · rw [beqVs_eq h]
  · rw [h.1, beqEs_eq h.2]
  · obtain ⟨h1, h2, h3, h4, h5, h6⟩ := h
    rw [h1, h2, h3, h4, h5, h6]
  · rw [h.1, beqVs_eq h.2]

def beqBs : List (Nat × Blk) → List (Nat × Blk) → Bool
  | [], [] => true
  | a :: r, b :: s => Nat.beq a.1 b.1 && beqB a.2 b.2 && beqBs r s
  | _, _ => false
theorem beqBs_eq : ∀ {a b : List (Nat × Blk)}, beqBs a b = true → a = b
  | [], b, h => by cases b <;> simp [beqBs] at h; rfl
  | (n, x) :: r, b, h => by
    cases b with
    | nil => simp [beqBs] at h
    | cons q s =>
      obtain ⟨m, x'⟩ := q
      simp [beqBs] at h
      rw [h.1.1, beqB_eq h.1.2, beqBs_eq h.2]

def beqH (a b : Hp) : Bool := Nat.beq a.next b.next && beqBs a.bs b.bs
theorem beqH_eq {a b : Hp} (h : beqH a b = true) : a = b := by
  obtain ⟨bs, n⟩ := a
  obtain ⟨bs', n'⟩ := b
  simp [beqH] at h
  rw [h.1, beqBs_eq h.2]

end Go.Ab
