/- Tables of calls that have been run: contracts that the machine looks up. -/
import Derived.Test.YtajodjbnkeeonaaGreatDoorAbEvFn
set_option linter.unusedSimpArgs false
set_option linter.unusedVariables false
namespace Go.Ab
variable {P : Program}
abbrev FTab := List (List V × V)
abbrev Tab := List (FuncId × FTab)
def eqS : List UInt8 → List UInt8 → Bool
  | [], [] => true
  | a :: r, b :: s => Nat.beq a.toNat b.toNat && eqS r s
  | _, _ => false
theorem eqS_eq : ∀ {a b : List UInt8}, eqS a b = true → a = b
  | [], b, h => by cases b <;> simp [eqS] at h; rfl
  | x :: r, b, h => by
    cases b with
    | nil => simp [eqS] at h
    | cons y s =>
      simp [eqS] at h
      rw [eqS_eq h.2, UInt8.toNat_inj.1 h.1]
def eqA : V → V → Bool
  | .str a, .str b => eqS a b
  | .int k a, .int k' b => decide (k = k') && decide (a = b)
  | .bool a, .bool b => a == b
  | _, _ => false
def eqAs : List V → List V → Bool
  | [], [] => true
  | a :: r, b :: s => eqA a b && eqAs r s
  | _, _ => false
theorem eqA_eq {a b : V} (h : eqA a b = true) : a = b ∧ Pure a := by
  unfold eqA at h
  split at h
  · exact ⟨by rw [eqS_eq h], .str _⟩
  · simp at h; exact ⟨by rw [h.1, h.2], .int _ _⟩
  · simp at h; exact ⟨by rw [h], .bool _⟩
  · cases h
theorem eqAs_eq : ∀ {a b : List V}, eqAs a b = true → a = b
  | [], b, h => by cases b <;> simp [eqAs] at h; rfl
  | x :: r, b, h => by
    cases b with
    | nil => simp [eqAs] at h
    | cons y s =>
      simp [eqAs] at h
      rw [(eqA_eq h.1).1, eqAs_eq h.2]
def tabGo (L : FTab) (args : List V) : Option PR :=
  match L with
  | [] => none
  | q :: r => match eqAs q.1 args with
    | true => some (.ret q.2)
    | false => tabGo r args
def tabF (T : Tab) (f : FuncId) (args : List V) : Option PR :=
  match T with
  | [] => none
  | e :: r => match Nat.beq e.1 f with
    | true => tabGo e.2 args
    | false => tabF r f args
def FTabOK (P : Program) (f : FuncId) (L : FTab) : Prop := ∀ q ∈ L, PCall P f q.1 (.ret q.2)
theorem FTabOK.nil {f : FuncId} : FTabOK P f [] := fun _ h => by cases h
theorem FTabOK.append {f : FuncId} {L M : FTab} (h : FTabOK P f L) (k : FTabOK P f M) : FTabOK P f (L ++ M) := fun q hq => (List.mem_append.1 hq).elim (h q) (k q)
def TabOK (P : Program) (T : Tab) : Prop := ∀ e ∈ T, FTabOK P e.1 e.2
theorem TabOK.nil : TabOK P [] := fun _ h => by cases h
theorem TabOK.cons {f : FuncId} {L : FTab} {T : Tab} (h : FTabOK P f L) (k : TabOK P T) : TabOK P ((f, L) :: T) := fun e he => by
  rcases List.mem_cons.1 he with rfl | he
  · exact h
  · exact k e he
theorem tabGo_ok {f : FuncId} {args : List V} {r : PR} : ∀ {L : FTab}, FTabOK P f L → tabGo L args = some r → PCall P f args r
  | [], _, h => by cases h
  | q :: L, ok, h => by
    unfold tabGo at h
    split at h
    · rename_i e
      cases h
      rw [← eqAs_eq e]
      exact ok q (List.mem_cons_self ..)
    · exact tabGo_ok (fun q hq => ok q (List.mem_cons_of_mem _ hq)) h
theorem tabF_ok {f : FuncId} {args : List V} {r : PR} : ∀ {T : Tab}, TabOK P T → tabF T f args = some r → PCall P f args r
  | [], _, h => by cases h
  | e :: T, ok, h => by
    unfold tabF at h
    split at h
    · rename_i q
      have q' := Nat.eq_of_beq_eq_true q
      subst q'
      exact tabGo_ok (ok e (List.mem_cons_self ..)) h
    · exact tabF_ok (fun e he => ok e (List.mem_cons_of_mem _ he)) h
noncomputable def chkT (E : ECfg) (P : Program) (n : Nat) (f : FuncId) (L : FTab) : Bool :=
  match L with
  | [] => true
  | q :: r =>
    match eAns E P n f q.1 with
    | some v => beqV v q.2 && eqAs q.1 q.1 && chkT E P n f r
    | none => false
theorem eqAs_pure : ∀ {a : List V}, eqAs a a = true → ∀ x ∈ a, Pure x
  | y :: r, h, x, hx => by
    simp [eqAs] at h
    rcases List.mem_cons.1 hx with rfl | hx
    · exact (eqA_eq h.1).2
    · exact eqAs_pure h.2 x hx
theorem chkT_ok {E : ECfg} (hm : P.follows .mixedOrders = true) (hΓ : ∀ f args r, E.Γ f args = some r → PCall P f args r) (hcan : ∀ f, E.can f = true → Callable P f) (hsp : GoodSpec P E)
    {n : Nat} {f : FuncId} : ∀ {L : FTab}, chkT E P n f L = true → FTabOK P f L
  | [], _ => FTabOK.nil
  | q :: L, h => by
    unfold chkT at h
    split at h
    rotate_left; · cases h
    rename_i v hv
    simp only [Bool.and_eq_true] at h
    intro q' hq
    rcases List.mem_cons.1 hq with rfl | hq
    · have := eAns_ok hm hΓ hcan hsp (eqAs_pure h.1.2) hv
      rw [beqV_eq h.1.1] at this
      exact this
    · exact chkT_ok hm hΓ hcan hsp h.2 q' hq
def withTab (E : ECfg) (T : Tab) : ECfg := { E with Γ := fun f args => match tabF T f args with | some r => some r | none => E.Γ f args }
theorem withTab_ok {E : ECfg} {T : Tab} (hΓ : ∀ f args r, E.Γ f args = some r → PCall P f args r) (hT : TabOK P T) : ∀ f args r, (withTab E T).Γ f args = some r → PCall P f args r := by
  intro f args r h
  have h' : (match tabF T f args with | some r => some r | none => E.Γ f args) = some r := h
  split at h'
  · rename_i r' hr
    cases h'
    exact tabF_ok hT hr
  · exact hΓ f args r h'
end Go.Ab
