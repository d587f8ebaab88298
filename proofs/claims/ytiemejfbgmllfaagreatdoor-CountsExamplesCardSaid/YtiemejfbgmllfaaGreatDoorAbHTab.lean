/- Calls with the heaps that they met, run beforehand. -/
import Derived.Test.YtiemejfbgmllfaaGreatDoorAbTab
namespace Go.Ab
variable {P : Program}

/-- A call: its function, arguments, the heap that they reach, what it hands back. -/
structure HEnt where
  f : FuncId
  args : List V
  h : Hp
  v : V
  h' : Hp
  R : List Nat
  W : List Nat

def HEnt.r (e : HEnt) : AR := ⟨True, e.v, e.h', e.R, e.W⟩
def hGo (f : FuncId) (args : List V) (H1 : Hp) : List HEnt → Option AR
  | [] => none
  | e :: r => match Nat.beq e.f f && beqVs e.args args && beqH e.h H1 with
    | true => some e.r
    | false => hGo f args H1 r
def HTabOK (P : Program) (T : List HEnt) : Prop := ∀ e ∈ T, HCall P e.f e.args e.h e.r

theorem hGo_ok {f : FuncId} {args : List V} {H1 : Hp} {r : AR} : ∀ {T : List HEnt}, HTabOK P T → hGo f args H1 T = some r → r.pre ∧ HCall P f args H1 r
  | [], _, h => by cases h
  | e :: T, ok, h => by
    unfold hGo at h
    split at h
    · rename_i q
      cases h
      simp only [Bool.and_eq_true] at q
      have h1 := Nat.eq_of_beq_eq_true q.1.1
      have h2 := beqVs_eq q.1.2
      have h3 := beqH_eq q.2
      refine ⟨trivial, ?_⟩
      rw [← h1, ← h2, ← h3]
      exact ok e (List.mem_cons_self ..)
    · exact hGo_ok (fun e he => ok e (List.mem_cons_of_mem _ he)) h

/-- The machine with such calls besides. -/
noncomputable def withH (E : ECfg) (T : List HEnt) : ECfg :=
  { E with spec := fun rec f args H =>
      match T.any fun e => Nat.beq e.f f with
      | true =>
        match hGo f args (restr (close H 100000 (args.flatMap refsV) []) H) T with
        | some r => some (joinR (close H 100000 (args.flatMap refsV) []) H r)
        | none => E.spec rec f args H
      | false => E.spec rec f args H }
theorem withH_ok {E : ECfg} {T : List HEnt} (hs : GoodSpec P E) (hT : HTabOK P T) : GoodSpec P (withH E T) := by
  intro rec hrec f args H r h
  simp only [withH] at h
  split at h
  · split at h
    · rename_i r1 h1
      cases h
      obtain ⟨p, q⟩ := hGo_ok hT h1
      exact ⟨p, joinR_ok q⟩
    · exact hs rec hrec f args H r h
  · exact hs rec hrec f args H r h

end Go.Ab
