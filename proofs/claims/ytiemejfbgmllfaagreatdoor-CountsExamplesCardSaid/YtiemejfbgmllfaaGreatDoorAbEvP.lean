/- A contract out of a run of the machine: scalar results. -/
import Derived.Test.YtiemejfbgmllfaaGreatDoorAbEvFn
namespace Go.Ab
open Go.RowKit (Below)
variable {P : Program}

theorem PCall.ofH {f : FuncId} {args : List V} {r : AR} (h : HCall P f args ⟨[], 0⟩ r) (hp : r.pre) (_hR : r.R = []) (hW : r.W = []) (hs : scalarV r.v = true) (hpure : ∀ x ∈ args, Pure x) : PCall P f args (.ret r.v) := by
  obtain ⟨_, hrun⟩ := h
  intro g w vs hgl hfrz hvs hpw
  let g0 : G := ⟨fun _ => none, g.phi⟩
  have hinv : Inv g0 w.heap.size ⟨[], 0⟩ (fun _ => True) w :=
    ⟨hfrz, fun b T e => (by cases e), fun b x e => (by cases e), fun b x _ e => (by cases e), fun b b' x x' T T' _ _ e => (by cases e), Nat.le_refl _⟩
  have hpw0 : PW g0 args (fun i => vs[i]?) := fun i x hx => by
    obtain ⟨u, hu, ru⟩ := hpw i x hx
    exact ⟨u, hu, VRel.pure (g := g) (g' := g0) (fun c a e => e) ru (hpure x (List.mem_of_getElem? hx))⟩
  refine (hrun hp g0 w.heap.size (fun _ => True) w vs (hgl.mono (fun c a e => e)) hinv hvs hpw0 (fun _ _ => trivial)).mono fun e w' q => ?_
  obtain ⟨g', vc, rfl, hv, p⟩ := q
  refine ⟨fun _ => none, vc, fun c a e => (by cases e), ⟨p.os, p.tape, p.output, p.size, fun k hk => p.frame k hk fun b hb => by rw [hW] at hb; cases hb⟩, rfl, scalar_rel hs hv⟩

/-- The machine's answer, if it is a scalar one. -/
noncomputable def eAns (E : ECfg) (P : Program) (n : Nat) (f : FuncId) (args : List V) : Option V :=
  match eFn E P n f args ⟨[], 0⟩ with
  | some r => bif scalarV r.v && r.R.isEmpty && r.W.isEmpty then some r.v else none
  | none => none

theorem eAns_ok {E : ECfg} (hm : P.follows .mixedOrders = true) (hΓ : ∀ f args r, E.Γ f args = some r → PCall P f args r) (hcan : ∀ f, E.can f = true → Callable P f) (hsp : GoodSpec P E)
    {n : Nat} {f : FuncId} {args : List V} {v : V} (hpure : ∀ x ∈ args, Pure x) (h : eAns E P n f args = some v) : PCall P f args (.ret v) := by
  unfold eAns at h
  split at h
  rotate_left; · cases h
  rename_i r hr
  cases hs : (scalarV r.v && r.R.isEmpty && r.W.isEmpty) with
  | false => rw [hs] at h; cases h
  | true =>
    rw [hs] at h
    cases h
    simp only [Bool.and_eq_true, List.isEmpty_iff] at hs
    obtain ⟨h1, h2⟩ := eFn_ok hm hΓ hcan hsp n f args _ r hr
    exact PCall.ofH h2 h1 hs.1.2 hs.2 hs.1.1 hpure

/-- Nothing is told otherwise. -/
def noSpec : (FuncId → List V → Hp → Option AR) → FuncId → List V → Hp → Option AR := fun _ _ _ _ => none
theorem noSpec_ok {E : ECfg} (h : E.spec = noSpec) : GoodSpec P E := fun rec _ f args H r e => by rw [h] at e; cases e

/-- A function that can be entered. -/
def canB (P : Program) (f : FuncId) : Bool :=
  match P.funcs[f]? with
  | some fn => fn.body.isSome && !(fn.name == "runtime.NumGoroutine")
  | none => false
theorem canB_ok {f : FuncId} (h : canB P f = true) : Callable P f := by
  unfold canB at h
  split at h
  rotate_left; · cases h
  rename_i fn hf
  simp only [Bool.and_eq_true, Bool.not_eq_true', beq_eq_false_iff_ne, ne_eq] at h
  obtain ⟨hb, hn⟩ := h
  intro a w
  cases hbb : fn.body with
  | none => rw [hbb] at hb; cases hb
  | some c =>
    simp [callFunc, hf, hn, hbb]

def canL (l : List Nat) (n : Nat) (f : FuncId) : Bool := Nat.ble f n && !(l.contains f)
theorem canL_ok {l : List Nat} {n : Nat} (h : ((List.range (n + 1)).all fun f => l.contains f || canB P f) = true) (f : FuncId) (hf : canL l n f = true) : Callable P f := by
  simp only [canL, Bool.and_eq_true, Bool.not_eq_true'] at hf
  have := List.all_eq_true.1 h f (by simp; exact Nat.lt_succ_of_le (Nat.le_of_ble_eq_true hf.1))
  rw [hf.2, Bool.false_or] at this
  exact canB_ok this

end Go.Ab
