/- The library's search for a byte; facts on this translation. -/
import Derived.Test.YtajodjbnkeeonaaGreatDoorK1Rec
import Derived.Laws.Externs
set_option linter.unusedSimpArgs false
set_option linter.unusedVariables false
namespace Go.Proofs
open Go.Ab
theorem mixed0 : Tryz.prog.follows .mixedOrders = true := by kernel_rfl
def ixB (s : List UInt8) (c : UInt8) : Int := match s.findIdx? (· == c) with | some i => i | none => -1
theorem find_range {α : Type} [Inhabited α] (l : List α) (p : α → Bool) : (List.range l.length).find? (fun i => p (l.getD i default)) = l.findIdx? p := by
  induction l with
  | nil => rfl
  | cons a l ih =>
    rw [List.length_cons, List.range_succ_eq_map, List.find?_cons, List.findIdx?_cons]
    have e0 : (a :: l).getD 0 default = a := rfl
    rw [e0]
    cases h : p a with
    | true => rfl
    | false =>
      simp only [Bool.false_eq_true, if_false]
      rw [List.find?_map, ← ih]
      congr 1
theorem get_bang (s : ByteArray) (i : Nat) : s[i]! = s.data.toList.getD i default := by
  by_cases h : i < s.size
  · rw [getElem!_pos s i h]
    have h' : i < s.data.toList.length := h
    rw [List.getD_eq_getElem?_getD, List.getElem?_eq_getElem h']
    rfl
  · rw [getElem!_neg s i h]
    have h' : ¬ i < s.data.toList.length := h
    rw [List.getD_eq_getElem?_getD, List.getElem?_eq_none (by omega)]
    rfl
theorem index_ok (s : List UInt8) (c : UInt8) : PCall Tryz.prog 162 [.str s, .int .u8 (c.toNat : Int)] (.ret (.int .i64 (ixB s c))) := by
  intro g w vs _ _ hvs hpw
  obtain ⟨u0, h0, r0⟩ := hpw 0 _ rfl
  obtain ⟨u1, h1, r1⟩ := hpw 1 _ rfl
  obtain ⟨b, rfl, hb⟩ := r0.inv_str
  obtain rfl := r1.inv_int
  have hv : vs = #[.string b, .int .u8 (c.toNat : Int)] := by
    apply Array.ext_getElem?
    intro i
    match i with
    | 0 => exact h0
    | 1 => exact h1
    | i + 2 => rw [Array.getElem?_eq_none (by simp at hvs; omega)]; rfl
  subst hv
  refine .inr ⟨.int .i64 (ixB s c), w, ?_, fun _ => none, .int .i64 (ixB s c), fun c a e => (by cases e), Bel.refl _ _, rfl, .int _ _⟩
  rw [run_callFunc_extern (fn := Tryz.f162) Tryz.func162 (by kernel_rfl) rfl rfl (e := Go.Extern.BytealgIndexByte.indexByte) (by kernel_rfl)]
  have hI : (Go.Extern.BytealgIndexByte.indexByte #[.string b, .int .u8 (c.toNat : Int)]).run Tryz.prog w = (match (List.range b.size).find? (fun i => b[i]! == (c.toNat : Int).toNat.toUInt8) with | some i => Result.ok (.int .i64 (i : Int)) w | none => .ok (.int .i64 (-1)) w) := by
    show ((match (List.range b.size).find? (fun i => b[i]! == (c.toNat : Int).toNat.toUInt8) with | some i => pure (goInt i) | none => pure (goInt (-1)) : Sem Value)).run Tryz.prog w = _
    cases (List.range b.size).find? (fun i => b[i]! == (c.toNat : Int).toNat.toUInt8) <;> rfl
  have e1 : (fun i => b[i]! == c) = fun i => (fun x => x == c) (b.data.toList.getD i default) := by funext i; rw [get_bang]
  have e2 : b.size = b.data.toList.length := rfl
  have e3 : ((c.toNat : Int).toNat.toUInt8) = c := by simp
  rw [hI, e3, show List.find? (fun i => b[i]! == c) (List.range b.size) = s.findIdx? (fun x => x == c) from by (rw [e1, e2, ← hb]; exact find_range b.data.toList (fun x => x == c))]
  unfold ixB
  cases s.findIdx? (fun x => x == c) <;> rfl
end Go.Proofs
