/- The machine, set up for this translation. -/
import Derived.Test.YtajodjbnkeeonaaGreatDoorAbEvFn
import Derived.Test.YtajodjbnkeeonaaGreatDoorK1Ix
import Derived.Test.YtajodjbnkeeonaaGreatDoorAbTab
set_option linter.unusedSimpArgs false
set_option linter.unusedVariables false
namespace Go.Proofs
open Go.Ab
theorem can1 : ((List.range (170 + 1)).all fun f => [0, 1, 145, 162, 164, 170].contains f || canB Tryz.prog f) = true := by kernel_rfl
def gIndex (args : List V) : Option PR :=
  match args with
  | [.str s, .int .u8 n] => bif decide (0 ≤ n) && decide (n < 256) then some (.ret (.int .i64 (ixB s (UInt8.ofNat n.toNat)))) else none
  | _ => none
theorem gIndex_ok (args : List V) (r : PR) (h : gIndex args = some r) : PCall Tryz.prog 162 args r := by
  unfold gIndex at h
  split at h
  · rename_i s n
    cases hc : (decide (0 ≤ n) && decide (n < 256)) with
    | false => rw [hc] at h; cases h
    | true =>
      rw [hc] at h
      cases h
      simp only [Bool.and_eq_true, decide_eq_true_eq] at hc
      have e : ((UInt8.ofNat n.toNat).toNat : Int) = n := by simp; omega
      have := index_ok s (UInt8.ofNat n.toNat)
      rw [e] at this
      exact this
  · cases h
def Γ1 (f : FuncId) (args : List V) : Option PR := bif Nat.beq f 162 then gIndex args else none
theorem Γ1_ok : ∀ f args r, Γ1 f args = some r → PCall Tryz.prog f args r := by
  intro f args r h
  unfold Γ1 at h
  cases hf : Nat.beq f 162 with
  | false => rw [hf] at h; cases h
  | true =>
    rw [hf] at h
    rw [Nat.eq_of_beq_eq_true hf]
    exact gIndex_ok _ _ h
def wr1 (f : FuncId) : Nat := bif [141,123,150,41,62,85,86,87,88,89,90,91,92,54,78,102,103,104,105,106,107,109,110,115,117,118,119,133,134,135,143,157,52,55].contains f then 1 else bif [125,127].contains f then 2 else 0
def E1 : ECfg := ⟨Γ1, canL [0, 1, 145, 162, 164, 170] 170, wr1, fun _ => false, 100000, spec1⟩
theorem E1_ok {n : Nat} {f : FuncId} {args : List V} {v : V} (hp : ∀ x ∈ args, Pure x) (h : eAns E1 Tryz.prog n f args = some v) : PCall Tryz.prog f args (.ret v) :=
  eAns_ok mixed0 Γ1_ok (canL_ok can1) (spec1_ok rfl) hp h
end Go.Proofs
