/- The machine, set up for this translation. -/
import Derived.Test.YtiemejfbgmllfaaGreatDoorAbEvP
import Derived.Test.YtiemejfbgmllfaaGreatDoorC1Ix
import Derived.Test.YtiemejfbgmllfaaGreatDoorAbTab
namespace Go.Proofs
open Go.Ab

theorem can1 : ((List.range (156 + 1)).all fun f => [0, 1, 131, 148, 150, 156].contains f || canB Tryz.prog f) = true := by kernel_rfl

/-- IndexByteString, computed. -/
def gIndex (args : List V) : Option PR :=
  match args with
  | [.str s, .int .u8 n] => bif decide (0 ≤ n) && decide (n < 256) then some (.ret (.int .i64 (ixB s (UInt8.ofNat n.toNat)))) else none
  | _ => none
theorem gIndex_ok (args : List V) (r : PR) (h : gIndex args = some r) : PCall Tryz.prog 148 args r := by
  unfold gIndex at h
  split at h
  · rename_i s n
    cases hc : (decide (0 ≤ n) && decide (n < 256)) with
    | false => rw [hc] at h; cases h
    | true =>
      rw [hc] at h
      cases h
      simp only [Bool.and_eq_true, decide_eq_true_eq] at hc
      have e : ((UInt8.ofNat n.toNat).toNat : Int) = n := by simp; omega
      have := index_ok s (UInt8.ofNat n.toNat)
      rw [e] at this
      exact this
  · cases h

def Γ1 (f : FuncId) (args : List V) : Option PR := bif Nat.beq f 148 then gIndex args else none
theorem Γ1_ok : ∀ f args r, Γ1 f args = some r → PCall Tryz.prog f args r := by
  intro f args r h
  unfold Γ1 at h
  cases hf : Nat.beq f 148 with
  | false => rw [hf] at h; cases h
  | true =>
    rw [hf] at h
    rw [Nat.eq_of_beq_eq_true hf]
    exact gIndex_ok _ _ h

/-- Which functions write elder blocks: sorts; the builder's methods; divide's digit; and such. -/
def wr1 (f : FuncId) : Nat := bif [127,109,136,30,49,71,72,73,74,75,76,77,78,39,64,88,89,90,91,92,93,95,96,101,103,104,105,119,120,121,129,143,37,40].contains f then 1 else bif [111,113].contains f then 2 else 0
def E1 : ECfg := ⟨Γ1, canL [0, 1, 131, 148, 150, 156] 156, wr1, fun _ => false, 100000, spec1⟩

theorem E1_ok {n : Nat} {f : FuncId} {args : List V} {v : V} (hp : ∀ x ∈ args, Pure x) (h : eAns E1 Tryz.prog n f args = some v) : PCall Tryz.prog f args (.ret v) :=
  eAns_ok mixed0 Γ1_ok (canL_ok can1) (spec1_ok rfl) hp h

end Go.Proofs
