/- The machine, set up for this translation. -/
import Derived.Test.YthbimeikbkjnkaaGreatDoorAbEvP
import Derived.Test.YthbimeikbkjnkaaGreatDoorR1Ix
import Derived.Test.YthbimeikbkjnkaaGreatDoorAbTab
namespace Go.Proofs
open Go.Ab

theorem can1 : ((List.range (260 + 1)).all fun f => [0, 1, 236, 247, 251, 258].contains f || canB Tryz.prog f) = true := by kernel_rfl

/-- IndexByteString, computed. -/
def gIndex (args : List V) : Option PR :=
  match args with
  | [.str s, .int .u8 n] => bif decide (0 ≤ n) && decide (n < 256) then some (.ret (.int .i64 (ixB s (UInt8.ofNat n.toNat)))) else none
  | _ => none
theorem gIndex_ok (args : List V) (r : PR) (h : gIndex args = some r) : PCall Tryz.prog 251 args r := by
  unfold gIndex at h
  split at h
  · rename_i s n
    cases hc : (decide (0 ≤ n) && decide (n < 256)) with
    | false => rw [hc] at h; cases h
    | true =>
      rw [hc] at h
      cases h
      simp only [Bool.and_eq_true, decide_eq_true_eq] at hc
      have e : ((UInt8.ofNat n.toNat).toNat : Int) = n := by simp; omega
      have := index_ok s (UInt8.ofNat n.toNat)
      rw [e] at this
      exact this
  · cases h

def Γ1 (f : FuncId) (args : List V) : Option PR := bif Nat.beq f 251 then gIndex args else none
theorem Γ1_ok : ∀ f args r, Γ1 f args = some r → PCall Tryz.prog f args r := by
  intro f args r h
  unfold Γ1 at h
  cases hf : Nat.beq f 251 with
  | false => rw [hf] at h; cases h
  | true =>
    rw [hf] at h
    rw [Nat.eq_of_beq_eq_true hf]
    exact gIndex_ok _ _ h

/-- Which functions write elder blocks: formatBase10; the builder's methods; divide's digit; and such. -/
def wr1 (f : FuncId) : Nat := bif Nat.beq f 245 || Nat.beq f 208 || Nat.beq f 230 || Nat.beq f 171 then 1 else bif Nat.beq f 210 || Nat.beq f 212 then 2 else 0
def E1 : ECfg := ⟨Γ1, canL [0, 1, 236, 247, 251, 258] 260, wr1, fun _ => false, 100000, spec1⟩

theorem E1_ok {n : Nat} {f : FuncId} {args : List V} {v : V} (hp : ∀ x ∈ args, Pure x) (h : eAns E1 Tryz.prog n f args = some v) : PCall Tryz.prog f args (.ret v) :=
  eAns_ok mixed0 Γ1_ok (canL_ok can1) (spec1_ok rfl) hp h

end Go.Proofs
