import Derived.Test.YtfilkkmcagndlaaGreatDoorPlEach
import Derived.Test.YtfilkkmcagndlaaGreatDoorAbWalk
set_option linter.unusedSimpArgs false
set_option linter.unusedVariables false
set_option linter.all false
namespace Go.Proofs
open Go.Ab Go.Pl
theorem cmpI_nat (x y : Nat) : cmpI (x : Int) (y : Int) = if x < y then -1 else if y < x then 1 else 0 := by
  simp only [cmpI, Int.ofNat_lt]
theorem limbs_inj {x y : Nat} (h : limbs x = limbs y) : x = y := by rw [← valL_limbs x, h, valL_limbs]
set_option maxHeartbeats 4000000 in
theorem compareB_ok (x y : Nat) (hx : (limbs x).length ≤ 1000) (hy : (limbs y).length ≤ 1000) : PCall Tryz.prog 112 [.fs (nats .u64 (limbs x)) (limbs x).length, .fs (nats .u64 (limbs y)) (limbs y).length] (.ret (.int .i64 (cmpI x y))) := by
  have hΓ := extΓ_ok cCompare64_ok (extΓ_ok cComparei_ok (noΓ_ok (P := Tryz.prog)))
  refine PCall.walk (rs := [.tmp 4]) [0, 1, 4, 5, 6, 11, 18, 19, 20, 40] [] mixed (hΓ) (noΔ_ok) call112 Tryz.func112 rfl Tryz.ntmps112 rfl (by kernel_rfl) (by simp) (by simp [pure_bool, pure_int, pure_str, pure_fs, pure_fp, pure_fn, pure_agg, pure_tup, pure_nilS, pure_nilP, pure_natsP, pure_intsP, pure_strsP, pure_list, pure_cntsP]) ?_
  simp only [go_sem]
  refine AXc.introN (fun h1 => ?_) (fun h1 => ?_)
  · simp only [go_sem]
    rw [cmpI_nat, cmpI_nat]
    by_cases h2 : (limbs x).length < (limbs y).length
    · have := limbs_lt_of_len h2
      simp [h2, this]
    · have h3 : (limbs y).length < (limbs x).length := by omega
      have := limbs_lt_of_len h3
      simp [h2, h3, this]
      omega
  · have hlen : (limbs x).length = (limbs y).length := by omega
    have ox := okL_limbs x
    have oy := okL_limbs y
    have vx := valL_limbs x
    have vy := valL_limbs y
    generalize limbs x = l at *
    generalize limbs y = r at *
    subst vx vy
    simp only [go_sem]
    refine AXs.loop mixed (hΓ) (noΔ_ok) (fun i : Nat => [(0, .fs (nats .u64 l) l.length), (1, .fs (nats .u64 r) r.length), (18, .int .i64 l.length), (19, .int .i64 i)]) (fun _ => ⟨[], 0⟩) (fun i => i ≤ l.length ∧ ∀ j, l.length - i ≤ j → l.getD j 0 = r.getD j 0) (fun i => l.length - i) 0 (by kernel_rfl)
      ⟨Nat.zero_le _, fun j hj => by rw [getD_ge _ _ _ (by omega), getD_ge _ _ _ (by omega)]⟩ (Sub.of0 [] rfl rfl ?_ ?_) ?_
    · simp only [go_sem]
    · simp only [go_sem]
    rintro i ⟨hi, hd⟩
    simp (disch := (first | assumption | omega | (simp only [push_cast] <;> omega))) only [go_sem]
    refine AXc.introP (fun h2 => ?_) (fun h2 => ?_)
    · simp (disch := (first | assumption | omega | (simp only [push_cast] <;> omega))) only [go_sem]
      repeat refine And.intro (by omega) ?_
      have hk : l.length - 1 - i < l.length := by omega
      have hup : ∀ j, l.length - 1 - i < j → l.getD j 0 = r.getD j 0 := fun j hj => hd j (by omega)
      refine AXc.introN (fun h3 => ?_) (fun h3 => ?_)
      · simp only [go_sem]
        rw [cmpI_nat] at h3 ⊢
        rw [cmpI_nat]
        by_cases h4 : l.getD (l.length - 1 - i) 0 < r.getD (l.length - 1 - i) 0
        · have := valL_lt_at ox hlen hk hup h4
          simp only [h4, this, if_true]
        · by_cases h5 : r.getD (l.length - 1 - i) 0 < l.getD (l.length - 1 - i) 0
          · have := valL_lt_at oy hlen.symm (by omega) (fun j hj => (hup j hj).symm) h5
            rw [if_neg h4, if_pos h5, if_neg (by omega), if_pos this]
          · exact absurd (by rw [if_neg h4, if_neg h5]) h3
      · simp (disch := (first | assumption | omega | (simp only [push_cast] <;> omega))) only [go_sem]
        refine loopK_norm (i + 1) ⟨by omega, fun j hj => ?_⟩ (by omega) (Sub.of0 [] rfl rfl ?_ ?_)
        · by_cases hje : j = l.length - 1 - i
          · subst hje
            simp only [cmpI] at h3
            split at h3
            · omega
            · split at h3 <;> omega
          · exact hup j (by omega)
        · simp only [go_sem]
          simp
        · simp only [go_sem]
    · have hie : i = l.length := by omega
      subst hie
      simp only [go_sem]
      refine AXa.go mixed (hΓ) (noΔ_ok) (by kernel_rfl) ?_
      simp only [go_sem]
      have : l = r := eq_of_all hlen fun j => hd j (by omega)
      subst this
      simp [cmpI]
noncomputable def cCompareB : List V → Option PR := conOf (fun p : Nat × Nat => [.fs (nats .u64 (limbs p.1)) (limbs p.1).length, .fs (nats .u64 (limbs p.2)) (limbs p.2).length]) (fun p => (limbs p.1).length ≤ 1000 ∧ (limbs p.2).length ≤ 1000) fun p => .ret (.int .i64 (cmpI p.1 p.2))
theorem two_inj {x y : Nat × Nat} (h : [V.fs (nats .u64 (limbs x.1)) (limbs x.1).length, .fs (nats .u64 (limbs x.2)) (limbs x.2).length] = [.fs (nats .u64 (limbs y.1)) (limbs y.1).length, .fs (nats .u64 (limbs y.2)) (limbs y.2).length]) : x = y := by
  simp at h
  exact Prod.ext (limbs_inj (nats_inj h.1.1)) (limbs_inj (nats_inj h.2.1))
theorem cCompareB_eq (x y n m : Nat) (hn : n = (limbs x).length) (hm : m = (limbs y).length) (hx : (limbs x).length ≤ 1000) (hy : (limbs y).length ≤ 1000) : cCompareB [.fs (nats .u64 (limbs x)) n, .fs (nats .u64 (limbs y)) m] = some (.ret (.int .i64 (cmpI x y))) := by
  subst hn hm; exact conOf_eq (pat := fun p : Nat × Nat => [V.fs (nats .u64 (limbs p.1)) (limbs p.1).length, .fs (nats .u64 (limbs p.2)) (limbs p.2).length]) (fun _ _ h => two_inj h) (x, y) ⟨hx, hy⟩
theorem cCompareB_ok : ∀ args r, cCompareB args = some r → PCall Tryz.prog 112 args r := conOf_ok fun p h => compareB_ok p.1 p.2 h.1 h.2
attribute [go_sem] cCompareB_eq
theorem three_inj {a b c a' b' c' : Nat} {r : List V} (h : V.int .u64 a :: .int .u64 b :: .int .u64 c :: r = V.int .u64 a' :: .int .u64 b' :: .int .u64 c' :: r) : (a, b, c) = (a', b', c') := by simp at h; simp; omega
noncomputable def cPlus1 : List V → Option PR := conOf (fun p : Nat × Nat × Nat => [.int .u64 p.1, .int .u64 p.2.1, .int .u64 p.2.2]) (fun p => p.1 < 1000000000 ∧ p.2.1 < 1000000000 ∧ p.2.2 ≤ 1) fun p => .ret (.tup [.int .u64 (plusF p.1 p.2.1 p.2.2).1, .int .u64 (plusF p.1 p.2.1 p.2.2).2])
theorem cPlus1_ok : ∀ args r, cPlus1 args = some r → PCall Tryz.prog 146 args r := conOf_ok fun p h => plus1_ok p.1 p.2.1 p.2.2 h.1 h.2.1 h.2.2
noncomputable def cMinus1 : List V → Option PR := conOf (fun p : Nat × Nat × Nat => [.int .u64 p.1, .int .u64 p.2.1, .int .u64 p.2.2]) (fun p => p.1 < 1000000000 ∧ p.2.1 < 1000000000 ∧ p.2.2 ≤ 1) fun p => .ret (.tup [.int .u64 (minusF p.1 p.2.1 p.2.2).1, .int .u64 (minusF p.1 p.2.1 p.2.2).2])
theorem cMinus1_ok : ∀ args r, cMinus1 args = some r → PCall Tryz.prog 149 args r := conOf_ok fun p h => minus1_ok p.1 p.2.1 p.2.2 h.1 h.2.1 h.2.2
noncomputable def cScaled1 (k : Nat) : List V → Option PR := conOf (fun p : Nat × Nat × Nat => [.int .u64 p.1, .int .u64 p.2.1, .int .u64 p.2.2, .fp [.int .u64 k]]) (fun p => p.1 < 1000000000 ∧ k < 1000000000 ∧ p.2.2 < 1000000000) fun p => .ret (.tup [.int .u64 (scaleF k p.1 p.2.1 p.2.2).1, .int .u64 (scaleF k p.1 p.2.1 p.2.2).2])
theorem cScaled1_ok (k : Nat) : ∀ args r, cScaled1 k args = some r → PCall Tryz.prog 169 args r := conOf_ok fun p h => scaled1_ok p.1 p.2.1 p.2.2 k h.1 h.2.1 h.2.2
theorem eachPlus_ok (x y : List Nat) (hx : okL x) (hy : okL y) (hlx : x.length ≤ 1000) (hly : y.length ≤ 1000) :
    PCall Tryz.prog 145 [.fs (nats .u64 x) x.length, .fs (nats .u64 y) y.length, .fn 146 []] (.ret (.fs (nats .u64 (limbs (valL x + valL y))) (limbs (valL x + valL y)).length)) := by
  rw [← plus_val hx hy]
  refine each_ok (extΓ 146 cPlus1 noΓ) (extΓ_ok cPlus1_ok noΓ_ok) 146 [] rfl rfl rfl (by simp) plusF (· ≤ 1) (by simp) (fun a b c ha hb hc => ⟨?_, ?_⟩) x y hx hy hlx hly
  · exact conOf_eq (pat := fun p : Nat × Nat × Nat => [V.int .u64 p.1, .int .u64 p.2.1, .int .u64 p.2.2]) (cond := fun p => p.1 < 1000000000 ∧ p.2.1 < 1000000000 ∧ p.2.2 ≤ 1) (res := fun p => .ret (.tup [.int .u64 (plusF p.1 p.2.1 p.2.2).1, .int .u64 (plusF p.1 p.2.1 p.2.2).2])) (fun x y h => three_inj h) (a, b, c) ⟨ha, hb, hc⟩
  · unfold plusF; dsimp only; omega
theorem eachMinus_ok (x y : List Nat) (hx : okL x) (hy : okL y) (hlx : x.length ≤ 1000) (hly : y.length ≤ 1000) (hle : valL y ≤ valL x) :
    PCall Tryz.prog 145 [.fs (nats .u64 x) x.length, .fs (nats .u64 y) y.length, .fn 149 []] (.ret (.fs (nats .u64 (limbs (valL x - valL y))) (limbs (valL x - valL y)).length)) := by
  rw [← minus_val hx hy hle]
  refine each_ok (extΓ 149 cMinus1 noΓ) (extΓ_ok cMinus1_ok noΓ_ok) 149 [] rfl rfl rfl (by simp) minusF (· ≤ 1) (by simp) (fun a b c ha hb hc => ⟨?_, ?_⟩) x y hx hy hlx hly
  · exact conOf_eq (pat := fun p : Nat × Nat × Nat => [V.int .u64 p.1, .int .u64 p.2.1, .int .u64 p.2.2]) (cond := fun p => p.1 < 1000000000 ∧ p.2.1 < 1000000000 ∧ p.2.2 ≤ 1) (res := fun p => .ret (.tup [.int .u64 (minusF p.1 p.2.1 p.2.2).1, .int .u64 (minusF p.1 p.2.1 p.2.2).2])) (fun x y h => three_inj h) (a, b, c) ⟨ha, hb, hc⟩
  · unfold minusF; dsimp only; omega
noncomputable def cEachPlus : List V → Option PR := conOf (fun p : List Nat × List Nat => [.fs (nats .u64 p.1) p.1.length, .fs (nats .u64 p.2) p.2.length, .fn 146 []]) (fun p => okL p.1 ∧ okL p.2 ∧ p.1.length ≤ 1000 ∧ p.2.length ≤ 1000) fun p => .ret (.fs (nats .u64 (limbs (valL p.1 + valL p.2))) (limbs (valL p.1 + valL p.2)).length)
theorem cEachPlus_ok : ∀ args r, cEachPlus args = some r → PCall Tryz.prog 145 args r := conOf_ok fun p h => eachPlus_ok p.1 p.2 h.1 h.2.1 h.2.2.1 h.2.2.2
theorem cEachPlus_eq (x y : Nat) (hx : (limbs x).length ≤ 1000) (hy : (limbs y).length ≤ 1000) : cEachPlus [.fs (nats .u64 (limbs x)) (limbs x).length, .fs (nats .u64 (limbs y)) (limbs y).length, .fn 146 []] = some (.ret (.fs (nats .u64 (limbs (x + y))) (limbs (x + y)).length)) := by
  have := conOf_eq (pat := fun p : List Nat × List Nat => [V.fs (nats .u64 p.1) p.1.length, .fs (nats .u64 p.2) p.2.length, .fn 146 []]) (cond := fun p => okL p.1 ∧ okL p.2 ∧ p.1.length ≤ 1000 ∧ p.2.length ≤ 1000) (res := fun p => .ret (.fs (nats .u64 (limbs (valL p.1 + valL p.2))) (limbs (valL p.1 + valL p.2)).length))
    (fun a b h => by simp at h; exact Prod.ext (nats_inj h.1.1) (nats_inj h.2.1)) (limbs x, limbs y) ⟨okL_limbs x, okL_limbs y, hx, hy⟩
  simp only [valL_limbs] at this
  exact this
noncomputable def cEachMinus : List V → Option PR := conOf (fun p : List Nat × List Nat => [.fs (nats .u64 p.1) p.1.length, .fs (nats .u64 p.2) p.2.length, .fn 149 []]) (fun p => okL p.1 ∧ okL p.2 ∧ p.1.length ≤ 1000 ∧ p.2.length ≤ 1000 ∧ valL p.2 ≤ valL p.1) fun p => .ret (.fs (nats .u64 (limbs (valL p.1 - valL p.2))) (limbs (valL p.1 - valL p.2)).length)
theorem cEachMinus_ok : ∀ args r, cEachMinus args = some r → PCall Tryz.prog 145 args r := conOf_ok fun p h => eachMinus_ok p.1 p.2 h.1 h.2.1 h.2.2.1 h.2.2.2.1 h.2.2.2.2
theorem cEachMinus_eq (x y : Nat) (hx : (limbs x).length ≤ 1000) (hy : (limbs y).length ≤ 1000) (hle : y ≤ x) : cEachMinus [.fs (nats .u64 (limbs x)) (limbs x).length, .fs (nats .u64 (limbs y)) (limbs y).length, .fn 149 []] = some (.ret (.fs (nats .u64 (limbs (x - y))) (limbs (x - y)).length)) := by
  have := conOf_eq (pat := fun p : List Nat × List Nat => [V.fs (nats .u64 p.1) p.1.length, .fs (nats .u64 p.2) p.2.length, .fn 149 []]) (cond := fun p => okL p.1 ∧ okL p.2 ∧ p.1.length ≤ 1000 ∧ p.2.length ≤ 1000 ∧ valL p.2 ≤ valL p.1) (res := fun p => .ret (.fs (nats .u64 (limbs (valL p.1 - valL p.2))) (limbs (valL p.1 - valL p.2)).length))
    (fun a b h => by simp at h; exact Prod.ext (nats_inj h.1.1) (nats_inj h.2.1)) (limbs x, limbs y) ⟨okL_limbs x, okL_limbs y, hx, hy, by rw [valL_limbs, valL_limbs]; exact hle⟩
  simp only [valL_limbs] at this
  exact this
attribute [go_sem] cEachPlus_eq cEachMinus_eq
theorem plusB_ok (x y : Nat) (hx : (limbs x).length ≤ 1000) (hy : (limbs y).length ≤ 1000) : PCall Tryz.prog 111 [.fs (nats .u64 (limbs x)) (limbs x).length, .fs (nats .u64 (limbs y)) (limbs y).length] (.ret (.fs (nats .u64 (limbs (x + y))) (limbs (x + y)).length)) := by
  refine PCall.walk (rs := [.tmp 4]) [0, 1, 4] [] mixed (extΓ_ok cEachPlus_ok noΓ_ok) (noΔ_ok) call111 Tryz.func111 rfl Tryz.ntmps111 rfl (by kernel_rfl) (by simp) (by simp [pure_bool, pure_int, pure_str, pure_fs, pure_fp, pure_fn, pure_agg, pure_tup, pure_nilS, pure_nilP, pure_natsP, pure_intsP, pure_strsP, pure_list, pure_cntsP]) ?_
  simp (disch := (first | assumption | omega | (simp only [push_cast] <;> omega))) only [go_sem]
theorem minusB_ok (x y : Nat) (hx : (limbs x).length ≤ 1000) (hy : (limbs y).length ≤ 1000) (hle : y ≤ x) : PCall Tryz.prog 113 [.fs (nats .u64 (limbs x)) (limbs x).length, .fs (nats .u64 (limbs y)) (limbs y).length] (.ret (.fs (nats .u64 (limbs (x - y))) (limbs (x - y)).length)) := by
  refine PCall.walk (rs := [.tmp 4]) [0, 1, 4] [] mixed (extΓ_ok cEachMinus_ok noΓ_ok) (noΔ_ok) call113 Tryz.func113 rfl Tryz.ntmps113 rfl (by kernel_rfl) (by simp) (by simp [pure_bool, pure_int, pure_str, pure_fs, pure_fp, pure_fn, pure_agg, pure_tup, pure_nilS, pure_nilP, pure_natsP, pure_intsP, pure_strsP, pure_list, pure_cntsP]) ?_
  simp (disch := (first | assumption | omega | (simp only [push_cast] <;> omega))) only [go_sem]
end Go.Proofs

/- More shapes of calls at any heap: one that looks at the caller's block and hands a slice of it back; one that writes it and answers a scalar. -/
namespace Go.Ab
variable {P : Program}
theorem HCall.view1 {f : FuncId} {args : List V} {X : List V} {o n sz : Nat} (hN : NCall P f args [.cells X] [] (.sl 0 o n sz Option.none) ⟨[(0, .cells X)], 1⟩) (hX : ∀ x ∈ X, Pure x)
    (b : Nat) (args' : List V) (H : Hp) (ha : LRel (Rn (fun i => [b].getD i 0) (· < 1)) args args') (hb : H.get b = some (.cells X)) (hk : ∀ b x, H.get b = some x → b < H.next) :
    HCall P f args' H ⟨True, .sl b o n sz Option.none, H, [b], []⟩ := by
  have tc : toCall [b] H.next b = 0 := by unfold toCall; rw [if_pos (hk b _ hb)]; simp
  refine HCall.of hN [b] args' (.sl b o n sz Option.none) H H rfl (by simp) ha (fun i x hx => ?_) ?_ rfl (fun b' x' hx' => ?_) (fun b' hb' hw => rfl)
  · match i with
    | 0 => cases hx; exact ⟨b, _, rfl, hb, .cells (lrel_same hX)⟩
    | i + 1 => simp at hx
  · have := Rn.sl (π := toCall [b] H.next) (N := fun b' => b' ∈ [b] ∨ (H.next ≤ b' ∧ b' < H.next)) (b := b) (off := o) (len := n) (sz := sz) (kc := Option.none) (kc' := Option.none) (.inl (by simp)) (.inl rfl)
    rwa [tc] at this
  · by_cases he : b' = b
    · subst he
      rw [hb] at hx'
      cases hx'
      refine .inr ⟨.inl (by simp), .cells X, ?_, .cells (lrel_same hX)⟩
      rw [tc]; rfl
    · exact .inl ⟨hk b' _ hx', by simpa using he, hx'⟩
theorem HCall.putS {f : FuncId} {args : List V} {X0 X : List V} {v : V} (hN : NCall P f args [.cells X0] [0] v ⟨[(0, .cells X)], 1⟩) (hv : Pure v) (hX0 : ∀ x ∈ X0, Pure x) (hX : ∀ x ∈ X, Pure x)
    (b : Nat) (args' : List V) (H : Hp) (ha : LRel (Rn (fun i => [b].getD i 0) (· < 1)) args args') (hb : H.get b = some (.cells X0)) (hk : ∀ b x, H.get b = some x → b < H.next) :
    HCall P f args' H ⟨True, v, H.put b (.cells X), [b], [b]⟩ := by
  have tc : toCall [b] H.next b = 0 := by unfold toCall; rw [if_pos (hk b _ hb)]; simp
  refine HCall.of hN [b] args' v H (H.put b (.cells X)) rfl (by simp) ha (fun i x hx => ?_) (.same hv) rfl (fun b' x' hx' => ?_) (fun b' hb' hw => ?_)
  · match i with
    | 0 => cases hx; exact ⟨b, _, rfl, hb, .cells (lrel_same hX0)⟩
    | i + 1 => simp at hx
  · rw [Hp.get_put] at hx'
    split at hx'
    · rename_i he
      subst he
      rw [hb] at hx'
      cases hx'
      refine .inr ⟨.inl (by simp), .cells X, ?_, .cells (lrel_same hX)⟩
      rw [tc]; rfl
    · rename_i he
      exact .inl ⟨hk b' _ hx', by simpa using he, hx'⟩
  · rw [Hp.get_put, if_neg (by simpa using hw)]
end Go.Ab

/- The product of blocks; no program in sight. -/
namespace Go.Pl
theorem set_valL {l : List Nat} {j d : Nat} (hj : j < l.length) : valL (l.set j d) + 1000000000 ^ j * l.getD j 0 = valL l + 1000000000 ^ j * d := by
  have h1 := valL_split l j hj
  have h2 := valL_split (l.set j d) j (by simpa using hj)
  have e1 : (l.set j d).take j = l.take j := by rw [List.take_set_of_le (Nat.le_refl _)]
  have e2 : (l.set j d).drop (j + 1) = l.drop (j + 1) := by rw [List.drop_set_of_lt (by omega)]
  have e3 : (l.set j d).getD j 0 = d := by rw [List.getD_eq_getElem?_getD, List.getElem?_set_self (by simpa using hj)]; rfl
  rw [e1, e2, e3] at h2
  rw [h1, h2]
  generalize (1000000000 : Nat) ^ j = p at *
  generalize 1000000000 * valL (l.drop (j + 1)) = q at *
  rw [Nat.mul_add, Nat.mul_add]
  omega
theorem set_getD_ne {l : List Nat} {i j d : Nat} (h : i ≠ j) : (l.set i d).getD j 0 = l.getD j 0 := by
  rw [List.getD_eq_getElem?_getD, List.getElem?_set_ne h, List.getD_eq_getElem?_getD]
theorem okL_set {l : List Nat} {i d : Nat} (h : okL l) (hd : d < 1000000000) : okL (l.set i d) := by
  intro x hx
  rcases List.mem_or_eq_of_mem_set hx with h1 | h1
  · exact h x h1
  · omega
def mulInv (x y : List Nat) (i V0 k : Nat) (l : List Nat) (c : Nat) : Prop :=
  l.length = x.length + y.length + 1 ∧ okL l ∧ c < 1000000000 ∧ valL l + 1000000000 ^ (i + k) * c = V0 + 1000000000 ^ i * (x.getD i 0 * valL (y.take k)) ∧
  (k ≤ y.length → l.getD (i + y.length) 0 = 0) ∧ (∀ j, i + y.length < j → l.getD j 0 = 0) ∧ (k = y.length + 1 → c = 0)
def mulP (x y : List Nat) (i k : Nat) (l : List Nat) (c : Nat) : Nat := l.getD (i + k) 0 + c + x.getD i 0 * y.getD k 0
theorem mulP_lt {x y : List Nat} {i k : Nat} {l : List Nat} {c : Nat} (hx : okL x) (hy : okL y) (hl : okL l) (hc : c < 1000000000) : mulP x y i k l c < 1000000000000000000 ∧ x.getD i 0 * y.getD k 0 ≤ 999999998000000001 := by
  have h1 := getD_lt hx i
  have h2 := getD_lt hy k
  have h3 := getD_lt hl (i + k)
  have h4 : x.getD i 0 * y.getD k 0 ≤ 999999999 * 999999999 := Nat.mul_le_mul (by omega) (by omega)
  unfold mulP
  generalize x.getD i 0 * y.getD k 0 = q at *
  omega
theorem mul_step {x y : List Nat} {i V0 k : Nat} {l : List Nat} {c : Nat} (hx : okL x) (hy : okL y) (hi : i < x.length) (hk : k ≤ y.length) (h : mulInv x y i V0 k l c) :
    mulInv x y i V0 (k + 1) (l.set (i + k) (mulP x y i k l c % 1000000000)) (mulP x y i k l c / 1000000000) := by
  obtain ⟨h1, h2, h3, h4, h5, h6, h7⟩ := h
  have hb := (mulP_lt (i := i) (k := k) hx hy h2 h3).1
  have hj : i + k < l.length := by omega
  refine ⟨by simpa using h1, okL_set h2 (Nat.mod_lt _ (by omega)), by omega, ?_, fun hk' => ?_, fun j hj' => ?_, fun hk' => ?_⟩
  · have hs := set_valL (d := mulP x y i k l c % 1000000000) hj
    rw [take_valL, ← Nat.add_assoc, Nat.pow_succ]
    have hp : 1000000000 ^ (i + k) = (1000000000 : Nat) ^ i * 1000000000 ^ k := Nat.pow_add _ _ _
    have hsp := split_mul (1000000000 ^ (i + k)) (mulP x y i k l c)
    have hexp : 1000000000 ^ (i + k) * mulP x y i k l c = 1000000000 ^ (i + k) * l.getD (i + k) 0 + 1000000000 ^ (i + k) * c + 1000000000 ^ i * (x.getD i 0 * (1000000000 ^ k * y.getD k 0)) := by
      rw [hp]
      unfold mulP
      rw [Nat.mul_add, Nat.mul_add]
      congr 1
      rw [Nat.mul_assoc]
      congr 1
      rw [← Nat.mul_assoc, ← Nat.mul_assoc, Nat.mul_comm (1000000000 ^ k) (x.getD i 0)]
    rw [Nat.mul_add (x.getD i 0), Nat.mul_add (1000000000 ^ i)]
    generalize 1000000000 ^ i * (x.getD i 0 * valL (y.take k)) = a1 at *
    generalize 1000000000 ^ i * (x.getD i 0 * (1000000000 ^ k * y.getD k 0)) = a2 at *
    generalize (1000000000 : Nat) ^ (i + k) = p at *
    generalize p * (mulP x y i k l c % 1000000000) = a3 at *
    generalize p * 1000000000 * (mulP x y i k l c / 1000000000) = a4 at *
    generalize p * mulP x y i k l c = a5 at *
    generalize p * l.getD (i + k) 0 = a6 at *
    generalize p * c = a7 at *
    omega
  · rw [set_getD_ne (by omega)]; exact h5 (by omega)
  · rw [set_getD_ne (by omega)]; exact h6 j hj'
  · have hke : k = y.length := by omega
    subst hke
    have e : mulP x y i y.length l c = c := by
      unfold mulP
      rw [h5 (Nat.le_refl _), getD_ge y y.length 0 (Nat.le_refl _)]; simp
    rw [e]; omega
def mulOut (x y : List Nat) (i : Nat) (l : List Nat) : Prop :=
  l.length = x.length + y.length + 1 ∧ okL l ∧ valL l = valL (x.take i) * valL y ∧ ∀ j, i + y.length ≤ j → l.getD j 0 = 0
theorem mul_start (x y : List Nat) : mulOut x y 0 (List.replicate (x.length + y.length + 1) 0) := by
  have hv : ∀ n, valL (List.replicate n 0) = 0 := by intro n; induction n with
    | zero => rfl
    | succ n ih => rw [List.replicate_succ, valL, ih]
  refine ⟨by simp, fun d hd => by have := List.eq_of_mem_replicate hd; omega, by rw [hv]; simp [valL], fun j _ => ?_⟩
  rw [List.getD_eq_getElem?_getD, List.getElem?_replicate]
  split <;> rfl
theorem mul_row {x y : List Nat} {i : Nat} {l : List Nat} (h : mulOut x y i l) : mulInv x y i (valL l) 0 l 0 := by
  obtain ⟨h1, h2, h3, h4⟩ := h
  exact ⟨h1, h2, by omega, by simp [valL], fun _ => h4 _ (Nat.le_refl _), fun j hj => h4 j (by omega), fun h => by omega⟩
theorem mul_end {x y : List Nat} {i : Nat} {l0 l : List Nat} {c : Nat} (h0 : mulOut x y i l0) (h : mulInv x y i (valL l0) (y.length + 1) l c) : mulOut x y (i + 1) l := by
  obtain ⟨h1, h2, h3, h4, h5, h6, h7⟩ := h
  refine ⟨h1, h2, ?_, fun j hj => h6 j (by omega)⟩
  rw [h7 rfl, Nat.mul_zero, Nat.add_zero, h0.2.2.1, List.take_of_length_le (l := y) (by omega)] at h4
  rw [h4, take_valL x i, Nat.add_mul, Nat.mul_assoc]
theorem mul_done {x y : List Nat} {l : List Nat} (h : mulOut x y x.length l) : trimL l = limbs (valL x * valL y) := by
  rw [trimL_eq h.2.1, h.2.2.1, List.take_length]
end Go.Pl
