/- The reference's natural numbers: Gcd. -/
import Derived.Test.YtfilkkmcagndlaaGreatDoorF2g
import Derived.Test.YtfilkkmcagndlaaGreatDoorPlTenD
import Derived.Test.YtfilkkmcagndlaaGreatDoorQNat5
import Derived.Test.YtfilkkmcagndlaaGreatDoorQFmt
set_option linter.unusedSimpArgs false
set_option linter.unusedVariables false
set_option linter.all false
namespace Go.Proofs
open Go.Ab Go.Pl
theorem validN_dec' {n : Nat} (h : (dec n).length ≤ 1000) : validN (dec n) = true := by rw [validN_dec]; simpa using h
theorem divV_dec {x y : Nat} (hx : (dec x).length ≤ 1000) (hy : (dec y).length ≤ 1000) (h0 : 0 < y) : divV (dec x) (dec y) = .tup [.str (dec (x / y)), .str (dec (x % y)), .int .i64 0] := by
  have : ¬ y = 0 := by omega
  simp only [divV, validN_dec' hx, validN_dec' hy, and_self, if_true, valD_dec, this, if_false]
noncomputable def cRDiv : List V → Option PR := conOf (fun p : List UInt8 × List UInt8 => [.str p.1, .str p.2]) (fun _ => True) (fun p => .ret (divV p.1 p.2))
theorem cRDiv_ok : ∀ args r, cRDiv args = some r → PCall Tryz.prog 78 args r := conOf_ok fun p _ => rDiv_ok p.1 p.2
theorem cRDiv_eq (a b : List UInt8) : cRDiv [.str a, .str b] = some (.ret (divV a b)) := conOf_eq (fun p q h => by simp at h; exact Prod.ext h.1 h.2) (a, b) trivial
@[go_sem] theorem cRDiv_dec (x y : Nat) (hx : (dec x).length ≤ 1000) (hy : (dec y).length ≤ 1000) (h0 : 0 < y) : cRDiv [.str (dec x), .str (dec y)] = some (.ret (.tup [.str (dec (x / y)), .str (dec (x % y)), .int .i64 0])) := by
  rw [cRDiv_eq, divV_dec hx hy h0]
def gcdV (a b : List UInt8) : V := if validN a = true ∧ validN b = true then .tup [.str (dec (Nat.gcd (valD a) (valD b))), .int .i64 0] else errV 1
set_option maxHeartbeats 4000000 in
theorem rGcd_ok (a b : List UInt8) : PCall Tryz.prog 72 [.str a, .str b] (.ret (gcdV a b)) := by
  have hΓ := extΓ_ok cRValidN_ok (extΓ_ok cRDiv_ok noΓ_ok)
  refine PCall.walk (rs := [.tmp 4, .tmp 5]) [0, 1, 4, 5, 7, 16, 18] [] mixed (hΓ) (noΔ_ok) call72 Tryz.func72 rfl Tryz.ntmps72 rfl (by kernel_rfl) (by simp) (by simp [pure_bool, pure_int, pure_str, pure_fs, pure_fp, pure_fn, pure_agg, pure_tup, pure_nilS, pure_nilP, pure_natsP, pure_intsP, pure_strsP, pure_list, pure_cntsP]) ?_
  by_cases ha : validN a = true
  case neg => simp only [go_sem, gcdV, ha, errV]
  by_cases hb : validN b = true
  case neg => simp only [go_sem, gcdV, ha, hb, errV]
  have la := validN_len ha
  have lb := validN_len hb
  have hres : gcdV a b = .tup [.str (dec (Nat.gcd (valD a) (valD b))), .int .i64 0] := by simp only [gcdV, ha, hb, and_self, if_true]
  rw [hres]
  simp only [go_sem, ha, hb]
  have ea := validN_decD ha
  have eb := validN_decD hb
  generalize valD a = A at *
  generalize valD b = B at *
  subst ea eb
  refine AXs.loop mixed (hΓ) (noΔ_ok) (fun p : Nat × Nat => [(0, .str (dec p.1)), (1, .str (dec p.2))]) (fun _ => ⟨[], 0⟩) (fun p => (dec p.1).length ≤ 1000 ∧ (dec p.2).length ≤ 1000 ∧ Nat.gcd p.1 p.2 = Nat.gcd A B) (fun p => p.2) (A, B) (by kernel_rfl) ⟨la, lb, rfl⟩ (Sub.of0 [] rfl rfl ?_ ?_) ?_
  · simp only [go_sem]
  · simp only [go_sem]
  rintro ⟨x, y⟩ ⟨h1, h2, h3⟩
  dsimp only at h1 h2 h3 ⊢
  have hz : decide (dec y = [48]) = decide (y = 0) := by simp only [dec_is_zero]
  simp (disch := (first | assumption | omega | (simp only [push_cast] <;> omega))) only [go_sem]
  rw [hz]
  refine AXc.introN (fun h4 => ?_) (fun h4 => ?_)
  · have hy : 0 < y := by omega
    have hm := Nat.mod_lt x hy
    simp (disch := (first | assumption | omega | (simp only [push_cast] <;> omega))) only [go_sem]
    refine loopK_norm (y, x % y) ⟨h2, Nat.le_trans (dec_mono_len (Nat.le_of_lt hm)) h2, ?_⟩ hm (Sub.of0 [] rfl rfl ?_ ?_)
    · rw [← h3, Nat.gcd_comm x y, Nat.gcd_rec y x, Nat.gcd_comm]
    · simp only [go_sem]
    · simp only [go_sem]
  · simp only [go_sem]
    refine AXa.go mixed (hΓ) (noΔ_ok) (by kernel_rfl) ?_
    simp only [go_sem]
    rw [← h3, h4, Nat.gcd_zero_right]
noncomputable def cRGcd : List V → Option PR := conOf (fun p : List UInt8 × List UInt8 => [.str p.1, .str p.2]) (fun _ => True) (fun p => .ret (gcdV p.1 p.2))
theorem cRGcd_ok : ∀ args r, cRGcd args = some r → PCall Tryz.prog 72 args r := conOf_ok fun p _ => rGcd_ok p.1 p.2
theorem cRGcd_eq (a b : List UInt8) : cRGcd [.str a, .str b] = some (.ret (gcdV a b)) := conOf_eq (fun p q h => by simp at h; exact Prod.ext h.1 h.2) (a, b) trivial
theorem cRGcd_v {a b : List UInt8} (ha : validN a = true) (hb : validN b = true) : cRGcd [.str a, .str b] = some (.ret (.tup [.str (dec (Nat.gcd (valD a) (valD b))), .int .i64 0])) := by
  rw [cRGcd_eq, gcdV, if_pos ⟨ha, hb⟩]
theorem dec_one_eq {n : Nat} : decide (dec n = [49]) = decide (n = 1) := by
  have : dec n = [49] ↔ n = 1 := ⟨fun h => dec_inj (h.trans (show [49] = dec 1 from rfl)), fun h => by rw [h]; rfl⟩
  simp only [this]
end Go.Proofs

/- Rational numbers as texts: what is read, what is written. -/
namespace Go.Pl
def shortN (a : List UInt8) : Bool := validN a && decide (a.length ≤ 400)
def ratSplit (a : List UInt8) : Bool × List UInt8 × List UInt8 × Bool :=
  let neg := decide (a.getD 0 0 = 45)
  let r := if neg then a.drop 1 else a
  match r.findIdx? (· == 47) with
  | some i => (neg, r.take i, r.drop (i + 1), true)
  | none => (neg, r, [49], false)
def ratOK (neg : Bool) (n d : List UInt8) (fr : Bool) : Bool :=
  shortN n && shortN d && !(neg && decide (n = [48])) && !(fr && (decide (d = [48]) || decide (d = [49]))) && decide (Nat.gcd (valD n) (valD d) = 1)
def ratP (a : List UInt8) : Option (Bool × Nat × Nat) :=
  if ratOK (ratSplit a).1 (ratSplit a).2.1 (ratSplit a).2.2.1 (ratSplit a).2.2.2 = true then some ((ratSplit a).1, valD (ratSplit a).2.1, valD (ratSplit a).2.2.1) else none
theorem shortN_iff {a : List UInt8} : shortN a = true ↔ validN a = true ∧ a.length ≤ 400 := by simp [shortN]
theorem validN_decI {a : List UInt8} (h : validN a = true) : dec (valD a) = a := (validN_iff.1 h).1.1
theorem ratSplit_fr (a : List UInt8) : (ratSplit a).2.2.2 = true ∨ (ratSplit a).2.2.1 = [49] := by
  unfold ratSplit
  simp only
  split
  · exact .inl rfl
  · exact .inr rfl
theorem ratP_some {a : List UInt8} {s : Bool} {n d : Nat} (h : ratP a = some (s, n, d)) :
    0 < d ∧ Nat.gcd n d = 1 ∧ (dec n).length ≤ 400 ∧ (dec d).length ≤ 400 := by
  unfold ratP at h
  split at h
  case isFalse => cases h
  case isTrue hk =>
    simp only [Option.some.injEq, Prod.mk.injEq] at h
    obtain ⟨rfl, rfl, rfl⟩ := h
    simp only [ratOK, Bool.and_eq_true, decide_eq_true_eq] at hk
    obtain ⟨⟨⟨⟨h1, h2⟩, h3⟩, h4⟩, h5⟩ := hk
    have l1 := (shortN_iff.1 h1).2
    have l2 := (shortN_iff.1 h2).2
    refine ⟨?_, h5, by rw [validN_decI (shortN_iff.1 h1).1]; exact l1, by rw [validN_decI (shortN_iff.1 h2).1]; exact l2⟩
    rcases Nat.eq_zero_or_pos (valD (ratSplit a).2.2.1) with h0 | h0
    · exfalso
      rw [h0, Nat.gcd_zero_right] at h5
      have e := validN_decI (shortN_iff.1 h2).1
      rw [h0] at e
      have h6 : (ratSplit a).2.2.1 = [48] := by rw [← e]; rfl
      rcases ratSplit_fr a with h7 | h7
      · rw [h6, h7] at h4
        simp at h4
      · rw [h6] at h7
        cases h7
    · exact h0
def sumS (p : Bool) (a : Nat) (q : Bool) (b : Nat) : Bool × Nat := if p = q then (p, a + b) else if b ≤ a then (p, a - b) else (q, b - a)
end Go.Pl

/- Lengths of results. -/
namespace Go.Pl
theorem dec_mul_len {m n j k : Nat} (hm : (dec m).length ≤ j) (hn : (dec n).length ≤ k) : (dec (m * n)).length ≤ j + k := by
  have h1 := dec_len_lt hm
  have h2 := dec_len_lt hn
  have h3 := dec_pos m
  refine dec_lt_len ?_ (by omega)
  rw [Nat.pow_add]
  exact Nat.mul_lt_mul'' h1 h2
theorem dec_add_len {m n k : Nat} (hm : (dec m).length ≤ k) (hn : (dec n).length ≤ k) : (dec (m + n)).length ≤ k + 1 := by
  have h1 := dec_len_lt hm
  have h2 := dec_len_lt hn
  refine dec_lt_len ?_ (by omega)
  rw [Nat.pow_succ]
  generalize (10 : Nat) ^ k = p at *
  omega
theorem div_len {m n k : Nat} (h : (dec m).length ≤ k) : (dec (m / n)).length ≤ k := Nat.le_trans (dec_mono_len (Nat.div_le_self ..)) h
end Go.Pl

/- What the functions on numbers answer at decimal texts; what is asked of rational numbers. No program is walked here. -/
namespace Go.Proofs
open Go.Ab Go.Pl
theorem limV_ok {n : Nat} (h : (dec n).length ≤ 1000) : limV n = .tup [.str (dec n), .int .i64 0] := if_neg (by omega)
theorem mulV_dec {x y : Nat} (hx : (dec x).length ≤ 1000) (hy : (dec y).length ≤ 1000) (h : (dec (x * y)).length ≤ 1000) : mulV (dec x) (dec y) = .tup [.str (dec (x * y)), .int .i64 0] := by
  simp only [mulV, validN_dec' hx, validN_dec' hy, and_self, if_true, valD_dec, limV_ok h]
theorem addV_dec {x y : Nat} (hx : (dec x).length ≤ 1000) (hy : (dec y).length ≤ 1000) (h : (dec (x + y)).length ≤ 1000) : addV (dec x) (dec y) = .tup [.str (dec (x + y)), .int .i64 0] := by
  simp only [addV, validN_dec' hx, validN_dec' hy, and_self, if_true, valD_dec, limV_ok h]
theorem subV_dec {x y : Nat} (hx : (dec x).length ≤ 1000) (hy : (dec y).length ≤ 1000) (h : y ≤ x) : subV (dec x) (dec y) = .tup [.str (dec (x - y)), .int .i64 0] := by
  have : ¬ x < y := by omega
  simp only [subV, validN_dec' hx, validN_dec' hy, and_self, if_true, valD_dec, this, if_false]
theorem cmpV_dec {x y : Nat} (hx : (dec x).length ≤ 1000) (hy : (dec y).length ≤ 1000) : cmpV (dec x) (dec y) = cmpI x y := by
  simp only [cmpV, validN_dec' hx, validN_dec' hy, and_self, if_true, valD_dec]
def ratCmp (a b : List UInt8) : Int := match ratP a, ratP b with
  | some (p, m, d), some (q, n, f) => if (sumS p (m * f) (!q) (n * d)).2 = 0 then 0 else if (sumS p (m * f) (!q) (n * d)).1 = true then -1 else 1
  | _, _ => 0
theorem ratCmp_s {a b : List UInt8} {p q : Bool} {m d n f : Nat} (ha : ratP a = some (p, m, d)) (hb : ratP b = some (q, n, f)) : ratCmp a b = if (sumS p (m * f) (!q) (n * d)).2 = 0 then 0 else if (sumS p (m * f) (!q) (n * d)).1 = true then -1 else 1 := by
  unfold ratCmp
  generalize ratP a = x at *
  generalize ratP b = y at *
  subst ha hb
  rfl
theorem ratCmp_n1 {a : List UInt8} (b : List UInt8) (ha : ratP a = none) : ratCmp a b = 0 := by
  unfold ratCmp
  generalize ratP a = x at *
  subst ha
  rfl
theorem ratCmp_n2 (a : List UInt8) {b : List UInt8} (hb : ratP b = none) : ratCmp a b = 0 := by
  unfold ratCmp
  generalize ratP b = y at *
  subst hb
  cases ratP a <;> rfl
end Go.Proofs

/- nat.Div, nat.Gcd. -/
namespace Go.Proofs
open Go.Ab Go.Pl
noncomputable def cDivide : List V → Option PR := conOf (fun p : Nat × Nat => [.fs (nats .u64 (limbs p.1)) (limbs p.1).length, .fs (nats .u64 (limbs p.2)) (limbs p.2).length]) (fun p => (limbs p.1).length ≤ 500 ∧ (limbs p.2).length ≤ 500 ∧ p.2 ≠ 0) fun p => .ret (.tup [.fs (nats .u64 (limbs (p.1 / p.2))) (limbs (p.1 / p.2)).length, .fs (nats .u64 (limbs (p.1 % p.2))) (limbs (p.1 % p.2)).length])
theorem cDivide_eq (x y n m : Nat) (hn : n = (limbs x).length) (hm : m = (limbs y).length) (hx : (limbs x).length ≤ 500) (hy : (limbs y).length ≤ 500) (h0 : y ≠ 0) : cDivide [.fs (nats .u64 (limbs x)) n, .fs (nats .u64 (limbs y)) m] = some (.ret (.tup [.fs (nats .u64 (limbs (x / y))) (limbs (x / y)).length, .fs (nats .u64 (limbs (x % y))) (limbs (x % y)).length])) := by
  subst hn hm; exact conOf_eq (pat := fun p : Nat × Nat => [V.fs (nats .u64 (limbs p.1)) (limbs p.1).length, .fs (nats .u64 (limbs p.2)) (limbs p.2).length]) (fun _ _ h => two_inj h) (x, y) ⟨hx, hy, h0⟩
theorem cDivide_ok : ∀ args r, cDivide args = some r → PCall Tryz.prog 109 args r := conOf_ok fun p h => divide_ok p.1 p.2 h.1 h.2.1 h.2.2
attribute [go_sem] cDivide_eq
theorem limbs_k {n k j : Nat} (h : (dec n).length ≤ k) (hk : k ≤ 9 * j) : (limbs n).length ≤ j := by
  refine limbs_len ?_
  have h1 := dec_len_lt h
  have h2 : (1000000000 : Nat) ^ j = 10 ^ (9 * j) := by rw [show (1000000000 : Nat) = 10 ^ 9 from rfl, ← Nat.pow_mul]
  rw [h2]
  exact Nat.lt_of_lt_of_le h1 (Nat.pow_le_pow_right (by omega) hk)
theorem limbs500 {n : Nat} (h : (dec n).length ≤ 1000) : (limbs n).length ≤ 500 := limbs_k h (by omega)
set_option maxHeartbeats 4000000 in
theorem natDiv_ok (a b : List UInt8) : PCall Tryz.prog 157 [.str a, .str b] (.ret (divV a b)) := by
  refine PCall.walk (rs := [.tmp 4, .tmp 5, .tmp 6]) [0, 1, 4, 5, 6, 7, 8, 16, 18] [] mixed (extΓ_ok cValid_ok (extΓ_ok cBlocks_ok (extΓ_ok cDivide_ok (extΓ_ok (cText_ok textOK) noΓ_ok)))) (noΔ_ok) call157 Tryz.func157 rfl Tryz.ntmps157 rfl (by kernel_rfl) (by simp) (by simp [pure_bool, pure_int, pure_str, pure_fs, pure_fp, pure_fn, pure_agg, pure_tup, pure_nilS, pure_nilP, pure_natsP, pure_intsP, pure_strsP, pure_list, pure_cntsP]) ?_
  by_cases ha : validN a = true
  case neg => simp only [go_sem, divV, ha]
  by_cases hb : validN b = true
  case neg => simp only [go_sem, divV, ha, hb]
  have da := validN_dig ha
  have la := validN_len ha
  have db := validN_dig hb
  have lb := validN_len hb
  have eb := validN_decD hb
  have ba := limbs500 (n := valD a) (by rw [validN_decD ha]; exact la)
  have bb := limbs500 (n := valD b) (by rw [eb]; exact lb)
  have hz : decide (b = [48]) = decide (valD b = 0) := by
    have : b = [48] ↔ valD b = 0 := by rw [← dec_is_zero, eb]
    simp only [this]
  simp (disch := (first | assumption | omega | (simp only [push_cast] <;> omega))) only [go_sem, ha, hb]
  rw [hz]
  refine AXc.introP (fun hn => ?_) (fun hn => ?_)
  · simp only [go_sem, divV, ha, hb, hn]
  · have q1 := limbs500 (n := valD a / valD b) (div_len (by rw [validN_decD ha]; exact la))
    have q2 := limbs500 (n := valD a % valD b) (Nat.le_trans (dec_mono_len (Nat.mod_le ..)) (by rw [validN_decD ha]; exact la))
    have hn' : valD b ≠ 0 := hn
    have hres : divV a b = .tup [.str (dec (valD a / valD b)), .str (dec (valD a % valD b)), .int .i64 0] := by simp only [divV, ha, hb, and_self, if_true, hn, if_false]
    rw [hres]
    simp (disch := (first | assumption | omega | (simp only [push_cast] <;> omega))) only [go_sem]
set_option maxHeartbeats 4000000 in
theorem natGcd_ok (a b : List UInt8) : PCall Tryz.prog 84 [.str a, .str b] (.ret (gcdV a b)) := by
  have hΓ := extΓ_ok cValid_ok (extΓ_ok cBlocks_ok (extΓ_ok cDivide_ok (extΓ_ok (cText_ok textOK) noΓ_ok)))
  refine PCall.walk (rs := [.tmp 4, .tmp 5]) [0, 1, 4, 5, 6, 7, 9, 17, 24] [] mixed (hΓ) (noΔ_ok) call84 Tryz.func84 rfl Tryz.ntmps84 rfl (by kernel_rfl) (by simp) (by simp [pure_bool, pure_int, pure_str, pure_fs, pure_fp, pure_fn, pure_agg, pure_tup, pure_nilS, pure_nilP, pure_natsP, pure_intsP, pure_strsP, pure_list, pure_cntsP]) ?_
  by_cases ha : validN a = true
  case neg => simp only [go_sem, gcdV, ha, errV]
  by_cases hb : validN b = true
  case neg => simp only [go_sem, gcdV, ha, hb, errV]
  have da := validN_dig ha
  have la := validN_len ha
  have db := validN_dig hb
  have lb := validN_len hb
  have ba := limbs500 (n := valD a) (by rw [validN_decD ha]; exact la)
  have bb := limbs500 (n := valD b) (by rw [validN_decD hb]; exact lb)
  have hres : gcdV a b = .tup [.str (dec (Nat.gcd (valD a) (valD b))), .int .i64 0] := by simp only [gcdV, ha, hb, and_self, if_true]
  rw [hres]
  simp (disch := (first | assumption | omega | (simp only [push_cast] <;> omega))) only [go_sem, ha, hb]
  generalize valD a = A at *
  generalize valD b = B at *
  refine AXs.loop mixed (hΓ) (noΔ_ok) (fun p : Nat × Nat => [(6, .fs (nats .u64 (limbs p.1)) (limbs p.1).length), (7, .fs (nats .u64 (limbs p.2)) (limbs p.2).length)]) (fun _ => ⟨[], 0⟩) (fun p => (limbs p.1).length ≤ 500 ∧ (limbs p.2).length ≤ 500 ∧ Nat.gcd p.1 p.2 = Nat.gcd A B) (fun p => p.2) (A, B) (by kernel_rfl) ⟨ba, bb, rfl⟩ (Sub.of0 [] rfl rfl ?_ ?_) ?_
  · simp only [go_sem]
  · simp only [go_sem]
  rintro ⟨x, y⟩ ⟨h1, h2, h3⟩
  dsimp only at h1 h2 h3 ⊢
  simp (disch := (first | assumption | omega | (simp only [push_cast] <;> omega))) only [go_sem]
  refine AXc.introP (fun h4 => ?_) (fun h4 => ?_)
  · have hy : y ≠ 0 := fun e => by subst e; rw [limbs_zero] at h4; simp at h4
    have hm := Nat.mod_lt x (Nat.pos_of_ne_zero hy)
    simp (disch := (first | assumption | omega | (simp only [push_cast] <;> omega))) only [go_sem]
    refine loopK_norm (y, x % y) ⟨h2, ?_, ?_⟩ hm (Sub.of0 [] rfl rfl ?_ ?_)
    · refine Nat.le_trans (Nat.le_of_not_lt fun hlt => ?_) h2
      have := limbs_lt_of_len hlt
      omega
    · rw [← h3, Nat.gcd_comm x y, Nat.gcd_rec y x, Nat.gcd_comm]
    · simp only [go_sem]
    · simp only [go_sem]
  · have hy : y = 0 := limbs_nil.1 (List.eq_nil_of_length_eq_zero (by omega))
    simp (disch := (first | assumption | omega | (simp only [push_cast] <;> omega))) only [go_sem]
    refine AXa.go mixed (hΓ) (noΔ_ok) (by kernel_rfl) ?_
    simp (disch := (first | assumption | omega | (simp only [push_cast] <;> omega))) only [go_sem]
    rw [← h3, hy, Nat.gcd_zero_right]
end Go.Proofs

/- rat: must, quotient, plus, parse, Valid, Cmp. -/
namespace Go.Proofs
open Go.Ab Go.Pl
noncomputable def cNMul : List V → Option PR := conOf (fun p : Nat × Nat => [.str (dec p.1), .str (dec p.2)]) (fun p => (dec p.1).length ≤ 1000 ∧ (dec p.2).length ≤ 1000 ∧ (dec (p.1 * p.2)).length ≤ 1000) (fun p => .ret (.tup [.str (dec (p.1 * p.2)), .int .i64 0]))
theorem cNMul_ok : ∀ args r, cNMul args = some r → PCall Tryz.prog 58 args r := conOf_ok fun p h => by
  have := natMul_ok textOK (dec p.1) (dec p.2)
  rwa [mulV_dec h.1 h.2.1 h.2.2] at this
@[go_sem] theorem cNMul_eq (m n : Nat) (hm : (dec m).length ≤ 1000) (hn : (dec n).length ≤ 1000) (h : (dec (m * n)).length ≤ 1000) : cNMul [.str (dec m), .str (dec n)] = some (.ret (.tup [.str (dec (m * n)), .int .i64 0])) :=
  conOf_eq (pat := fun p : Nat × Nat => [V.str (dec p.1), .str (dec p.2)]) (fun x y h => by simp at h; exact Prod.ext (dec_inj h.1) (dec_inj h.2)) (m, n) ⟨hm, hn, h⟩
noncomputable def cNAdd : List V → Option PR := conOf (fun p : Nat × Nat => [.str (dec p.1), .str (dec p.2)]) (fun p => (dec p.1).length ≤ 1000 ∧ (dec p.2).length ≤ 1000 ∧ (dec (p.1 + p.2)).length ≤ 1000) (fun p => .ret (.tup [.str (dec (p.1 + p.2)), .int .i64 0]))
theorem cNAdd_ok : ∀ args r, cNAdd args = some r → PCall Tryz.prog 85 args r := conOf_ok fun p h => by
  have := natAdd_ok textOK (dec p.1) (dec p.2)
  rwa [addV_dec h.1 h.2.1 h.2.2] at this
@[go_sem] theorem cNAdd_eq (m n : Nat) (hm : (dec m).length ≤ 1000) (hn : (dec n).length ≤ 1000) (h : (dec (m + n)).length ≤ 1000) : cNAdd [.str (dec m), .str (dec n)] = some (.ret (.tup [.str (dec (m + n)), .int .i64 0])) :=
  conOf_eq (pat := fun p : Nat × Nat => [V.str (dec p.1), .str (dec p.2)]) (fun x y h => by simp at h; exact Prod.ext (dec_inj h.1) (dec_inj h.2)) (m, n) ⟨hm, hn, h⟩
noncomputable def cNSub : List V → Option PR := conOf (fun p : Nat × Nat => [.str (dec p.1), .str (dec p.2)]) (fun p => (dec p.1).length ≤ 1000 ∧ (dec p.2).length ≤ 1000 ∧ p.2 ≤ p.1) (fun p => .ret (.tup [.str (dec (p.1 - p.2)), .int .i64 0]))
theorem cNSub_ok : ∀ args r, cNSub args = some r → PCall Tryz.prog 87 args r := conOf_ok fun p h => by
  have := natSub_ok textOK (dec p.1) (dec p.2)
  rwa [subV_dec h.1 h.2.1 h.2.2] at this
@[go_sem] theorem cNSub_eq (m n : Nat) (hm : (dec m).length ≤ 1000) (hn : (dec n).length ≤ 1000) (h : n ≤ m) : cNSub [.str (dec m), .str (dec n)] = some (.ret (.tup [.str (dec (m - n)), .int .i64 0])) :=
  conOf_eq (pat := fun p : Nat × Nat => [V.str (dec p.1), .str (dec p.2)]) (fun x y h => by simp at h; exact Prod.ext (dec_inj h.1) (dec_inj h.2)) (m, n) ⟨hm, hn, h⟩
noncomputable def cNCmp : List V → Option PR := conOf (fun p : Nat × Nat => [.str (dec p.1), .str (dec p.2)]) (fun p => (dec p.1).length ≤ 1000 ∧ (dec p.2).length ≤ 1000) (fun p => .ret (.int .i64 (cmpI p.1 p.2)))
theorem cNCmp_ok : ∀ args r, cNCmp args = some r → PCall Tryz.prog 86 args r := conOf_ok fun p h => by
  have := natCmp_ok (dec p.1) (dec p.2)
  rwa [cmpV_dec h.1 h.2] at this
@[go_sem] theorem cNCmp_eq (m n : Nat) (hm : (dec m).length ≤ 1000) (hn : (dec n).length ≤ 1000) : cNCmp [.str (dec m), .str (dec n)] = some (.ret (.int .i64 (cmpI m n))) :=
  conOf_eq (pat := fun p : Nat × Nat => [V.str (dec p.1), .str (dec p.2)]) (fun x y h => by simp at h; exact Prod.ext (dec_inj h.1) (dec_inj h.2)) (m, n) ⟨hm, hn⟩
noncomputable def cNGcd : List V → Option PR := conOf (fun p : List UInt8 × List UInt8 => [.str p.1, .str p.2]) (fun _ => True) (fun p => .ret (gcdV p.1 p.2))
theorem cNGcd_ok : ∀ args r, cNGcd args = some r → PCall Tryz.prog 84 args r := conOf_ok fun p _ => natGcd_ok p.1 p.2
theorem cNGcd_v {a b : List UInt8} (ha : validN a = true) (hb : validN b = true) : cNGcd [.str a, .str b] = some (.ret (.tup [.str (dec (Nat.gcd (valD a) (valD b))), .int .i64 0])) := by
  have : cNGcd [.str a, .str b] = some (.ret (gcdV a b)) := conOf_eq (fun p q h => by simp at h; exact Prod.ext h.1 h.2) (a, b) trivial
  rw [this, gcdV, if_pos ⟨ha, hb⟩]
theorem must_ok (s : List UInt8) : PCall Tryz.prog 57 [.str s, .int .i64 0] (.ret (.str s)) := by
  refine PCall.walk (rs := [.tmp 4]) [0, 1, 4, 6] [] mixed (noΓ_ok) (noΔ_ok) call57 Tryz.func57 rfl Tryz.ntmps57 rfl (by kernel_rfl) (by simp) (by simp [pure_bool, pure_int, pure_str, pure_fs, pure_fp, pure_fn, pure_agg, pure_tup, pure_nilS, pure_nilP, pure_natsP, pure_intsP, pure_strsP, pure_list, pure_cntsP]) ?_
  simp only [go_sem]
noncomputable def cMust : List V → Option PR := conOf (fun s : List UInt8 => [.str s, .int .i64 0]) (fun _ => True) (fun s => .ret (.str s))
theorem cMust_ok : ∀ args r, cMust args = some r → PCall Tryz.prog 57 args r := conOf_ok fun s _ => must_ok s
@[go_sem] theorem cMust_eq (s : List UInt8) : cMust [.str s, .int .i64 0] = some (.ret (.str s)) := conOf_eq (pat := fun s : List UInt8 => [V.str s, .int .i64 0]) (fun x y h => by simpa using h) s trivial
set_option maxHeartbeats 4000000 in
theorem rplus_ok (p : Bool) (m : Nat) (q : Bool) (n : Nat) (hm : (dec m).length ≤ 800) (hn : (dec n).length ≤ 800) : PCall Tryz.prog 56 [.bool p, .str (dec m), .bool q, .str (dec n)] (.ret (.tup [.bool (sumS p m q n).1, .str (dec (sumS p m q n).2)])) := by
  have hΓ := extΓ_ok cNAdd_ok (extΓ_ok cNCmp_ok (extΓ_ok cNSub_ok (extΓ_ok cMust_ok noΓ_ok)))
  refine PCall.walk (rs := [.tmp 8, .tmp 9]) [0, 1, 2, 3, 8, 9, 12, 23] [] mixed (hΓ) (noΔ_ok) call56 Tryz.func56 rfl Tryz.ntmps56 rfl (by kernel_rfl) (by simp) (by simp [pure_bool, pure_int, pure_str, pure_fs, pure_fp, pure_fn, pure_agg, pure_tup, pure_nilS, pure_nilP, pure_natsP, pure_intsP, pure_strsP, pure_list, pure_cntsP]) ?_
  have ha := dec_add_len hm hn
  by_cases hpq : p = q
  · subst hpq
    simp (disch := (first | assumption | omega | (simp only [push_cast] <;> omega))) only [go_sem, sumS, decide_true, beq_self_eq_true]
  · have hpq' : (p == q) = false := by simpa using hpq
    simp (disch := (first | assumption | omega | (simp only [push_cast] <;> omega))) only [go_sem, hpq']
    refine AXc.introP (fun h1 => ?_) (fun h1 => ?_)
    · have h2 : ¬ n ≤ m := by
        rw [cmpI_nat] at h1
        split at h1
        · omega
        · split at h1 <;> omega
      simp (disch := (first | assumption | omega | (simp only [push_cast] <;> omega))) only [go_sem, sumS, hpq, h2]
    · have h2 : n ≤ m := by
        rw [cmpI_nat] at h1
        split at h1
        · omega
        · omega
      simp (disch := (first | assumption | omega | (simp only [push_cast] <;> omega))) only [go_sem, sumS, hpq, h2]
noncomputable def cNPlus : List V → Option PR := conOf (fun p : Bool × Nat × Bool × Nat => [.bool p.1, .str (dec p.2.1), .bool p.2.2.1, .str (dec p.2.2.2)]) (fun p => (dec p.2.1).length ≤ 800 ∧ (dec p.2.2.2).length ≤ 800) (fun p => .ret (.tup [.bool (sumS p.1 p.2.1 p.2.2.1 p.2.2.2).1, .str (dec (sumS p.1 p.2.1 p.2.2.1 p.2.2.2).2)]))
theorem cNPlus_ok : ∀ args r, cNPlus args = some r → PCall Tryz.prog 56 args r := conOf_ok fun p h => rplus_ok p.1 p.2.1 p.2.2.1 p.2.2.2 h.1 h.2
@[go_sem] theorem cNPlus_eq (p : Bool) (m : Nat) (q : Bool) (n : Nat) (hm : (dec m).length ≤ 800) (hn : (dec n).length ≤ 800) : cNPlus [.bool p, .str (dec m), .bool q, .str (dec n)] = some (.ret (.tup [.bool (sumS p m q n).1, .str (dec (sumS p m q n).2)])) :=
  conOf_eq (pat := fun p : Bool × Nat × Bool × Nat => [V.bool p.1, .str (dec p.2.1), .bool p.2.2.1, .str (dec p.2.2.2)]) (fun x y h => by
    obtain ⟨x1, x2, x3, x4⟩ := x
    obtain ⟨y1, y2, y3, y4⟩ := y
    simp at h
    obtain ⟨h1, h2, h3, h4⟩ := h
    rw [h1, dec_inj h2, h3, dec_inj h4]) (p, m, q, n) ⟨hm, hn⟩
end Go.Proofs
