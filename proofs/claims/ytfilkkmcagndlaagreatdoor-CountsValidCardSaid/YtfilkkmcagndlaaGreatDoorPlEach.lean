/- Sums, differences and products block by block; no program in sight. -/
import Derived.Test.YtfilkkmcagndlaaGreatDoorVM2
set_option linter.unusedSimpArgs false
set_option linter.unusedVariables false
set_option linter.all false
namespace Go.Pl
def eachR (F : Nat → Nat → Nat → Nat × Nat) (x y : List Nat) : Nat → List Nat × Nat
  | 0 => ([], 0)
  | i + 1 => ((eachR F x y i).1 ++ [(F (x.getD i 0) (y.getD i 0) (eachR F x y i).2).1], (F (x.getD i 0) (y.getD i 0) (eachR F x y i).2).2)
theorem eachR_len (F : Nat → Nat → Nat → Nat × Nat) (x y : List Nat) (i : Nat) : (eachR F x y i).1.length = i := by
  induction i with
  | zero => rfl
  | succ i ih => simp [eachR, ih]
def eachL (F : Nat → Nat → Nat → Nat × Nat) (x y : List Nat) : List Nat := trimL (eachR F x y (max x.length y.length + 1)).1
theorem take_valL (x : List Nat) (i : Nat) : valL (x.take (i + 1)) = valL (x.take i) + 1000000000 ^ i * x.getD i 0 := by
  by_cases h : i < x.length
  · rw [take_succ_getD x i 0 h, valL_append]
    have : (x.take i).length = i := by simp; omega
    rw [this]
    simp [valL]
  · rw [List.take_of_length_le (by omega), List.take_of_length_le (by omega), getD_ge _ _ _ (by omega), Nat.mul_zero, Nat.add_zero]
theorem getD_lt {l : List Nat} (h : okL l) (i : Nat) : l.getD i 0 < 1000000000 := by
  rw [List.getD_eq_getElem?_getD]
  by_cases hi : i < l.length
  · rw [List.getElem?_eq_getElem hi]; exact h _ (List.getElem_mem _)
  · rw [List.getElem?_eq_none (by omega)]; simp
theorem split_mul (p s : Nat) : p * (s % 1000000000) + p * 1000000000 * (s / 1000000000) = p * s := by
  rw [Nat.mul_assoc, ← Nat.mul_add, Nat.mod_add_div]
theorem snoc_val {l : List Nat} {i d : Nat} (h : l.length = i) : valL (l ++ [d]) = valL l + 1000000000 ^ i * d := by
  rw [valL_append, h]; simp [valL]
def plusF (a b c : Nat) : Nat × Nat := ((a + b + c) % 1000000000, (a + b + c) / 1000000000)
def minusF (a b c : Nat) : Nat × Nat := ((a + 1000000000 - b - c) % 1000000000, 1 - (a + 1000000000 - b - c) / 1000000000)
def scaleF (k : Nat) (a _b c : Nat) : Nat × Nat := ((a * k + c) % 1000000000, (a * k + c) / 1000000000)
theorem okL_each {F : Nat → Nat → Nat → Nat × Nat} {x y : List Nat} (hF : ∀ a b c, (F a b c).1 < 1000000000) (i : Nat) : okL (eachR F x y i).1 := by
  induction i with
  | zero => intro d hd; cases hd
  | succ i ih =>
    show okL (_ ++ [_])
    rw [okL_append]
    exact ⟨ih, fun d hd => by simp at hd; subst hd; exact hF _ _ _⟩
theorem plusF_ok (a b c : Nat) : (plusF a b c).1 < 1000000000 := Nat.mod_lt _ (by omega)
theorem minusF_ok (a b c : Nat) : (minusF a b c).1 < 1000000000 := Nat.mod_lt _ (by omega)
theorem scaleF_ok (k a b c : Nat) : (scaleF k a b c).1 < 1000000000 := Nat.mod_lt _ (by omega)
theorem plus_inv (x y : List Nat) (i : Nat) : valL (eachR plusF x y i).1 + 1000000000 ^ i * (eachR plusF x y i).2 = valL (x.take i) + valL (y.take i) := by
  induction i with
  | zero => simp [eachR, valL]
  | succ i ih =>
    rw [take_valL, take_valL]
    show valL (_ ++ [_]) + _ * (plusF _ _ _).2 = _
    rw [snoc_val (eachR_len plusF x y i)]
    show _ + _ * ((x.getD i 0 + y.getD i 0 + (eachR plusF x y i).2) % 1000000000) + _ * ((x.getD i 0 + y.getD i 0 + (eachR plusF x y i).2) / 1000000000) = _
    rw [Nat.pow_succ]
    generalize (1000000000 : Nat) ^ i = p at *
    have h := split_mul p (x.getD i 0 + y.getD i 0 + (eachR plusF x y i).2)
    generalize x.getD i 0 = a at *
    generalize y.getD i 0 = b at *
    generalize (eachR plusF x y i).2 = c at *
    rw [Nat.mul_add, Nat.mul_add] at h
    omega
theorem plus_val {x y : List Nat} (hx : okL x) (hy : okL y) : eachL plusF x y = limbs (valL x + valL y) := by
  unfold eachL
  generalize hN : max x.length y.length = N
  rw [trimL_eq (okL_each plusF_ok _)]
  have h := plus_inv x y (N + 1)
  rw [List.take_of_length_le (by omega), List.take_of_length_le (by omega)] at h
  have h1 := valL_lt hx
  have h2 := valL_lt hy
  have h3 : (1000000000 : Nat) ^ x.length ≤ 1000000000 ^ N := Nat.pow_le_pow_right (by omega) (by omega)
  have h4 : (1000000000 : Nat) ^ y.length ≤ 1000000000 ^ N := Nat.pow_le_pow_right (by omega) (by omega)
  rw [Nat.pow_succ] at h
  generalize (1000000000 : Nat) ^ N = p at *
  have h5 : (eachR plusF x y (N + 1)).2 = 0 := by
    rcases Nat.eq_zero_or_pos (eachR plusF x y (N + 1)).2 with h0 | h0
    · exact h0
    · have : p * 1000000000 * 1 ≤ p * 1000000000 * (eachR plusF x y (N + 1)).2 := Nat.mul_le_mul_left _ h0
      omega
  rw [h5, Nat.mul_zero, Nat.add_zero] at h
  rw [h]
theorem minus_carry (x y : List Nat) (i : Nat) : (eachR minusF x y i).2 ≤ 1 := by
  cases i with
  | zero => simp [eachR]
  | succ i => show (minusF _ _ _).2 ≤ 1; unfold minusF; omega
theorem minus_inv (x y : List Nat) (hx : okL x) (hy : okL y) (i : Nat) : valL (eachR minusF x y i).1 + valL (y.take i) = valL (x.take i) + 1000000000 ^ i * (eachR minusF x y i).2 := by
  induction i with
  | zero => simp [eachR, valL]
  | succ i ih =>
    rw [take_valL, take_valL]
    have hc := minus_carry x y i
    have ha := getD_lt hx i
    have hb := getD_lt hy i
    show valL (_ ++ [_]) + _ = _ + _ * (minusF _ _ _).2
    rw [snoc_val (eachR_len minusF x y i)]
    show _ + _ * ((x.getD i 0 + 1000000000 - y.getD i 0 - (eachR minusF x y i).2) % 1000000000) + _ = _ + _ * (1 - (x.getD i 0 + 1000000000 - y.getD i 0 - (eachR minusF x y i).2) / 1000000000)
    rw [Nat.pow_succ]
    generalize (1000000000 : Nat) ^ i = p at *
    generalize x.getD i 0 = a at *
    generalize y.getD i 0 = b at *
    generalize (eachR minusF x y i).2 = c at *
    by_cases h : a + 1000000000 - b - c < 1000000000
    · have e1 : (a + 1000000000 - b - c) % 1000000000 = a + 1000000000 - b - c := Nat.mod_eq_of_lt h
      have e2 : (a + 1000000000 - b - c) / 1000000000 = 0 := Nat.div_eq_of_lt h
      rw [e1, e2]
      have h2 : p * (a + 1000000000 - b - c) + p * b + p * c = p * a + p * 1000000000 := by
        rw [← Nat.mul_add, ← Nat.mul_add, ← Nat.mul_add]; congr 1; omega
      simp only [Nat.sub_zero, Nat.mul_one]
      omega
    · have e1 : (a + 1000000000 - b - c) % 1000000000 = a - b - c := by omega
      have e2 : (a + 1000000000 - b - c) / 1000000000 = 1 := by omega
      rw [e1, e2]
      have h2 : p * (a - b - c) + p * b + p * c = p * a := by
        rw [← Nat.mul_add, ← Nat.mul_add]; congr 1; omega
      simp only [Nat.sub_self, Nat.mul_zero]
      omega
theorem minus_val {x y : List Nat} (hx : okL x) (hy : okL y) (hle : valL y ≤ valL x) : eachL minusF x y = limbs (valL x - valL y) := by
  unfold eachL
  generalize hN : max x.length y.length = N
  rw [trimL_eq (okL_each minusF_ok _)]
  have h := minus_inv x y hx hy (N + 1)
  rw [List.take_of_length_le (by omega), List.take_of_length_le (by omega)] at h
  have h6 := valL_lt (okL_each (x := x) (y := y) minusF_ok (N + 1))
  rw [eachR_len] at h6
  have h7 := minus_carry x y (N + 1)
  generalize (1000000000 : Nat) ^ (N + 1) = p at *
  have h5 : (eachR minusF x y (N + 1)).2 = 0 := by
    rcases Nat.eq_zero_or_pos (eachR minusF x y (N + 1)).2 with h0 | h0
    · exact h0
    · have : (eachR minusF x y (N + 1)).2 = 1 := by omega
      rw [this, Nat.mul_one] at h
      omega
  rw [h5, Nat.mul_zero, Nat.add_zero] at h
  congr 1
  omega
theorem scale_carry {k : Nat} (hk : k < 1000000000) (x : List Nat) (hx : okL x) (y : List Nat) (i : Nat) : (eachR (scaleF k) x y i).2 < 1000000000 := by
  induction i with
  | zero => simp [eachR]
  | succ i ih =>
    have ha := getD_lt hx i
    have : x.getD i 0 * k ≤ 999999999 * 999999999 := Nat.mul_le_mul (by omega) (by omega)
    show (x.getD i 0 * k + (eachR (scaleF k) x y i).2) / 1000000000 < 1000000000
    generalize x.getD i 0 * k = q at *
    omega
theorem scale_inv (k : Nat) (x y : List Nat) (i : Nat) : valL (eachR (scaleF k) x y i).1 + 1000000000 ^ i * (eachR (scaleF k) x y i).2 = valL (x.take i) * k := by
  induction i with
  | zero => simp [eachR, valL]
  | succ i ih =>
    rw [take_valL]
    show valL ((eachR (scaleF k) x y i).1 ++ [(scaleF k (x.getD i 0) (y.getD i 0) (eachR (scaleF k) x y i).2).1]) + _ * (scaleF k (x.getD i 0) (y.getD i 0) (eachR (scaleF k) x y i).2).2 = _
    rw [snoc_val (eachR_len (scaleF k) x y i)]
    show _ + _ * ((x.getD i 0 * k + (eachR (scaleF k) x y i).2) % 1000000000) + _ * ((x.getD i 0 * k + (eachR (scaleF k) x y i).2) / 1000000000) = _
    rw [Nat.pow_succ, Nat.add_mul]
    generalize (1000000000 : Nat) ^ i = p at *
    have h := split_mul p (x.getD i 0 * k + (eachR (scaleF k) x y i).2)
    rw [Nat.mul_add, ← Nat.mul_assoc] at h
    generalize p * x.getD i 0 * k = q at *
    omega
theorem scale_val {k : Nat} {x : List Nat} (hk : k < 1000000000) (hx : okL x) : eachL (scaleF k) x [] = limbs (valL x * k) := by
  unfold eachL
  generalize hN : max x.length ([] : List Nat).length = N
  have hN' : x.length ≤ N := by omega
  rw [trimL_eq (okL_each (scaleF_ok k) _)]
  have h := scale_inv k x [] (N + 1)
  rw [List.take_of_length_le (by omega)] at h
  have h1 := valL_lt hx
  have h3 : (1000000000 : Nat) ^ x.length ≤ 1000000000 ^ N := Nat.pow_le_pow_right (by omega) (by omega)
  have h5 : (eachR (scaleF k) x [] (N + 1)).2 = 0 := by
    rcases Nat.eq_zero_or_pos (eachR (scaleF k) x [] (N + 1)).2 with h0 | h0
    · exact h0
    · exfalso
      have h8 : valL x * k < 1000000000 ^ (N + 1) := by
        rw [Nat.pow_succ]
        exact Nat.lt_of_lt_of_le (Nat.mul_lt_mul_of_lt_of_le (Nat.lt_of_lt_of_le h1 h3) (Nat.le_of_lt hk) (by omega)) (Nat.le_refl _)
      have h9 : 1000000000 ^ (N + 1) * 1 ≤ 1000000000 ^ (N + 1) * (eachR (scaleF k) x [] (N + 1)).2 := Nat.mul_le_mul_left _ h0
      generalize (1000000000 : Nat) ^ (N + 1) = p at *
      omega
  rw [h5, Nat.mul_zero, Nat.add_zero] at h
  rw [h]
theorem limbs_lt_of_len {x y : Nat} (h : (limbs x).length < (limbs y).length) : x < y := by
  rcases Nat.lt_or_ge x y with h1 | h1
  · exact h1
  · have h2 := valL_lt (okL_limbs x)
    rw [valL_limbs] at h2
    have := limbs_len (Nat.lt_of_le_of_lt h1 h2)
    omega
theorem valL_split (l : List Nat) (k : Nat) (hk : k < l.length) : valL l = valL (l.take k) + 1000000000 ^ k * (l.getD k 0 + 1000000000 * valL (l.drop (k + 1))) := by
  have e : l = l.take k ++ (l.getD k 0 :: l.drop (k + 1)) := by
    conv => lhs; rw [← List.take_append_drop k l]
    congr 1
    rw [List.drop_eq_getElem_cons hk, List.getD_eq_getElem?_getD, List.getElem?_eq_getElem hk]; rfl
  have h : (l.take k).length = k := by simp; omega
  conv => lhs; rw [e]
  rw [valL_append, h, valL]
theorem valL_lt_at {l r : List Nat} {k : Nat} (ho : okL l) (hlen : l.length = r.length) (hk : k < l.length) (hd : ∀ j, k < j → l.getD j 0 = r.getD j 0) (h : l.getD k 0 < r.getD k 0) : valL l < valL r := by
  have e : l.drop (k + 1) = r.drop (k + 1) := by
    apply List.ext_getElem?
    intro i
    rw [List.getElem?_drop, List.getElem?_drop]
    have := hd (k + 1 + i) (by omega)
    rw [List.getD_eq_getElem?_getD, List.getD_eq_getElem?_getD] at this
    by_cases hi : k + 1 + i < l.length
    · rw [List.getElem?_eq_getElem hi, List.getElem?_eq_getElem (by omega)] at this ⊢
      simpa using this
    · rw [List.getElem?_eq_none (by omega), List.getElem?_eq_none (by omega)]
  rw [valL_split l k hk, valL_split r k (by omega), e]
  have h1 : valL (l.take k) < 1000000000 ^ k := by
    have := valL_lt (l := l.take k) (fun d hd => ho d (List.mem_of_mem_take hd))
    have h2 : (l.take k).length = k := by simp; omega
    rwa [h2] at this
  generalize (1000000000 : Nat) ^ k = p at *
  generalize valL (r.drop (k + 1)) = q at *
  have h3 : p * (l.getD k 0 + 1000000000 * q) + p ≤ p * (r.getD k 0 + 1000000000 * q) := by
    rw [← Nat.mul_succ]; exact Nat.mul_le_mul_left _ (by omega)
  omega
theorem eq_of_all {l r : List Nat} (hlen : l.length = r.length) (hd : ∀ j, l.getD j 0 = r.getD j 0) : l = r := by
  apply List.ext_getElem?
  intro i
  have := hd i
  rw [List.getD_eq_getElem?_getD, List.getD_eq_getElem?_getD] at this
  by_cases hi : i < l.length
  · rw [List.getElem?_eq_getElem hi, List.getElem?_eq_getElem (by omega)] at this ⊢
    simpa using this
  · rw [List.getElem?_eq_none (by omega), List.getElem?_eq_none (by omega)]
theorem limbs_le {n k : Nat} (h : n < 10 ^ k) : (limbs n).length ≤ k := limbs_len (Nat.lt_of_lt_of_le h (Nat.pow_le_pow_left (by omega) k))
theorem limbs_valD {a : List UInt8} {k : Nat} (hd : a.all isDig = true) (hl : a.length ≤ k) : (limbs (valD a)).length ≤ k :=
  limbs_le (Nat.lt_of_lt_of_le (valD_lt hd) (Nat.pow_le_pow_right (by omega) hl))
theorem limbs_add {x y k : Nat} (hx : (limbs x).length ≤ k) (hy : (limbs y).length ≤ k) : (limbs (x + y)).length ≤ k + 1 := by
  apply limbs_len
  have h1 := valL_lt (okL_limbs x)
  have h2 := valL_lt (okL_limbs y)
  rw [valL_limbs] at h1 h2
  have h3 : (1000000000 : Nat) ^ (limbs x).length ≤ 1000000000 ^ k := Nat.pow_le_pow_right (by omega) hx
  have h4 : (1000000000 : Nat) ^ (limbs y).length ≤ 1000000000 ^ k := Nat.pow_le_pow_right (by omega) hy
  rw [Nat.pow_succ]
  generalize (1000000000 : Nat) ^ k = p at *
  omega
theorem limbs_sub {x y k : Nat} (hx : (limbs x).length ≤ k) : (limbs (x - y)).length ≤ k := by
  apply limbs_len
  have h1 := valL_lt (okL_limbs x)
  rw [valL_limbs] at h1
  have h3 : (1000000000 : Nat) ^ (limbs x).length ≤ 1000000000 ^ k := Nat.pow_le_pow_right (by omega) hx
  omega
theorem limbs_mul {x y j k : Nat} (hx : (limbs x).length ≤ j) (hy : (limbs y).length ≤ k) : (limbs (x * y)).length ≤ j + k := by
  apply limbs_len
  have h1 := valL_lt (okL_limbs x)
  have h2 := valL_lt (okL_limbs y)
  rw [valL_limbs] at h1 h2
  have h3 : (1000000000 : Nat) ^ (limbs x).length ≤ 1000000000 ^ j := Nat.pow_le_pow_right (by omega) hx
  have h4 : (1000000000 : Nat) ^ (limbs y).length ≤ 1000000000 ^ k := Nat.pow_le_pow_right (by omega) hy
  rw [Nat.pow_add]
  exact Nat.mul_lt_mul_of_lt_of_le (Nat.lt_of_lt_of_le h1 h3) (Nat.le_of_lt (Nat.lt_of_lt_of_le h2 h4)) (Nat.pow_pos (by omega))
end Go.Pl

namespace Go.Proofs
open Go.Ab Go.Pl
def cmpI (a b : Int) : Int := if a < b then -1 else if b < a then 1 else 0
theorem isNaN64_ok (a : Nat) : PCall Tryz.prog 177 [.int .u64 a] (.ret (.bool false)) := by
  refine PCall.walk (rs := [.tmp 2]) [0, 2] [] mixed (noΓ_ok) (noΔ_ok) call177 Tryz.func177 rfl Tryz.ntmps177 rfl (by kernel_rfl) (by simp) (by simp [pure_bool, pure_int, pure_str, pure_fs, pure_fp, pure_fn, pure_agg, pure_tup, pure_nilS, pure_nilP, pure_natsP, pure_intsP, pure_strsP, pure_list, pure_cntsP]) ?_
  simp only [go_sem]
noncomputable def cIsNaN64 : List V → Option PR := conOf (fun a : Nat => [.int .u64 a]) (fun _ => True) fun _ => .ret (.bool false)
theorem cIsNaN64_eq (a : Nat) : cIsNaN64 [.int .u64 a] = some (.ret (.bool false)) := conOf_eq (pat := fun a : Nat => [.int .u64 a]) (fun x y h => by simp at h; omega) a trivial
theorem cIsNaN64_ok : ∀ args r, cIsNaN64 args = some r → PCall Tryz.prog 177 args r := conOf_ok fun a _ => isNaN64_ok a
attribute [go_sem] cIsNaN64_eq
theorem compare64_ok (a b : Nat) : PCall Tryz.prog 148 [.int .u64 a, .int .u64 b] (.ret (.int .i64 (cmpI a b))) := by
  refine PCall.walk (rs := [.tmp 4]) [0, 1, 4, 5, 6, 11, 12, 13, 16, 19] [] mixed (extΓ_ok cIsNaN64_ok noΓ_ok) (noΔ_ok) call148 Tryz.func148 rfl Tryz.ntmps148 rfl (by kernel_rfl) (by simp) (by simp [pure_bool, pure_int, pure_str, pure_fs, pure_fp, pure_fn, pure_agg, pure_tup, pure_nilS, pure_nilP, pure_natsP, pure_intsP, pure_strsP, pure_list, pure_cntsP]) ?_
  simp only [go_sem]
  refine AXc.introP (fun h1 => ?_) (fun h1 => ?_)
  · simp only [go_sem]
    simp [cmpI, h1]
  · simp only [go_sem]
    refine AXc.introP (fun h2 => ?_) (fun h2 => ?_)
    · simp only [go_sem]
      simp [cmpI, h1, h2]
    · simp only [go_sem]
      simp [cmpI, h1, h2]
noncomputable def cCompare64 : List V → Option PR := conOf (fun p : Nat × Nat => [.int .u64 p.1, .int .u64 p.2]) (fun _ => True) fun p => .ret (.int .i64 (cmpI p.1 p.2))
theorem cCompare64_eq (a b : Nat) : cCompare64 [.int .u64 a, .int .u64 b] = some (.ret (.int .i64 (cmpI a b))) := conOf_eq (pat := fun p : Nat × Nat => [.int .u64 p.1, .int .u64 p.2]) (fun x y h => by simp at h; exact Prod.ext (by omega) (by omega)) (a, b) trivial
theorem cCompare64_ok : ∀ args r, cCompare64 args = some r → PCall Tryz.prog 148 args r := conOf_ok fun p _ => compare64_ok p.1 p.2
attribute [go_sem] cCompare64_eq
theorem isNaNi_ok (a : Int) : PCall Tryz.prog 176 [.int .i64 a] (.ret (.bool false)) := by
  refine PCall.walk (rs := [.tmp 2]) [0, 2] [] mixed (noΓ_ok) (noΔ_ok) call176 Tryz.func176 rfl Tryz.ntmps176 rfl (by kernel_rfl) (by simp) (by simp [pure_bool, pure_int, pure_str, pure_fs, pure_fp, pure_fn, pure_agg, pure_tup, pure_nilS, pure_nilP, pure_natsP, pure_intsP, pure_strsP, pure_list, pure_cntsP]) ?_
  simp only [go_sem]
noncomputable def cIsNaNi : List V → Option PR := conOf (fun a : Int => [.int .i64 a]) (fun _ => True) fun _ => .ret (.bool false)
theorem cIsNaNi_eq (a : Int) : cIsNaNi [.int .i64 a] = some (.ret (.bool false)) := conOf_eq (pat := fun a : Int => [.int .i64 a]) (fun x y h => by simpa using h) a trivial
theorem cIsNaNi_ok : ∀ args r, cIsNaNi args = some r → PCall Tryz.prog 176 args r := conOf_ok fun a _ => isNaNi_ok a
attribute [go_sem] cIsNaNi_eq
theorem comparei_ok (a b : Int) : PCall Tryz.prog 147 [.int .i64 a, .int .i64 b] (.ret (.int .i64 (cmpI a b))) := by
  refine PCall.walk (rs := [.tmp 4]) [0, 1, 4, 5, 6, 11, 12, 13, 16, 19] [] mixed (extΓ_ok cIsNaNi_ok noΓ_ok) (noΔ_ok) call147 Tryz.func147 rfl Tryz.ntmps147 rfl (by kernel_rfl) (by simp) (by simp [pure_bool, pure_int, pure_str, pure_fs, pure_fp, pure_fn, pure_agg, pure_tup, pure_nilS, pure_nilP, pure_natsP, pure_intsP, pure_strsP, pure_list, pure_cntsP]) ?_
  simp only [go_sem]
  refine AXc.introP (fun h1 => ?_) (fun h1 => ?_)
  · simp only [go_sem]
    simp [cmpI, h1]
  · simp only [go_sem]
    refine AXc.introP (fun h2 => ?_) (fun h2 => ?_)
    · simp only [go_sem]
      simp [cmpI, h1, h2]
    · simp only [go_sem]
      simp [cmpI, h1, h2]
noncomputable def cComparei : List V → Option PR := conOf (fun p : Int × Int => [.int .i64 p.1, .int .i64 p.2]) (fun _ => True) fun p => .ret (.int .i64 (cmpI p.1 p.2))
theorem cComparei_eq (a b : Int) : cComparei [.int .i64 a, .int .i64 b] = some (.ret (.int .i64 (cmpI a b))) := conOf_eq (pat := fun p : Int × Int => [.int .i64 p.1, .int .i64 p.2]) (fun x y h => by simp at h; exact Prod.ext h.1 h.2) (a, b) trivial
theorem cComparei_ok : ∀ args r, cComparei args = some r → PCall Tryz.prog 147 args r := conOf_ok fun p _ => comparei_ok p.1 p.2
attribute [go_sem] cComparei_eq
theorem plus1_ok (a b c : Nat) (ha : a < 1000000000) (hb : b < 1000000000) (hc : c ≤ 1) : PCall Tryz.prog 146 [.int .u64 a, .int .u64 b, .int .u64 c] (.ret (.tup [.int .u64 ((a + b + c) % 1000000000 : Nat), .int .u64 ((a + b + c) / 1000000000 : Nat)])) := by
  refine PCall.walk (rs := [.tmp 6, .tmp 7]) [0, 1, 2, 6, 7, 8] [] mixed (noΓ_ok) (noΔ_ok) call146 Tryz.func146 rfl Tryz.ntmps146 rfl (by kernel_rfl) (by simp) (by simp [pure_bool, pure_int, pure_str, pure_fs, pure_fp, pure_fn, pure_agg, pure_tup, pure_nilS, pure_nilP, pure_natsP, pure_intsP, pure_strsP, pure_list, pure_cntsP]) ?_
  simp (disch := (first | assumption | omega | (simp only [push_cast] <;> omega))) only [go_sem]
  omega
theorem minus1_ok (a b c : Nat) (ha : a < 1000000000) (hb : b < 1000000000) (hc : c ≤ 1) : PCall Tryz.prog 149 [.int .u64 a, .int .u64 b, .int .u64 c] (.ret (.tup [.int .u64 ((a + 1000000000 - b - c) % 1000000000 : Nat), .int .u64 (1 - (a + 1000000000 - b - c) / 1000000000 : Nat)])) := by
  refine PCall.walk (rs := [.tmp 6, .tmp 7]) [0, 1, 2, 6, 7, 8] [] mixed (noΓ_ok) (noΔ_ok) call149 Tryz.func149 rfl Tryz.ntmps149 rfl (by kernel_rfl) (by simp) (by simp [pure_bool, pure_int, pure_str, pure_fs, pure_fp, pure_fn, pure_agg, pure_tup, pure_nilS, pure_nilP, pure_natsP, pure_intsP, pure_strsP, pure_list, pure_cntsP]) ?_
  simp (disch := (first | assumption | omega | (simp only [push_cast] <;> omega))) only [go_sem]
  omega
theorem scaled1_ok (a b c k : Nat) (ha : a < 1000000000) (hk : k < 1000000000) (hc : c < 1000000000) : PCall Tryz.prog 169 [.int .u64 a, .int .u64 b, .int .u64 c, .fp [.int .u64 k]] (.ret (.tup [.int .u64 ((a * k + c) % 1000000000 : Nat), .int .u64 ((a * k + c) / 1000000000 : Nat)])) := by
  refine PCall.walk (rs := [.tmp 7, .tmp 8]) [0, 2, 3, 7, 8, 9] [] mixed (noΓ_ok) (noΔ_ok) call169 Tryz.func169 rfl Tryz.ntmps169 rfl (by kernel_rfl) (by simp) (by simp [pure_bool, pure_int, pure_str, pure_fs, pure_fp, pure_fn, pure_agg, pure_tup, pure_nilS, pure_nilP, pure_natsP, pure_intsP, pure_strsP, pure_list, pure_cntsP]) ?_
  have hm : (a : Int) * (k : Int) = ((a * k : Nat) : Int) := by simp
  have hb : a * k ≤ 999999999 * 999999999 := Nat.mul_le_mul (by omega) (by omega)
  generalize a * k = p at *
  simp (disch := (first | assumption | omega | (simp only [push_cast] <;> omega))) only [go_sem, hm]
  omega
set_option maxHeartbeats 4000000 in
theorem each_ok (Γ0 : FuncId → List V → Option PR) (hΓ0 : GoodΓ Tryz.prog Γ0) (fid : FuncId) (caps : List V) (hfid : (fid == 90) = false) (hcaps : nzs caps = caps) (hrefs : lendR caps = []) (hpure : ∀ x ∈ caps, Pure x) (F : Nat → Nat → Nat → Nat × Nat) (Q : Nat → Prop) (hQ0 : Q 0)
    (hF : ∀ a b c : Nat, a < 1000000000 → b < 1000000000 → Q c → Γ0 fid (.int .u64 a :: .int .u64 b :: .int .u64 c :: caps) = some (.ret (.tup [.int .u64 (F a b c).1, .int .u64 (F a b c).2])) ∧ Q (F a b c).2)
    (x y : List Nat) (hx : okL x) (hy : okL y) (hlx : x.length ≤ 1000) (hly : y.length ≤ 1000) :
    PCall Tryz.prog 145 [.fs (nats .u64 x) x.length, .fs (nats .u64 y) y.length, .fn fid caps] (.ret (.fs (nats .u64 (eachL F x y)) (eachL F x y).length)) := by
  have getlt : ∀ {l : List Nat}, okL l → ∀ i, l.getD i 0 < 1000000000 := fun {l} h i => by
    rw [List.getD_eq_getElem?_getD]
    by_cases hi : i < l.length
    · rw [List.getElem?_eq_getElem hi]; exact h _ (List.getElem_mem _)
    · rw [List.getElem?_eq_none (by omega)]; simp
  have hpureP : (∀ x ∈ caps, Ab.Pure x) ↔ True := ⟨fun _ => trivial, fun _ => hpure⟩
  refine PCall.walk (rs := [.tmp 6]) [0, 1, 2, 6, 7, 8, 9, 10, 11, 12, 18, 19, 20, 25, 33] [] mixed (extΓ_ok cTrim_ok hΓ0) (noΔ_ok) call145 Tryz.func145 rfl Tryz.ntmps145 rfl (by kernel_rfl) (by simp) (by simp [pure_bool, pure_int, pure_str, pure_fs, pure_fp, pure_fn, pure_agg, pure_tup, pure_nilS, pure_nilP, pure_natsP, pure_intsP, pure_strsP, pure_list, pure_cntsP, hpureP]) ?_
  have hmx : maxI (x.length : Int) (y.length : Int) = ((max x.length y.length : Nat) : Int) := by unfold maxI; split <;> omega
  have hmb : max x.length y.length ≤ 1000 := by omega
  generalize hN : max x.length y.length = N at *
  simp (disch := (first | assumption | omega | (simp only [push_cast] <;> omega))) only [go_sem, hmx]
  have hQ : ∀ i, Q (eachR F x y i).2 := by
    intro i
    induction i with
    | zero => exact hQ0
    | succ i ih => exact (hF _ _ _ (getlt hx i) (getlt hy i) ih).2
  refine AXs.loop mixed (extΓ_ok cTrim_ok hΓ0) (noΔ_ok) (fun i : Nat => [(0, .fs (nats .u64 x) x.length), (1, .fs (nats .u64 y) y.length), (2, .fn fid caps), (7, bkV (eachR F x y i).1), (8, .int .u64 (eachR F x y i).2), (18, .int .i64 (N + 1 : Int)), (19, .int .i64 i)])
    (fun i => ⟨bkBs (eachR F x y i).1, bkN (eachR F x y i).1⟩) (fun i => i ≤ N + 1) (fun i => N + 1 - i) 0 (by kernel_rfl) (Nat.zero_le _) (Sub.of0 [] rfl rfl ?_ ?_) ?_
  · simp only [go_sem, eachR, bkV]
    simpa using lrel_same hpure
  · simp only [go_sem, eachR, bkBs]
  intro i hi
  simp (disch := (first | assumption | omega | (simp only [push_cast] <;> omega))) only [go_sem]
  refine AXc.introP (fun h1 => ?_) (fun h1 => ?_)
  · have hFi := (hF (x.getD i 0) (y.getD i 0) (eachR F x y i).2 (getlt hx i) (getlt hy i) (hQ i)).1
    have hsucc : eachR F x y (i + 1) = ((eachR F x y i).1 ++ [(F (x.getD i 0) (y.getD i 0) (eachR F x y i).2).1], (F (x.getD i 0) (y.getD i 0) (eachR F x y i).2).2) := rfl
    have hlen := eachR_len F x y i
    generalize F (x.getD i 0) (y.getD i 0) (eachR F x y i).2 = r at hFi hsucc
    generalize eachR F x y i = q at *
    obtain ⟨q1, q2⟩ := q
    dsimp only at hFi hsucc hlen ⊢
    have zx : ¬ (i : Int) < x.length → x.getD i 0 = 0 := fun h => getD_ge _ _ _ (by omega)
    have zy : ¬ (i : Int) < y.length → y.getD i 0 = 0 := fun h => getD_ge _ _ _ (by omega)
    by_cases c1 : (i : Int) < x.length <;> by_cases c2 : (i : Int) < y.length
    all_goals
      try rw [zx c1] at hFi
      try rw [zy c2] at hFi
      try simp only [Int.natCast_zero] at hFi
      rcases q1 with _ | ⟨d, l⟩
      · simp (disch := (first | assumption | omega | (simp only [push_cast] <;> omega))) only [go_sem, bkV, bkBs, bkN, c1, c2, hfid, hcaps, hrefs, hFi]
        repeat refine And.intro (by omega) ?_
        refine loopK_norm (i + 1) (by omega) (by omega) (Sub.of0 [(0, 1)] rfl (by rw [hsucc]; rfl) ?_ ?_)
        · rw [hsucc]
          simp only [go_sem, bkV, bkBs, bkN]
          simpa using lrel_same hpure
        · rw [hsucc]
          simp only [go_sem, bkV, bkBs, bkN]
          simp [nats]
      · have hll : l.length + 1 = i := hlen
        simp (disch := (first | assumption | omega | (simp only [push_cast] <;> omega))) only [go_sem, bkV, bkBs, bkN, c1, c2, hfid, hcaps, hrefs, hFi]
        repeat refine And.intro (by omega) ?_
        refine loopK_norm (i + 1) (by omega) (by omega) (Sub.of0 [(0, 2)] rfl (by rw [hsucc]; rfl) ?_ ?_)
        · rw [hsucc]
          simp only [go_sem, bkV, bkBs, bkN]
          simpa using lrel_same hpure
        · rw [hsucc]
          simp only [go_sem, bkV, bkBs, bkN]
          simp [nats]
  · have hie : i = N + 1 := by omega
    subst hie
    have hlen := eachR_len F x y (N + 1)
    have he : eachL F x y = trimL (eachR F x y (N + 1)).1 := by unfold eachL; rw [hN]
    rw [he]
    generalize eachR F x y (N + 1) = q at *
    obtain ⟨q1, q2⟩ := q
    dsimp only at hlen ⊢
    rcases q1 with _ | ⟨d, l⟩
    · simp at hlen
    · have hll : l.length + 1 = N + 1 := hlen
      simp only [go_sem, bkV, bkBs, bkN]
      refine AXa.fz [0] rfl rfl rfl (env' := [(7, .fs (nats .u64 (d :: l)) (d :: l).length)]) (bs' := []) (n' := 1) ?_ ?_ ?_
      · simp only [go_sem]
        right
        exact FrzF.slp (by simp) rfl rfl (by simp [len_nats]) (by simp [take_nats]) (pure_nats _ _)
      · simp only [go_sem]
      refine AXa.go mixed (extΓ_ok cTrim_ok hΓ0) (noΔ_ok) (by kernel_rfl) ?_
      simp (disch := (first | assumption | omega | (simp only [push_cast] <;> omega))) only [go_sem]
end Go.Proofs
