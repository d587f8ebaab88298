/- The reference's rational numbers: products and sums of integers. -/
import Derived.Test.YtfilkkmcagndlaaGreatDoorF3a
import Derived.Test.YtfilkkmcagndlaaGreatDoorF2h
set_option linter.unusedSimpArgs false
set_option linter.unusedVariables false
set_option linter.all false
namespace Go.Proofs
open Go.Ab Go.Pl
noncomputable def cR2Mul : List V → Option PR := conOf (fun p : Nat × Nat => [.str (dec p.1), .str (dec p.2)]) (fun p => (dec p.1).length ≤ 1000 ∧ (dec p.2).length ≤ 1000 ∧ (dec (p.1 * p.2)).length ≤ 1000) (fun p => .ret (.tup [.str (dec (p.1 * p.2)), .int .i64 0]))
theorem cR2Mul_ok : ∀ args r, cR2Mul args = some r → PCall Tryz.prog 76 args r := conOf_ok fun p h => by
  have := rMul_ok (dec p.1) (dec p.2)
  rwa [mulV_dec h.1 h.2.1 h.2.2] at this
@[go_sem] theorem cR2Mul_eq (m n : Nat) (hm : (dec m).length ≤ 1000) (hn : (dec n).length ≤ 1000) (h : (dec (m * n)).length ≤ 1000) : cR2Mul [.str (dec m), .str (dec n)] = some (.ret (.tup [.str (dec (m * n)), .int .i64 0])) :=
  conOf_eq (pat := fun p : Nat × Nat => [V.str (dec p.1), .str (dec p.2)]) (fun x y h => by simp at h; exact Prod.ext (dec_inj h.1) (dec_inj h.2)) (m, n) ⟨hm, hn, h⟩
noncomputable def cR2Add : List V → Option PR := conOf (fun p : Nat × Nat => [.str (dec p.1), .str (dec p.2)]) (fun p => (dec p.1).length ≤ 1000 ∧ (dec p.2).length ≤ 1000 ∧ (dec (p.1 + p.2)).length ≤ 1000) (fun p => .ret (.tup [.str (dec (p.1 + p.2)), .int .i64 0]))
theorem cR2Add_ok : ∀ args r, cR2Add args = some r → PCall Tryz.prog 73 args r := conOf_ok fun p h => by
  have := rAdd_ok (dec p.1) (dec p.2)
  rwa [addV_dec h.1 h.2.1 h.2.2] at this
@[go_sem] theorem cR2Add_eq (m n : Nat) (hm : (dec m).length ≤ 1000) (hn : (dec n).length ≤ 1000) (h : (dec (m + n)).length ≤ 1000) : cR2Add [.str (dec m), .str (dec n)] = some (.ret (.tup [.str (dec (m + n)), .int .i64 0])) :=
  conOf_eq (pat := fun p : Nat × Nat => [V.str (dec p.1), .str (dec p.2)]) (fun x y h => by simp at h; exact Prod.ext (dec_inj h.1) (dec_inj h.2)) (m, n) ⟨hm, hn, h⟩
noncomputable def cR2Sub : List V → Option PR := conOf (fun p : Nat × Nat => [.str (dec p.1), .str (dec p.2)]) (fun p => (dec p.1).length ≤ 1000 ∧ (dec p.2).length ≤ 1000 ∧ p.2 ≤ p.1) (fun p => .ret (.tup [.str (dec (p.1 - p.2)), .int .i64 0]))
theorem cR2Sub_ok : ∀ args r, cR2Sub args = some r → PCall Tryz.prog 75 args r := conOf_ok fun p h => by
  have := rSub_ok (dec p.1) (dec p.2)
  rwa [subV_dec h.1 h.2.1 h.2.2] at this
@[go_sem] theorem cR2Sub_eq (m n : Nat) (hm : (dec m).length ≤ 1000) (hn : (dec n).length ≤ 1000) (h : n ≤ m) : cR2Sub [.str (dec m), .str (dec n)] = some (.ret (.tup [.str (dec (m - n)), .int .i64 0])) :=
  conOf_eq (pat := fun p : Nat × Nat => [V.str (dec p.1), .str (dec p.2)]) (fun x y h => by simp at h; exact Prod.ext (dec_inj h.1) (dec_inj h.2)) (m, n) ⟨hm, hn, h⟩
noncomputable def cR2Cmp : List V → Option PR := conOf (fun p : Nat × Nat => [.str (dec p.1), .str (dec p.2)]) (fun p => (dec p.1).length ≤ 1000 ∧ (dec p.2).length ≤ 1000) (fun p => .ret (.int .i64 (cmpI p.1 p.2)))
theorem cR2Cmp_ok : ∀ args r, cR2Cmp args = some r → PCall Tryz.prog 74 args r := conOf_ok fun p h => by
  have := rCmp_ok (dec p.1) (dec p.2)
  rwa [cmpV_dec h.1 h.2] at this
@[go_sem] theorem cR2Cmp_eq (m n : Nat) (hm : (dec m).length ≤ 1000) (hn : (dec n).length ≤ 1000) : cR2Cmp [.str (dec m), .str (dec n)] = some (.ret (.int .i64 (cmpI m n))) :=
  conOf_eq (pat := fun p : Nat × Nat => [V.str (dec p.1), .str (dec p.2)]) (fun x y h => by simp at h; exact Prod.ext (dec_inj h.1) (dec_inj h.2)) (m, n) ⟨hm, hn⟩
theorem rTimes_ok (m n : Nat) (hm : (dec m).length ≤ 400) (hn : (dec n).length ≤ 400) : PCall Tryz.prog 44 [.str (dec m), .str (dec n)] (.ret (.str (dec (m * n)))) := by
  refine PCall.walk (rs := [.tmp 4]) [0, 1, 4, 5] [] mixed (extΓ_ok cR2Mul_ok noΓ_ok) (noΔ_ok) call44 Tryz.func44 rfl Tryz.ntmps44 rfl (by kernel_rfl) (by simp) (by simp [pure_bool, pure_int, pure_str, pure_fs, pure_fp, pure_fn, pure_agg, pure_tup, pure_nilS, pure_nilP, pure_natsP, pure_intsP, pure_strsP, pure_list, pure_cntsP]) ?_
  have := dec_mul_len hm hn
  simp (disch := (first | assumption | omega | (simp only [push_cast] <;> omega))) only [go_sem]
noncomputable def cRTimes : List V → Option PR := conOf (fun p : Nat × Nat => [.str (dec p.1), .str (dec p.2)]) (fun p => (dec p.1).length ≤ 400 ∧ (dec p.2).length ≤ 400) (fun p => .ret (.str (dec (p.1 * p.2))))
theorem cRTimes_ok : ∀ args r, cRTimes args = some r → PCall Tryz.prog 44 args r := conOf_ok fun p h => rTimes_ok p.1 p.2 h.1 h.2
@[go_sem] theorem cRTimes_eq (m n : Nat) (hm : (dec m).length ≤ 400) (hn : (dec n).length ≤ 400) : cRTimes [.str (dec m), .str (dec n)] = some (.ret (.str (dec (m * n)))) :=
  conOf_eq (pat := fun p : Nat × Nat => [V.str (dec p.1), .str (dec p.2)]) (fun x y h => by simp at h; exact Prod.ext (dec_inj h.1) (dec_inj h.2)) (m, n) ⟨hm, hn⟩
set_option maxHeartbeats 4000000 in
theorem rSum_ok (p : Bool) (m : Nat) (q : Bool) (n : Nat) (hm : (dec m).length ≤ 800) (hn : (dec n).length ≤ 800) : PCall Tryz.prog 43 [.bool p, .str (dec m), .bool q, .str (dec n)] (.ret (.tup [.bool (sumS p m q n).1, .str (dec (sumS p m q n).2)])) := by
  have hΓ := extΓ_ok cR2Add_ok (extΓ_ok cR2Cmp_ok (extΓ_ok cR2Sub_ok noΓ_ok))
  refine PCall.walk (rs := [.tmp 8, .tmp 9]) [0, 1, 2, 3, 8, 9, 10, 12, 14, 18, 30] [] mixed (hΓ) (noΔ_ok) call43 Tryz.func43 rfl Tryz.ntmps43 rfl (by kernel_rfl) (by simp) (by simp [pure_bool, pure_int, pure_str, pure_fs, pure_fp, pure_fn, pure_agg, pure_tup, pure_nilS, pure_nilP, pure_natsP, pure_intsP, pure_strsP, pure_list, pure_cntsP]) ?_
  have ha := dec_add_len hm hn
  by_cases hpq : p = q
  · subst hpq
    simp (disch := (first | assumption | omega | (simp only [push_cast] <;> omega))) only [go_sem, sumS, decide_true, beq_self_eq_true]
  · have hpq' : (p == q) = false := by simpa using hpq
    simp (disch := (first | assumption | omega | (simp only [push_cast] <;> omega))) only [go_sem, hpq']
    refine AXc.introP (fun h1 => ?_) (fun h1 => ?_)
    · have h2 : n ≤ m := by
        rw [cmpI_nat] at h1
        split at h1
        · omega
        · omega
      simp (disch := (first | assumption | omega | (simp only [push_cast] <;> omega))) only [go_sem, sumS, hpq, h2]
    · have h2 : ¬ n ≤ m := by
        rw [cmpI_nat] at h1
        split at h1
        · omega
        · split at h1 <;> omega
      simp (disch := (first | assumption | omega | (simp only [push_cast] <;> omega))) only [go_sem, sumS, hpq, h2]
noncomputable def cRSum : List V → Option PR := conOf (fun p : Bool × Nat × Bool × Nat => [.bool p.1, .str (dec p.2.1), .bool p.2.2.1, .str (dec p.2.2.2)]) (fun p => (dec p.2.1).length ≤ 800 ∧ (dec p.2.2.2).length ≤ 800) (fun p => .ret (.tup [.bool (sumS p.1 p.2.1 p.2.2.1 p.2.2.2).1, .str (dec (sumS p.1 p.2.1 p.2.2.1 p.2.2.2).2)]))
theorem cRSum_ok : ∀ args r, cRSum args = some r → PCall Tryz.prog 43 args r := conOf_ok fun p h => rSum_ok p.1 p.2.1 p.2.2.1 p.2.2.2 h.1 h.2
@[go_sem] theorem cRSum_eq (p : Bool) (m : Nat) (q : Bool) (n : Nat) (hm : (dec m).length ≤ 800) (hn : (dec n).length ≤ 800) : cRSum [.bool p, .str (dec m), .bool q, .str (dec n)] = some (.ret (.tup [.bool (sumS p m q n).1, .str (dec (sumS p m q n).2)])) :=
  conOf_eq (pat := fun p : Bool × Nat × Bool × Nat => [V.bool p.1, .str (dec p.2.1), .bool p.2.2.1, .str (dec p.2.2.2)]) (fun x y h => by
    obtain ⟨x1, x2, x3, x4⟩ := x
    obtain ⟨y1, y2, y3, y4⟩ := y
    simp at h
    obtain ⟨h1, h2, h3, h4⟩ := h
    rw [h1, dec_inj h2, h3, dec_inj h4]) (p, m, q, n) ⟨hm, hn⟩
end Go.Proofs

/- The reference's rational numbers: Cmp, Make, Add, Mul, Div. -/
namespace Go.Proofs
open Go.Ab Go.Pl
theorem ratP_len {a : List UInt8} {s : Bool} {n d : Nat} (h : ratP a = some (s, n, d)) : (dec n).length ≤ 400 ∧ (dec d).length ≤ 400 ∧ 0 < d := by
  obtain ⟨h0, _, h1, h2⟩ := ratP_some h
  exact ⟨h1, h2, h0⟩
set_option maxHeartbeats 4000000 in
set_option maxRecDepth 100000 in
theorem r3Cmp_ok (a b : List UInt8) (la : a.length ≤ 1000000000) (lb : b.length ≤ 1000000000) : PCall Tryz.prog 54 [.str a, .str b] (.ret (.int .i64 (ratCmp a b))) := by
  have hΓ := extΓ_ok cRParts_ok (extΓ_ok cRTimes_ok (extΓ_ok cRSum_ok noΓ_ok))
  refine PCall.walk (rs := [.tmp 4]) [0, 1, 4, 5, 6, 7, 8, 9, 10, 11, 12, 13, 14, 34, 48, 51] [] mixed (hΓ) (noΔ_ok) call54 Tryz.func54 rfl Tryz.ntmps54 rfl (by kernel_rfl) (by simp) (by simp [pure_bool, pure_int, pure_str, pure_fs, pure_fp, pure_fn, pure_agg, pure_tup, pure_nilS, pure_nilP, pure_natsP, pure_intsP, pure_strsP, pure_list, pure_cntsP]) ?_
  cases ha : ratP a with
  | none =>
    rw [ratCmp_n1 b ha]
    cases hb : ratP b with
    | none => simp (disch := (first | assumption | omega | (simp only [push_cast] <;> omega))) only [go_sem, ha, hb]
    | some y =>
      obtain ⟨q, n, f⟩ := y
      simp (disch := (first | assumption | omega | (simp only [push_cast] <;> omega))) only [go_sem, ha, hb]
  | some x =>
    obtain ⟨p, m, d⟩ := x
    cases hb : ratP b with
    | none =>
      rw [ratCmp_n2 a hb]
      simp (disch := (first | assumption | omega | (simp only [push_cast] <;> omega))) only [go_sem, ha, hb]
    | some y =>
      obtain ⟨q, n, f⟩ := y
      rw [ratCmp_s ha hb]
      obtain ⟨lm, ld, _⟩ := ratP_len ha
      obtain ⟨ln, lf, _⟩ := ratP_len hb
      have l1 := dec_mul_len lm lf
      have l2 := dec_mul_len ln ld
      simp (disch := (first | assumption | omega | (simp only [push_cast] <;> omega))) only [go_sem, ha, hb]
      have hz : decide (dec (sumS p (m * f) (!q) (n * d)).2 = [48]) = decide ((sumS p (m * f) (!q) (n * d)).2 = 0) := by simp only [dec_is_zero]
      rw [hz]
      refine AXc.introP (fun h1 => ?_) (fun h1 => ?_)
      · simp (disch := (first | assumption | omega | (simp only [push_cast] <;> omega))) only [go_sem, h1]
      · cases h2 : (sumS p (m * f) (!q) (n * d)).1
        · simp (disch := (first | assumption | omega | (simp only [push_cast] <;> omega))) only [go_sem, h1, h2, Bool.false_eq_true]
        · simp (disch := (first | assumption | omega | (simp only [push_cast] <;> omega))) only [go_sem, h1, h2]
end Go.Proofs

/- rat: Valid, Cmp. -/
namespace Go.Proofs
open Go.Ab Go.Pl
theorem parseV_s {a : List UInt8} {s : Bool} {n d : Nat} (hr : ratP a = some (s, n, d)) : parseV a = .tup [.agg [.bool s, .str (dec n), .str (dec d)], .bool true] := by
  unfold parseV
  generalize ratP a = q at hr
  subst hr
  rfl
theorem parseV_n {a : List UInt8} (hr : ratP a = none) : parseV a = .tup [.agg [.bool false, .str [], .str []], .bool false] := by
  unfold parseV
  generalize ratP a = q at hr
  subst hr
  rfl
noncomputable def cParse : List V → Option PR := conOf (fun a : List UInt8 => [.str a]) (fun a => a.length ≤ 1000000000) fun a => .ret (parseV a)
theorem cParse_eq (a : List UInt8) (h : a.length ≤ 1000000000) : cParse [.str a] = some (.ret (parseV a)) := conOf_eq (pat := fun a : List UInt8 => [V.str a]) (fun x y h => by simpa using h) a h
theorem cParse_ok : ∀ args r, cParse args = some r → PCall Tryz.prog 55 args r := conOf_ok fun a h => parse_ok a h
@[go_sem] theorem cParse_s {a : List UInt8} {s : Bool} {n d : Nat} (hr : ratP a = some (s, n, d)) (h : a.length ≤ 1000000000) : cParse [.str a] = some (.ret (.tup [.agg [.bool s, .str (dec n), .str (dec d)], .bool true])) :=
  (cParse_eq a h).trans (congrArg (fun v => some (PR.ret v)) (parseV_s hr))
@[go_sem] theorem cParse_n {a : List UInt8} (hr : ratP a = none) (h : a.length ≤ 1000000000) : cParse [.str a] = some (.ret (.tup [.agg [.bool false, .str [], .str []], .bool false])) :=
  (cParse_eq a h).trans (congrArg (fun v => some (PR.ret v)) (parseV_n hr))
theorem ratValid_ok (a : List UInt8) (h : a.length ≤ 1000000000) : PCall Tryz.prog 32 [.str a] (.ret (.bool (ratP a).isSome)) := by
  refine PCall.walk (rs := [.tmp 2]) [0, 2] [] mixed (extΓ_ok cParse_ok noΓ_ok) (noΔ_ok) call32 Tryz.func32 rfl Tryz.ntmps32 rfl (by kernel_rfl) (by simp) (by simp [pure_bool, pure_int, pure_str, pure_fs, pure_fp, pure_fn, pure_agg, pure_tup, pure_nilS, pure_nilP, pure_natsP, pure_intsP, pure_strsP, pure_list, pure_cntsP]) ?_
  cases hr : ratP a with
  | none => simp (disch := (first | assumption | omega | (simp only [push_cast] <;> omega))) only [go_sem, hr, Option.isSome_none]
  | some q =>
    obtain ⟨s, n, d⟩ := q
    simp (disch := (first | assumption | omega | (simp only [push_cast] <;> omega))) only [go_sem, hr, Option.isSome_some]
noncomputable def cRatValid : List V → Option PR := conOf (fun a : List UInt8 => [.str a]) (fun a => a.length ≤ 1000000000) fun a => .ret (.bool (ratP a).isSome)
@[go_sem] theorem cRatValid_eq (a : List UInt8) (h : a.length ≤ 1000000000) : cRatValid [.str a] = some (.ret (.bool (ratP a).isSome)) := conOf_eq (pat := fun a : List UInt8 => [V.str a]) (fun x y h => by simpa using h) a h
theorem cRatValid_ok : ∀ args r, cRatValid args = some r → PCall Tryz.prog 32 args r := conOf_ok fun a h => ratValid_ok a h
set_option maxHeartbeats 8000000 in
set_option maxRecDepth 100000 in
theorem ratCmp_ok (a b : List UInt8) (la : a.length ≤ 1000000000) (lb : b.length ≤ 1000000000) : PCall Tryz.prog 33 [.str a, .str b] (.ret (.int .i64 (ratCmp a b))) := by
  have hΓ := extΓ_ok cParse_ok (extΓ_ok cNMul_ok (extΓ_ok cMust_ok (extΓ_ok cNPlus_ok noΓ_ok)))
  refine PCall.walk (rs := [.tmp 4]) [0, 1, 4, 5, 6, 7, 8, 9, 10, 26, 52, 55] [] mixed (hΓ) (noΔ_ok) call33 Tryz.func33 rfl Tryz.ntmps33 rfl (by kernel_rfl) (by simp) (by simp [pure_bool, pure_int, pure_str, pure_fs, pure_fp, pure_fn, pure_agg, pure_tup, pure_nilS, pure_nilP, pure_natsP, pure_intsP, pure_strsP, pure_list, pure_cntsP]) ?_
  cases ha : ratP a with
  | none =>
    rw [ratCmp_n1 b ha]
    cases hb : ratP b with
    | none => simp (disch := (first | assumption | omega | (simp only [push_cast] <;> omega))) only [go_sem, ha, hb]
    | some y =>
      obtain ⟨q, n, f⟩ := y
      simp (disch := (first | assumption | omega | (simp only [push_cast] <;> omega))) only [go_sem, ha, hb]
  | some x =>
    obtain ⟨p, m, d⟩ := x
    cases hb : ratP b with
    | none =>
      rw [ratCmp_n2 a hb]
      simp (disch := (first | assumption | omega | (simp only [push_cast] <;> omega))) only [go_sem, ha, hb]
    | some y =>
      obtain ⟨q, n, f⟩ := y
      rw [ratCmp_s ha hb]
      obtain ⟨lm, ld, _⟩ := ratP_len ha
      obtain ⟨ln, lf, _⟩ := ratP_len hb
      have l1 := dec_mul_len lm lf
      have l2 := dec_mul_len ln ld
      simp (disch := (first | assumption | omega | (simp only [push_cast] <;> omega))) only [go_sem, ha, hb]
      refine AXk.intro (by kernel_rfl) ?_
      have hz : decide (dec (sumS p (m * f) (!q) (n * d)).2 = [48]) = decide ((sumS p (m * f) (!q) (n * d)).2 = 0) := by simp only [dec_is_zero]
      simp (disch := (first | assumption | omega | (simp only [push_cast] <;> omega))) only [go_sem]
      rw [hz]
      refine AXc.introP (fun h1 => ?_) (fun h1 => ?_)
      · simp (disch := (first | assumption | omega | (simp only [push_cast] <;> omega))) only [go_sem, h1]
      · cases h2 : (sumS p (m * f) (!q) (n * d)).1
        · simp (disch := (first | assumption | omega | (simp only [push_cast] <;> omega))) only [go_sem, h1, h2, Bool.false_eq_true]
        · simp (disch := (first | assumption | omega | (simp only [push_cast] <;> omega))) only [go_sem, h1, h2]
noncomputable def cRatCmp : List V → Option PR := conOf (fun p : List UInt8 × List UInt8 => [.str p.1, .str p.2]) (fun p => p.1.length ≤ 1000000000 ∧ p.2.length ≤ 1000000000) (fun p => .ret (.int .i64 (ratCmp p.1 p.2)))
theorem cRatCmp_ok : ∀ args r, cRatCmp args = some r → PCall Tryz.prog 33 args r := conOf_ok fun p h => ratCmp_ok p.1 p.2 h.1 h.2
@[go_sem] theorem cRatCmp_eq (a b : List UInt8) (la : a.length ≤ 1000000000) (lb : b.length ≤ 1000000000) : cRatCmp [.str a, .str b] = some (.ret (.int .i64 (ratCmp a b))) := conOf_eq (fun p q h => by simp at h; exact Prod.ext h.1 h.2) (a, b) ⟨la, lb⟩
end Go.Proofs

/- The reference's rational numbers: Add, Mul, Div. -/
namespace Go.Proofs
open Go.Ab Go.Pl
noncomputable def cR3Cmp : List V → Option PR := conOf (fun p : List UInt8 × List UInt8 => [.str p.1, .str p.2]) (fun p => p.1.length ≤ 1000000000 ∧ p.2.length ≤ 1000000000) (fun p => .ret (.int .i64 (ratCmp p.1 p.2)))
theorem cR3Cmp_ok : ∀ args r, cR3Cmp args = some r → PCall Tryz.prog 54 args r := conOf_ok fun p h => r3Cmp_ok p.1 p.2 h.1 h.2
@[go_sem] theorem cR3Cmp_eq (a b : List UInt8) (la : a.length ≤ 1000000000) (lb : b.length ≤ 1000000000) : cR3Cmp [.str a, .str b] = some (.ret (.int .i64 (ratCmp a b))) := conOf_eq (fun p q h => by simp at h; exact Prod.ext h.1 h.2) (a, b) ⟨la, lb⟩
end Go.Proofs
