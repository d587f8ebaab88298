/- The reference's rational numbers: index, short, Parts, Valid. -/
import Derived.Test.YtfilkkmcagndlaaGreatDoorF2h
import Derived.Test.YtfilkkmcagndlaaGreatDoorPlTenD
set_option linter.unusedSimpArgs false
set_option linter.unusedVariables false
set_option linter.all false
namespace Go.Proofs
open Go.Ab Go.Pl
theorem ixB_some {s : List UInt8} {c : UInt8} {i : Nat} (hi : i < s.length) (h : s.getD i 0 = c) (hb : ∀ j, j < i → s.getD j 0 ≠ c) : s.findIdx? (· == c) = some i := by
  rw [List.findIdx?_eq_some_iff_getElem]
  have e : ∀ j (hj : j < s.length), s[j] = s.getD j 0 := fun j hj => by simp [List.getD_eq_getElem?_getD, hj]
  refine ⟨hi, by rw [e i hi, h]; simp, fun j hj => ?_⟩
  have := hb j hj
  rw [e j (by omega)]
  simpa using this
theorem ixB_none {s : List UInt8} {c : UInt8} (hb : ∀ j, j < s.length → s.getD j 0 ≠ c) : s.findIdx? (· == c) = none := by
  rw [List.findIdx?_eq_none_iff]
  intro x hx
  obtain ⟨j, hj, rfl⟩ := List.mem_iff_getElem.1 hx
  have := hb j hj
  rw [List.getD_eq_getElem?_getD, List.getElem?_eq_getElem hj] at this
  simpa using this
set_option maxHeartbeats 4000000 in
theorem rIndex_ok (s : List UInt8) (c : UInt8) (hl : s.length ≤ 1000000000) : PCall Tryz.prog 70 [.str s, .int .u8 (c.toNat : Int)] (.ret (.int .i64 (ixB s c))) := by
  refine PCall.walk (rs := [.tmp 4]) [0, 1, 4, 5, 9, 16] [] mixed (noΓ_ok) (noΔ_ok) call70 Tryz.func70 rfl Tryz.ntmps70 rfl (by kernel_rfl) (by simp) (by simp [pure_bool, pure_int, pure_str, pure_fs, pure_fp, pure_fn, pure_agg, pure_tup, pure_nilS, pure_nilP, pure_natsP, pure_intsP, pure_strsP, pure_list, pure_cntsP]) ?_
  simp only [go_sem]
  refine AXs.loop mixed (noΓ_ok) (noΔ_ok) (fun i : Nat => [(0, .str s), (1, .int .u8 (c.toNat : Int)), (5, .int .i64 i)]) (fun _ => ⟨[], 0⟩) (fun i => i ≤ s.length ∧ ∀ j, j < i → s.getD j 0 ≠ c) (fun i => s.length - i) 0 (by kernel_rfl) ⟨Nat.zero_le _, by intro j hj; omega⟩ (Sub.of0 [] rfl rfl ?_ ?_) ?_
  · simp only [go_sem]
  · simp only [go_sem]
  rintro i ⟨hi, hb⟩
  simp only [go_sem]
  refine AXc.introP (fun h1 => ?_) (fun h1 => ?_)
  · have hi' : i < s.length := by omega
    simp (disch := (first | assumption | omega | (simp only [push_cast] <;> omega))) only [go_sem]
    (repeat refine And.intro (by first | omega | exact ⟨by omega, by omega⟩ | kernel_rfl | rfl | assumption | (intro h; exact ⟨h, by omega, by omega⟩) | (intro h; exact ⟨h, by omega⟩)) ?_)
    refine AXc.introP (fun h2 => ?_) (fun h2 => ?_)
    · have h3 : s.getD i 0 = c := UInt8.toNat_inj.1 (by omega)
      simp only [go_sem, ixB, ixB_some hi' h3 hb]
    · have h3 : s.getD i 0 ≠ c := fun e => h2 (by rw [e])
      simp (disch := (first | assumption | omega | (simp only [push_cast] <;> omega))) only [go_sem]
      refine loopK_norm (i + 1) ⟨by omega, fun j hj => ?_⟩ (by omega) (Sub.of0 [] rfl rfl ?_ ?_)
      · by_cases hji : j = i
        · rw [hji]; exact h3
        · exact hb j (by omega)
      · simp only [go_sem]
        simp
      · simp only [go_sem]
  · have hie : i = s.length := by omega
    subst hie
    simp only [go_sem]
    refine AXa.go mixed (noΓ_ok) (noΔ_ok) (by kernel_rfl) ?_
    simp only [go_sem, ixB, ixB_none hb]
noncomputable def cRIndex : List V → Option PR := conOf (fun p : List UInt8 × UInt8 => [.str p.1, .int .u8 (p.2.toNat : Int)]) (fun p => p.1.length ≤ 1000000000) (fun p => .ret (.int .i64 (ixB p.1 p.2)))
theorem cRIndex_ok : ∀ args r, cRIndex args = some r → PCall Tryz.prog 70 args r := conOf_ok fun p h => rIndex_ok p.1 p.2 h
@[go_sem] theorem cRIndex47 (s : List UInt8) (hl : s.length ≤ 1000000000) : cRIndex [.str s, .int .u8 47] = some (.ret (.int .i64 (ixB s 47))) := conOf_eq (pat := fun p : List UInt8 × UInt8 => [V.str p.1, .int .u8 (p.2.toNat : Int)]) (fun p q h => by
  simp at h
  obtain ⟨h1, h2⟩ := h
  have : p.2 = q.2 := UInt8.toNat_inj.1 (by omega)
  exact Prod.ext h1 this) (s, 47) hl
theorem rShort_ok (s : List UInt8) : PCall Tryz.prog 71 [.str s] (.ret (.bool (shortN s))) := by
  have hΓ := extΓ_ok cRValidN_ok noΓ_ok
  refine PCall.walk (rs := [.tmp 2]) [0, 2] [] mixed (hΓ) (noΔ_ok) call71 Tryz.func71 rfl Tryz.ntmps71 rfl (by kernel_rfl) (by simp) (by simp [pure_bool, pure_int, pure_str, pure_fs, pure_fp, pure_fn, pure_agg, pure_tup, pure_nilS, pure_nilP, pure_natsP, pure_intsP, pure_strsP, pure_list, pure_cntsP]) ?_
  simp only [go_sem]
  rw [Bool.eq_iff_iff, shortN_iff, Bool.and_eq_true, decide_eq_true_eq, and_comm]
  exact and_congr_right fun _ => by omega
noncomputable def cRShort : List V → Option PR := conOf (fun a : List UInt8 => [.str a]) (fun _ => True) fun a => .ret (.bool (shortN a))
@[go_sem] theorem cRShort_eq (a : List UInt8) : cRShort [.str a] = some (.ret (.bool (shortN a))) := conOf_eq (pat := fun a : List UInt8 => [.str a]) (fun x y h => by simpa using h) a trivial
theorem cRShort_ok : ∀ args r, cRShort args = some r → PCall Tryz.prog 71 args r := conOf_ok fun a _ => rShort_ok a
def partsV (a : List UInt8) : V := match ratP a with
  | some (s, n, d) => .tup [.bool s, .str (dec n), .str (dec d), .bool true]
  | none => .tup [.bool false, .str [], .str [], .bool false]
def partsQ (neg : Bool) (n d : List UInt8) (fr : Bool) : V := if ratOK neg n d fr = true then .tup [.bool neg, .str n, .str d, .bool true] else .tup [.bool false, .str [], .str [], .bool false]
theorem partsV_eq (a : List UInt8) : partsV a = partsQ (ratSplit a).1 (ratSplit a).2.1 (ratSplit a).2.2.1 (ratSplit a).2.2.2 := by
  unfold partsV partsQ ratP
  split
  · rename_i h
    split at h
    · rename_i hk
      simp only [Option.some.injEq, Prod.mk.injEq] at h
      obtain ⟨rfl, rfl, rfl⟩ := h
      rw [if_pos hk]
      simp only [ratOK, Bool.and_eq_true] at hk
      rw [validN_decI (shortN_iff.1 hk.1.1.1.1).1, validN_decI (shortN_iff.1 hk.1.1.1.2).1]
    · cases h
  · rename_i h
    split at h
    · cases h
    · rename_i hk
      rw [if_neg hk]
theorem parts_some {a : List UInt8} {neg : Bool} {r : List UInt8} {i : Nat} (h1 : decide (a.getD 0 0 = 45) = neg) (h2 : r = if neg = true then a.drop 1 else a) (h3 : r.findIdx? (· == 47) = some i) : partsV a = partsQ neg (r.take i) (r.drop (i + 1)) true := by
  rw [partsV_eq]
  have : ratSplit a = (neg, r.take i, r.drop (i + 1), true) := by
    unfold ratSplit
    simp only
    rw [h1, ← h2, h3]
  rw [this]
theorem parts_none {a : List UInt8} {neg : Bool} {r : List UInt8} (h1 : decide (a.getD 0 0 = 45) = neg) (h2 : r = if neg = true then a.drop 1 else a) (h3 : r.findIdx? (· == 47) = none) : partsV a = partsQ neg r [49] false := by
  rw [partsV_eq]
  have : ratSplit a = (neg, r, [49], false) := by
    unfold ratSplit
    simp only
    rw [h1, ← h2, h3]
  rw [this]
theorem partsQ_t {neg : Bool} {n d : List UInt8} {fr : Bool} (h : ratOK neg n d fr = true) : partsQ neg n d fr = .tup [.bool neg, .str n, .str d, .bool true] := if_pos h
theorem partsQ_f {neg : Bool} {n d : List UInt8} {fr : Bool} (h : ratOK neg n d fr = false) : partsQ neg n d fr = .tup [.bool false, .str [], .str [], .bool false] := if_neg (by rw [h]; decide)
theorem ratOK_n {neg : Bool} {n d : List UInt8} {fr : Bool} (h : ¬ shortN n = true) : ratOK neg n d fr = false := by
  rw [Bool.not_eq_true] at h; simp [ratOK, h]
theorem ratOK_d {neg : Bool} {n d : List UInt8} {fr : Bool} (h : ¬ shortN d = true) : ratOK neg n d fr = false := by
  rw [Bool.not_eq_true] at h; simp [ratOK, h]
theorem ratOK_d0 {neg : Bool} {n : List UInt8} : ratOK neg n [48] true = false := by simp [ratOK]
theorem ratOK_d1 {neg : Bool} {n : List UInt8} : ratOK neg n [49] true = false := by simp [ratOK]
theorem ratOK_n0 {neg : Bool} {d : List UInt8} (h : shortN d = true) (h1 : d ≠ [49]) : ratOK neg [48] d true = false := by
  have hv := validN_decI (shortN_iff.1 h).1
  have : Nat.gcd (valD [48]) (valD d) ≠ 1 := by
    show Nat.gcd 0 (valD d) ≠ 1
    rw [Nat.gcd_zero_left]
    intro e
    rw [e] at hv
    exact h1 hv.symm
  simp [ratOK, this]
theorem ratOK_g {neg : Bool} {n d : List UInt8} (h1 : shortN n = true) (h2 : shortN d = true) (h3 : n ≠ [48]) (h4 : d ≠ [48]) (h5 : d ≠ [49]) : ratOK neg n d true = decide (Nat.gcd (valD n) (valD d) = 1) := by
  simp [ratOK, h1, h2, h3, h4, h5]
theorem s48 : shortN [48] = true := by decide
theorem s49 : shortN [49] = true := by decide
theorem ratOK_1 {neg : Bool} {n : List UInt8} (h1 : shortN n = true) : ratOK neg n [49] false = !(neg && decide (n = [48])) := by
  have : Nat.gcd (valD n) (valD [49]) = 1 := by
    show Nat.gcd (valD n) 1 = 1
    rw [Nat.gcd_one_right]
  simp only [ratOK, h1, s49, this, Bool.and_self, Bool.true_and, Bool.false_and, Bool.not_false, Bool.and_true, decide_true]
theorem parts01 (neg : Bool) : partsQ neg [48] [49] false = if neg = true then .tup [.bool false, .str [], .str [], .bool false] else .tup [.bool neg, .str [48], .str [49], .bool true] := by
  unfold partsQ
  rw [ratOK_1 s48]
  cases neg <;> rfl
set_option maxHeartbeats 4000000 in
set_option maxRecDepth 100000 in
theorem rParts_ok (a : List UInt8) (hl : a.length ≤ 1000000000) : PCall Tryz.prog 42 [.str a] (.ret (partsV a)) := by
  have hΓ := extΓ_ok cRIndex_ok (extΓ_ok cRShort_ok (extΓ_ok cRGcd_ok noΓ_ok))
  refine PCall.walk (rs := [.tmp 2, .tmp 3, .tmp 4, .tmp 5]) [0, 2, 3, 4, 5, 6, 7, 8, 9, 10, 21, 27, 65, 77] [] mixed (hΓ) (noΔ_ok) call42 Tryz.func42 rfl Tryz.ntmps42 rfl (by kernel_rfl) (by simp) (by simp [pure_bool, pure_int, pure_str, pure_fs, pure_fp, pure_fn, pure_agg, pure_tup, pure_nilS, pure_nilP, pure_natsP, pure_intsP, pure_strsP, pure_list, pure_cntsP]) ?_
  simp (disch := (first | assumption | omega | (simp only [push_cast] <;> omega))) only [go_sem]
  refine ⟨fun h => ⟨h, by simpa using h⟩, ?_⟩
  have hbn : (decide (0 < (a.length : Int)) && decide (((a.getD 0 0).toNat : Int) = 45)) = decide (a.getD 0 0 = 45) := by
    rw [Bool.eq_iff_iff]
    simp only [Bool.and_eq_true, decide_eq_true_eq]
    constructor
    · rintro ⟨_, h2⟩
      exact UInt8.toNat_inj.1 (by have : (45 : UInt8).toNat = 45 := rfl; omega)
    · intro h
      refine ⟨?_, by rw [h]; rfl⟩
      rcases a with _ | ⟨c, a⟩
      · cases h
      · simp
  rw [hbn]
  by_cases hneg : a.getD 0 0 = 45
  · have hq := decide_eq_true hneg
    rw [hq]
    have hr : (a.drop 1).length ≤ 1000000000 := by first | exact hl | (simp; omega)
    have hne : 0 < a.length ∨ true = false := by
      rcases a with _ | ⟨c, a⟩
      · first | (exact .inr rfl) | cases hneg
      · simp
    have p1 := fun i => parts_some (r := a.drop 1) (i := i) hq rfl
    have p2 := parts_none (r := a.drop 1) hq rfl
    simp (disch := (first | assumption | omega | (simp only [push_cast] <;> omega))) only [go_sem, List.take_length]
    try refine ⟨⟨by simp at hne; omega, Int.le_refl _⟩, ?_⟩
    generalize a.drop 1 = r at *
    cases hf : r.findIdx? (· == 47) with
    | some i =>
      rw [p1 i hf]
      have hx : ixB r 47 = (i : Int) := by unfold ixB; rw [hf]
      have hi : i < r.length := by rw [List.findIdx?_eq_some_iff_getElem] at hf; exact hf.1
      have h0 : decide (0 ≤ (i : Int)) = true := by simp
      rw [hx, h0]
      simp (disch := (first | assumption | omega | (simp only [push_cast] <;> omega))) only [go_sem, List.take_length]
      refine ⟨⟨by omega, by omega, Int.le_refl _⟩, ⟨by omega, by omega⟩, fun h => ⟨h, fun h' => by simp only [h, h']; rfl⟩, fun h => ⟨h, fun h' => by simp only [h, h']; rfl⟩, ?_⟩
      generalize r.take i = n
      generalize r.drop (i + 1) = d
      by_cases h1 : shortN n = true
      case neg =>
        rw [partsQ_f (ratOK_n h1)]
        simp only [go_sem, h1]
      by_cases h2 : shortN d = true
      case neg =>
        rw [partsQ_f (ratOK_d h2)]
        simp only [go_sem, h1, h2]
      by_cases h4 : d = [48]
      · rw [h4, partsQ_f ratOK_d0]
        simp only [go_sem, h1, s48]
      by_cases h5 : d = [49]
      · rw [h5, partsQ_f ratOK_d1]
        simp only [go_sem, h1, s49, h0, Bool.or_true]
      by_cases h3 : n = [48]
      · rw [h3, partsQ_f (ratOK_n0 h2 h5)]
        simp only [go_sem, s48, h2, h4, h5, h0, Bool.or_true]
      simp only [go_sem, h1, h2, h3, h4, h5, cRGcd_v (shortN_iff.1 h1).1 (shortN_iff.1 h2).1, dec_one_eq]
      refine AXc.introN (fun h6 => ?_) (fun h6 => ?_)
      · rw [partsQ_f (by rw [ratOK_g h1 h2 h3 h4 h5]; simpa using h6)]
        simp only [go_sem]
      · rw [partsQ_t (by rw [ratOK_g h1 h2 h3 h4 h5]; simpa using h6)]
        simp only [go_sem]
    | none =>
      rw [p2 hf]
      have hx : ixB r 47 = -1 := by unfold ixB; rw [hf]
      rw [hx]
      have z49 : decide (([49] : List UInt8) = [48]) = false := by decide
      by_cases h1 : shortN r = true
      case neg =>
        rw [partsQ_f (ratOK_n h1)]
        simp only [go_sem, h1, s49, z49]
      by_cases h2 : r = [48]
      · rw [h2, parts01]
        simp only [go_sem, s48, s49, z49, cRGcd_v (shortN_iff.1 s48).1 (shortN_iff.1 s49).1, if_true, Bool.false_eq_true, if_false]
      · rw [partsQ_t (by rw [ratOK_1 h1]; simp [h2])]
        simp only [go_sem, h1, s49, z49, h2, cRGcd_v (shortN_iff.1 h1).1 (shortN_iff.1 s49).1]
  · have hq := decide_eq_false hneg
    rw [hq]
    have hr : (a).length ≤ 1000000000 := by first | exact hl | (simp; omega)
    have hne : 0 < a.length ∨ false = false := by
      rcases a with _ | ⟨c, a⟩
      · first | (exact .inr rfl) | cases hneg
      · simp
    have p1 := fun i => parts_some (r := a) (i := i) hq rfl
    have p2 := parts_none (r := a) hq rfl
    simp (disch := (first | assumption | omega | (simp only [push_cast] <;> omega))) only [go_sem, List.take_length]
    try refine ⟨⟨by simp at hne; omega, Int.le_refl _⟩, ?_⟩
    generalize a = r at *
    cases hf : r.findIdx? (· == 47) with
    | some i =>
      rw [p1 i hf]
      have hx : ixB r 47 = (i : Int) := by unfold ixB; rw [hf]
      have hi : i < r.length := by rw [List.findIdx?_eq_some_iff_getElem] at hf; exact hf.1
      have h0 : decide (0 ≤ (i : Int)) = true := by simp
      rw [hx, h0]
      simp (disch := (first | assumption | omega | (simp only [push_cast] <;> omega))) only [go_sem, List.take_length]
      refine ⟨⟨by omega, by omega, Int.le_refl _⟩, ⟨by omega, by omega⟩, fun h => ⟨h, fun h' => by simp only [h, h']; rfl⟩, fun h => ⟨h, fun h' => by simp only [h, h']; rfl⟩, ?_⟩
      generalize r.take i = n
      generalize r.drop (i + 1) = d
      by_cases h1 : shortN n = true
      case neg =>
        rw [partsQ_f (ratOK_n h1)]
        simp only [go_sem, h1]
      by_cases h2 : shortN d = true
      case neg =>
        rw [partsQ_f (ratOK_d h2)]
        simp only [go_sem, h1, h2]
      by_cases h4 : d = [48]
      · rw [h4, partsQ_f ratOK_d0]
        simp only [go_sem, h1, s48]
      by_cases h5 : d = [49]
      · rw [h5, partsQ_f ratOK_d1]
        simp only [go_sem, h1, s49, h0, Bool.or_true]
      by_cases h3 : n = [48]
      · rw [h3, partsQ_f (ratOK_n0 h2 h5)]
        simp only [go_sem, s48, h2, h4, h5, h0, Bool.or_true]
      simp only [go_sem, h1, h2, h3, h4, h5, cRGcd_v (shortN_iff.1 h1).1 (shortN_iff.1 h2).1, dec_one_eq]
      refine AXc.introN (fun h6 => ?_) (fun h6 => ?_)
      · rw [partsQ_f (by rw [ratOK_g h1 h2 h3 h4 h5]; simpa using h6)]
        simp only [go_sem]
      · rw [partsQ_t (by rw [ratOK_g h1 h2 h3 h4 h5]; simpa using h6)]
        simp only [go_sem]
    | none =>
      rw [p2 hf]
      have hx : ixB r 47 = -1 := by unfold ixB; rw [hf]
      rw [hx]
      have z49 : decide (([49] : List UInt8) = [48]) = false := by decide
      by_cases h1 : shortN r = true
      case neg =>
        rw [partsQ_f (ratOK_n h1)]
        simp only [go_sem, h1, s49, z49]
      by_cases h2 : r = [48]
      · rw [h2, parts01]
        simp only [go_sem, s48, s49, z49, cRGcd_v (shortN_iff.1 s48).1 (shortN_iff.1 s49).1, if_true, Bool.false_eq_true, if_false]
      · rw [partsQ_t (by rw [ratOK_1 h1]; simp [h2])]
        simp only [go_sem, h1, s49, z49, h2, cRGcd_v (shortN_iff.1 h1).1 (shortN_iff.1 s49).1]
end Go.Proofs

/- The reference's rational numbers: Parts, Valid, sums. -/
namespace Go.Proofs
open Go.Ab Go.Pl
noncomputable def cRParts : List V → Option PR := conOf (fun a : List UInt8 => [.str a]) (fun a => a.length ≤ 1000000000) fun a => .ret (partsV a)
theorem cRParts_eq (a : List UInt8) (h : a.length ≤ 1000000000) : cRParts [.str a] = some (.ret (partsV a)) := conOf_eq (pat := fun a : List UInt8 => [V.str a]) (fun x y h => by simpa using h) a h
theorem cRParts_ok : ∀ args r, cRParts args = some r → PCall Tryz.prog 42 args r := conOf_ok fun a h => rParts_ok a h
theorem partsV_s {a : List UInt8} {s : Bool} {n d : Nat} (hr : ratP a = some (s, n, d)) : partsV a = .tup [.bool s, .str (dec n), .str (dec d), .bool true] := by
  unfold partsV
  generalize ratP a = q at hr
  subst hr
  rfl
theorem partsV_n {a : List UInt8} (hr : ratP a = none) : partsV a = .tup [.bool false, .str [], .str [], .bool false] := by
  unfold partsV
  generalize ratP a = q at hr
  subst hr
  rfl
@[go_sem] theorem cRParts_s {a : List UInt8} {s : Bool} {n d : Nat} (hr : ratP a = some (s, n, d)) (h : a.length ≤ 1000000000) : cRParts [.str a] = some (.ret (.tup [.bool s, .str (dec n), .str (dec d), .bool true])) :=
  (cRParts_eq a h).trans (congrArg (fun v => some (PR.ret v)) (partsV_s hr))
@[go_sem] theorem cRParts_n {a : List UInt8} (hr : ratP a = none) (h : a.length ≤ 1000000000) : cRParts [.str a] = some (.ret (.tup [.bool false, .str [], .str [], .bool false])) :=
  (cRParts_eq a h).trans (congrArg (fun v => some (PR.ret v)) (partsV_n hr))
theorem r3Valid_ok (a : List UInt8) (h : a.length ≤ 1000000000) : PCall Tryz.prog 38 [.str a] (.ret (.bool (ratP a).isSome)) := by
  refine PCall.walk (rs := [.tmp 2]) [0, 2, 6] [] mixed (extΓ_ok cRParts_ok noΓ_ok) (noΔ_ok) call38 Tryz.func38 rfl Tryz.ntmps38 rfl (by kernel_rfl) (by simp) (by simp [pure_bool, pure_int, pure_str, pure_fs, pure_fp, pure_fn, pure_agg, pure_tup, pure_nilS, pure_nilP, pure_natsP, pure_intsP, pure_strsP, pure_list, pure_cntsP]) ?_
  cases hr : ratP a with
  | none => simp (disch := (first | assumption | omega | (simp only [push_cast] <;> omega))) only [go_sem, hr, Option.isSome_none]
  | some q =>
    obtain ⟨s, n, d⟩ := q
    simp (disch := (first | assumption | omega | (simp only [push_cast] <;> omega))) only [go_sem, hr, Option.isSome_some]
noncomputable def cR3Valid : List V → Option PR := conOf (fun a : List UInt8 => [.str a]) (fun a => a.length ≤ 1000000000) fun a => .ret (.bool (ratP a).isSome)
@[go_sem] theorem cR3Valid_eq (a : List UInt8) (h : a.length ≤ 1000000000) : cR3Valid [.str a] = some (.ret (.bool (ratP a).isSome)) := conOf_eq (pat := fun a : List UInt8 => [V.str a]) (fun x y h => by simpa using h) a h
theorem cR3Valid_ok : ∀ args r, cR3Valid args = some r → PCall Tryz.prog 38 args r := conOf_ok fun a h => r3Valid_ok a h
end Go.Proofs

/- rat: parse, Valid, Cmp. -/
namespace Go.Proofs
open Go.Ab Go.Pl
attribute [go_sem] List.getElem?_cons_zero List.getElem?_cons_succ
def numV (s : Bool) (n d : List UInt8) : V := .agg [.bool s, .str n, .str d]
def parseV (a : List UInt8) : V := match ratP a with
  | some (s, n, d) => .tup [numV s (dec n) (dec d), .bool true]
  | none => .tup [numV false [] [], .bool false]
def parseQ (neg : Bool) (n d : List UInt8) (fr : Bool) : V := if ratOK neg n d fr = true then .tup [numV neg n d, .bool true] else .tup [numV false [] [], .bool false]
theorem parseV_eq (a : List UInt8) : parseV a = parseQ (ratSplit a).1 (ratSplit a).2.1 (ratSplit a).2.2.1 (ratSplit a).2.2.2 := by
  unfold parseV parseQ ratP
  split
  · rename_i h
    split at h
    · rename_i hk
      simp only [Option.some.injEq, Prod.mk.injEq] at h
      obtain ⟨rfl, rfl, rfl⟩ := h
      rw [if_pos hk]
      simp only [ratOK, Bool.and_eq_true] at hk
      rw [validN_decI (shortN_iff.1 hk.1.1.1.1).1, validN_decI (shortN_iff.1 hk.1.1.1.2).1]
    · cases h
  · rename_i h
    split at h
    · cases h
    · rename_i hk
      rw [if_neg hk]
theorem parse_some {a : List UInt8} {neg : Bool} {r : List UInt8} {i : Nat} (h1 : decide (a.getD 0 0 = 45) = neg) (h2 : r = if neg = true then a.drop 1 else a) (h3 : r.findIdx? (· == 47) = some i) : parseV a = parseQ neg (r.take i) (r.drop (i + 1)) true := by
  rw [parseV_eq]
  have : ratSplit a = (neg, r.take i, r.drop (i + 1), true) := by
    unfold ratSplit
    simp only
    rw [h1, ← h2, h3]
  rw [this]
theorem parse_none {a : List UInt8} {neg : Bool} {r : List UInt8} (h1 : decide (a.getD 0 0 = 45) = neg) (h2 : r = if neg = true then a.drop 1 else a) (h3 : r.findIdx? (· == 47) = none) : parseV a = parseQ neg r [49] false := by
  rw [parseV_eq]
  have : ratSplit a = (neg, r, [49], false) := by
    unfold ratSplit
    simp only
    rw [h1, ← h2, h3]
  rw [this]
theorem parseQ_t {neg : Bool} {n d : List UInt8} {fr : Bool} (h : ratOK neg n d fr = true) : parseQ neg n d fr = .tup [numV neg n d, .bool true] := if_pos h
theorem parseQ_f {neg : Bool} {n d : List UInt8} {fr : Bool} (h : ratOK neg n d fr = false) : parseQ neg n d fr = .tup [numV false [] [], .bool false] := if_neg (by rw [h]; decide)
theorem pref45 (a : List UInt8) : List.isPrefixOf [45] a = decide (a.getD 0 0 = 45) := by
  rcases a with _ | ⟨c, a⟩
  · rfl
  · show (45 == c && true) = decide (c = 45)
    rw [Bool.and_true, Bool.eq_iff_iff]
    simp only [beq_iff_eq, decide_eq_true_eq]
    exact eq_comm
theorem short_bool (n d : List UInt8) : (!validN n || !validN d || decide (400 < (n.length : Int)) || decide (400 < (d.length : Int))) = !(shortN n && shortN d) := by
  rw [Bool.eq_iff_iff]
  simp only [shortN, Bool.or_eq_true, Bool.not_eq_true', Bool.and_eq_false_imp, decide_eq_true_eq, Bool.and_eq_true, decide_eq_false_iff_not]
  constructor
  · rintro (((h | h) | h) | h) h1 h2
    · rw [h] at h1; exact absurd h1.1 (by decide)
    · rw [h] at h2; exact absurd h2 (by decide)
    · omega
    · omega
  · intro h
    by_cases h1 : validN n = true
    · by_cases h2 : validN d = true
      · by_cases h3 : n.length ≤ 400
        · have := h ⟨h1, h3⟩ h2
          exact .inr (by omega)
        · exact .inl (.inr (by omega))
      · exact .inl (.inl (.inr (by simpa using h2)))
    · exact .inl (.inl (.inl (by simpa using h1)))
theorem short_one (n : List UInt8) : (!validN n || decide (400 < (n.length : Int))) = !shortN n := by
  have := short_bool n [49]
  have h1 : validN [49] = true := by decide
  have h2 : decide (400 < (([49] : List UInt8).length : Int)) = false := by decide
  rw [h1, h2, s49, Bool.not_true, Bool.or_false, Bool.or_false, Bool.and_true] at this
  exact this
set_option maxHeartbeats 8000000 in
set_option maxRecDepth 100000 in
theorem parse_ok (a : List UInt8) (hl : a.length ≤ 1000000000) : PCall Tryz.prog 55 [.str a] (.ret (parseV a)) := by
  have hΓ := extΓ_ok cCutPref_ok (extΓ_ok cCut_ok (extΓ_ok cValid_ok (extΓ_ok cNGcd_ok noΓ_ok)))
  refine PCall.walk (rs := [.cell 2 87, .tmp 3]) [0, 2, 3, 4, 5, 6, 7, 8, 9, 10, 23, 41, 58, 71] [] mixed (hΓ) (noΔ_ok) call55 Tryz.func55 rfl Tryz.ntmps55 rfl (by kernel_rfl) (by simp) (by simp [pure_bool, pure_int, pure_str, pure_fs, pure_fp, pure_fn, pure_agg, pure_tup, pure_nilS, pure_nilP, pure_natsP, pure_intsP, pure_strsP, pure_list, pure_cntsP]) ?_
  by_cases hneg : a.getD 0 0 = 45
  · have hq := decide_eq_true hneg
    have hr : (a.drop 1).length ≤ 1000000000 := by first | exact hl | (simp; omega)
    have p1 := fun i => parse_some (r := a.drop 1) (i := i) hq rfl
    have p2 := parse_none (r := a.drop 1) hq rfl
    have hcp : cutPrefV a [45] = .tup [.str (a.drop 1), .bool true] := by
      unfold cutPrefV
      rw [pref45, hq]
      rfl
    simp (disch := (first | assumption | omega | (simp only [push_cast] <;> omega))) only [go_sem, hcp]
    generalize a.drop 1 = r at *
    cases hf : r.findIdx? (· == 47) with
    | some i =>
      rw [p1 i hf]
      have hct : cutV r 47 = .tup [.str (r.take i), .str (r.drop (i + 1)), .bool true] := by unfold cutV; rw [hf]
      generalize r.take i = n at *
      generalize r.drop (i + 1) = d at *
      simp only [go_sem, hct]
      rw [short_bool]
      by_cases h1 : shortN n = true
      case neg =>
        rw [parseQ_f (ratOK_n h1)]
        simp only [go_sem, h1, Bool.false_and, numV]
        exact .pure (by simp [pure_agg, pure_bool, pure_str])
      by_cases h2 : shortN d = true
      case neg =>
        rw [parseQ_f (ratOK_d h2)]
        simp only [go_sem, h1, h2, Bool.and_false, numV]
        exact .pure (by simp [pure_agg, pure_bool, pure_str])
      by_cases h4 : d = [48]
      · rw [h4, parseQ_f ratOK_d0]
        simp only [go_sem, h1, s48, Bool.and_self, numV]
        exact .pure (by simp [pure_agg, pure_bool, pure_str])
      by_cases h5 : d = [49]
      · rw [h5, parseQ_f ratOK_d1]
        simp only [go_sem, h1, s49, Bool.and_self, numV]
        first
          | exact .pure (by simp [pure_agg, pure_bool, pure_str])
          | exact ⟨fun h => ⟨h, fun _ => by rw [h]; rfl⟩, .pure (by simp [pure_agg, pure_bool, pure_str])⟩
      by_cases h3 : n = [48]
      · rw [h3, parseQ_f (ratOK_n0 h2 h5)]
        have hg : decide (Nat.gcd (valD [48]) (valD d) = 1) = false := by
          rw [decide_eq_false_iff_not, show valD [48] = 0 from rfl, Nat.gcd_zero_left]
          intro e
          have hv := validN_decI (shortN_iff.1 h2).1
          rw [e] at hv
          exact h5 hv.symm
        simp only [go_sem, s48, h2, h4, h5, Bool.and_self, numV, cNGcd_v (shortN_iff.1 s48).1 (shortN_iff.1 h2).1, dec_one_eq, hg]
        exact .pure (by simp [pure_agg, pure_bool, pure_str])
      simp only [go_sem, h1, h2, h3, h4, h5, cNGcd_v (shortN_iff.1 h1).1 (shortN_iff.1 h2).1, dec_one_eq, Bool.and_self]
      refine AXc.introN (fun h6 => ?_) (fun h6 => ?_)
      · rw [parseQ_f (by rw [ratOK_g h1 h2 h3 h4 h5]; simpa using h6)]
        simp only [go_sem, numV]
        exact .pure (by simp [pure_agg, pure_bool, pure_str])
      · rw [parseQ_t (by rw [ratOK_g h1 h2 h3 h4 h5]; simpa using h6)]
        simp only [go_sem, numV]
        exact .pure (by simp [pure_agg, pure_bool, pure_str])
    | none =>
      rw [p2 hf]
      have hct : cutV r 47 = .tup [.str r, .str [], .bool false] := by unfold cutV; rw [hf]
      have v49 : validN [49] = true := by decide
      simp only [go_sem, hct, v49]
      rw [short_one]
      by_cases h1 : shortN r = true
      case neg =>
        rw [parseQ_f (ratOK_n h1)]
        simp only [go_sem, h1, numV]
        exact .pure (by simp [pure_agg, pure_bool, pure_str])
      have g1 : decide (Nat.gcd (valD r) (valD [49]) = 1) = true := by
        rw [decide_eq_true_eq, show valD [49] = 1 from rfl, Nat.gcd_one_right]
      by_cases h3 : r = [48]
      · have hq2 : parseQ true r [49] false = if true = true then .tup [numV false [] [], .bool false] else .tup [numV true r [49], .bool true] := by
          unfold parseQ
          rw [ratOK_1 h1, h3]
          rfl
        rw [hq2]
        rw [h3] at g1 ⊢
        simp only [go_sem, s48, numV, cNGcd_v (shortN_iff.1 s48).1 (shortN_iff.1 s49).1, dec_one_eq, g1, if_true, Bool.false_eq_true, if_false]
        exact .pure (by simp [pure_agg, pure_bool, pure_str])
      · rw [parseQ_t (by rw [ratOK_1 h1]; simp [h3])]
        simp only [go_sem, h1, h3, numV, cNGcd_v (shortN_iff.1 h1).1 (shortN_iff.1 s49).1, dec_one_eq, g1]
        exact .pure (by simp [pure_agg, pure_bool, pure_str])
  · have hq := decide_eq_false hneg
    have hr : (a).length ≤ 1000000000 := by first | exact hl | (simp; omega)
    have p1 := fun i => parse_some (r := a) (i := i) hq rfl
    have p2 := parse_none (r := a) hq rfl
    have hcp : cutPrefV a [45] = .tup [.str (a), .bool false] := by
      unfold cutPrefV
      rw [pref45, hq]
      rfl
    simp (disch := (first | assumption | omega | (simp only [push_cast] <;> omega))) only [go_sem, hcp]
    generalize a = r at *
    cases hf : r.findIdx? (· == 47) with
    | some i =>
      rw [p1 i hf]
      have hct : cutV r 47 = .tup [.str (r.take i), .str (r.drop (i + 1)), .bool true] := by unfold cutV; rw [hf]
      generalize r.take i = n at *
      generalize r.drop (i + 1) = d at *
      simp only [go_sem, hct]
      rw [short_bool]
      by_cases h1 : shortN n = true
      case neg =>
        rw [parseQ_f (ratOK_n h1)]
        simp only [go_sem, h1, Bool.false_and, numV]
        exact .pure (by simp [pure_agg, pure_bool, pure_str])
      by_cases h2 : shortN d = true
      case neg =>
        rw [parseQ_f (ratOK_d h2)]
        simp only [go_sem, h1, h2, Bool.and_false, numV]
        exact .pure (by simp [pure_agg, pure_bool, pure_str])
      by_cases h4 : d = [48]
      · rw [h4, parseQ_f ratOK_d0]
        simp only [go_sem, h1, s48, Bool.and_self, numV]
        exact .pure (by simp [pure_agg, pure_bool, pure_str])
      by_cases h5 : d = [49]
      · rw [h5, parseQ_f ratOK_d1]
        simp only [go_sem, h1, s49, Bool.and_self, numV]
        first
          | exact .pure (by simp [pure_agg, pure_bool, pure_str])
          | exact ⟨fun h => ⟨h, fun _ => by rw [h]; rfl⟩, .pure (by simp [pure_agg, pure_bool, pure_str])⟩
      by_cases h3 : n = [48]
      · rw [h3, parseQ_f (ratOK_n0 h2 h5)]
        have hg : decide (Nat.gcd (valD [48]) (valD d) = 1) = false := by
          rw [decide_eq_false_iff_not, show valD [48] = 0 from rfl, Nat.gcd_zero_left]
          intro e
          have hv := validN_decI (shortN_iff.1 h2).1
          rw [e] at hv
          exact h5 hv.symm
        simp only [go_sem, s48, h2, h4, h5, Bool.and_self, numV, cNGcd_v (shortN_iff.1 s48).1 (shortN_iff.1 h2).1, dec_one_eq, hg]
        exact .pure (by simp [pure_agg, pure_bool, pure_str])
      simp only [go_sem, h1, h2, h3, h4, h5, cNGcd_v (shortN_iff.1 h1).1 (shortN_iff.1 h2).1, dec_one_eq, Bool.and_self]
      refine AXc.introN (fun h6 => ?_) (fun h6 => ?_)
      · rw [parseQ_f (by rw [ratOK_g h1 h2 h3 h4 h5]; simpa using h6)]
        simp only [go_sem, numV]
        exact .pure (by simp [pure_agg, pure_bool, pure_str])
      · rw [parseQ_t (by rw [ratOK_g h1 h2 h3 h4 h5]; simpa using h6)]
        simp only [go_sem, numV]
        exact .pure (by simp [pure_agg, pure_bool, pure_str])
    | none =>
      rw [p2 hf]
      have hct : cutV r 47 = .tup [.str r, .str [], .bool false] := by unfold cutV; rw [hf]
      have v49 : validN [49] = true := by decide
      simp only [go_sem, hct, v49]
      rw [short_one]
      by_cases h1 : shortN r = true
      case neg =>
        rw [parseQ_f (ratOK_n h1)]
        simp only [go_sem, h1, numV]
        exact .pure (by simp [pure_agg, pure_bool, pure_str])
      have g1 : decide (Nat.gcd (valD r) (valD [49]) = 1) = true := by
        rw [decide_eq_true_eq, show valD [49] = 1 from rfl, Nat.gcd_one_right]
      by_cases h3 : r = [48]
      · have hq2 : parseQ false r [49] false = if false = true then .tup [numV false [] [], .bool false] else .tup [numV false r [49], .bool true] := by
          unfold parseQ
          rw [ratOK_1 h1, h3]
          rfl
        rw [hq2]
        rw [h3] at g1 ⊢
        simp only [go_sem, s48, numV, cNGcd_v (shortN_iff.1 s48).1 (shortN_iff.1 s49).1, dec_one_eq, g1, if_true, Bool.false_eq_true, if_false]
        exact .pure (by simp [pure_agg, pure_bool, pure_str])
      · rw [parseQ_t (by rw [ratOK_1 h1]; simp [h3])]
        simp only [go_sem, h1, h3, numV, cNGcd_v (shortN_iff.1 h1).1 (shortN_iff.1 s49).1, dec_one_eq, g1]
        exact .pure (by simp [pure_agg, pure_bool, pure_str])
end Go.Proofs
