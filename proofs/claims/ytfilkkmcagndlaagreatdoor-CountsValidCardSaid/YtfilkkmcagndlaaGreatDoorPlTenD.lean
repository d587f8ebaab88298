/- Digit lists and decimal strings. No program in sight. -/
import Derived.Test.YtfilkkmcagndlaaGreatDoorPlTen
import Derived.Test.YtfilkkmcagndlaaGreatDoorPlDiv
import Derived.Test.YtfilkkmcagndlaaGreatDoorQBld
import Derived.Test.YtfilkkmcagndlaaGreatDoorQNat5
import Derived.Test.YtfilkkmcagndlaaGreatDoorS0Types
import Derived.Laws.Externs
import Derived.Test.YtfilkkmcagndlaaGreatDoorVM2
set_option linter.unusedSimpArgs false
set_option linter.unusedVariables false
set_option linter.all false
namespace Go.Pl
def dg (d : Nat) : UInt8 := UInt8.ofNat (48 + d)
theorem dg_isDig {d : Nat} (h : d < 10) : isDig (dg d) = true := by
  have := toNat_dig h
  unfold isDig dg
  rw [this]
  simp; omega
theorem dg_val {d : Nat} (h : d < 10) : (dg d).toNat - 48 = d := by
  have := toNat_dig h
  unfold dg; omega
theorem valD_dgs : ∀ {l : List Nat}, Ten.okL l → valD (l.reverse.map dg) = Ten.valL l
  | [], _ => rfl
  | d :: l, h => by
    have h1 : d < 10 := h d (List.mem_cons_self ..)
    have h2 : Ten.okL l := fun x hx => h x (List.mem_cons_of_mem _ hx)
    rw [List.reverse_cons, List.map_append, List.map_cons, List.map_nil, valD_snoc, valD_dgs h2, dg_val h1, Ten.valL]; omega
theorem dgs_dig {l : List Nat} (h : Ten.okL l) : (l.map dg).all isDig = true := List.all_eq_true.2 fun c hc => by
  obtain ⟨d, hd, rfl⟩ := List.mem_map.1 hc
  exact dg_isDig (h d hd)
theorem ten_take_zero : ∀ {l : List Nat} {n : Nat}, n ≤ l.length → (∀ j, n ≤ j → l.getD j 0 = 0) → Ten.valL (l.take n) = Ten.valL l
  | [], _, _, _ => by simp
  | d :: l, 0, _, h => by
    have hd : d = 0 := h 0 (Nat.le_refl _)
    have := ten_take_zero (l := l) (n := 0) (Nat.zero_le _) fun j hj => by have := h (j + 1) (by omega); simpa using this
    rw [List.take_zero] at this ⊢
    show Ten.valL [] = d + 10 * Ten.valL l
    rw [← this, hd]; rfl
  | d :: l, n + 1, hn, h => by
    rw [List.take_succ_cons, Ten.valL, Ten.valL, ten_take_zero (by simpa using hn) fun j hj => by have := h (j + 1) (by omega); simpa using this]
theorem okT_take {l : List Nat} (h : Ten.okL l) (n : Nat) : Ten.okL (l.take n) := fun d hd => h d (List.mem_of_mem_take hd)
theorem ten_text {l : List Nat} {n : Nat} (ok : Ten.okL l) (hn : n ≤ l.length) (hz : ∀ j, n ≤ j → l.getD j 0 = 0) (h1 : n ≤ 1 ∨ l.getD (n - 1) 0 ≠ 0) (h0 : 0 < n) : (l.take n).reverse.map dg = dec (Ten.valL l) := by
  have hv : valD ((l.take n).reverse.map dg) = Ten.valL l := (valD_dgs (okT_take ok n)).trans (ten_take_zero hn hz)
  have hl : ((l.take n).reverse.map dg).length = n := by simp; omega
  rw [← hv]
  refine (dec_valD ?_ ?_ ?_).symm
  · rw [List.map_reverse, List.all_reverse]; exact dgs_dig (okT_take ok n)
  · intro e; rw [e] at hl; simp at hl; omega
  · rw [hl]
    rcases h1 with h1 | h1
    · exact .inl h1
    · right
      have e : ((l.take n).reverse.map dg).getD 0 0 = dg (l.getD (n - 1) 0) := by
        rw [List.getD_eq_getElem?_getD, List.getElem?_map, List.getElem?_reverse (by simp; omega), List.getElem?_take, List.length_take, Nat.min_eq_left hn, if_pos (by omega), List.getD_eq_getElem?_getD]
        rw [Nat.sub_zero, List.getElem?_eq_getElem (by omega)]; rfl
      have hlt : l.getD (n - 1) 0 < 10 := by
        rw [List.getD_eq_getElem?_getD, List.getElem?_eq_getElem (by omega)]
        exact ok _ (List.getElem_mem _)
      rw [e]
      have := toNat_dig hlt
      unfold dg; omega
theorem drop_getD {α : Type} (l : List α) (i : Nat) (d : α) (h : i < l.length) : l.drop i = l.getD i d :: l.drop (i + 1) := by
  rw [List.getD_eq_getElem?_getD, List.getElem?_eq_getElem h]
  exact List.drop_eq_getElem_cons h
theorem valD_first {a b : List UInt8} {i : Nat} (ha : a.all isDig = true) (hb : b.all isDig = true) (hl : a.length = b.length) (hi : i < a.length) (ht : a.take i = b.take i) (h : a.getD i 0 < b.getD i 0) : valD a < valD b := by
  have ea : a = a.take i ++ (a.getD i 0 :: a.drop (i + 1)) := by rw [← drop_getD a i 0 hi, List.take_append_drop]
  have eb : b = b.take i ++ (b.getD i 0 :: b.drop (i + 1)) := by rw [← drop_getD b i 0 (by omega), List.take_append_drop]
  have h1 : valD (a.drop (i + 1)) < 10 ^ (a.drop (i + 1)).length := valD_lt (List.all_eq_true.2 fun c hc => List.all_eq_true.1 ha c (List.mem_of_mem_drop hc))
  have hlen : (b.drop (i + 1)).length = (a.drop (i + 1)).length := by simp; omega
  have da := isDig_le (all_getD.1 ha i hi)
  have db := isDig_le (all_getD.1 hb i (by omega))
  have hlt : (a.getD i 0).toNat < (b.getD i 0).toNat := UInt8.lt_iff_toNat_lt.1 h
  have e1 : valD a = 10 ^ ((a.drop (i + 1)).length + 1) * valD (a.take i) + (10 ^ (a.drop (i + 1)).length * ((a.getD i 0).toNat - 48) + valD (a.drop (i + 1))) := by
    have := congrArg valD ea
    rw [valD_append, valD_cons, List.length_cons] at this
    exact this
  have e2 : valD b = 10 ^ ((a.drop (i + 1)).length + 1) * valD (a.take i) + (10 ^ (a.drop (i + 1)).length * ((b.getD i 0).toNat - 48) + valD (b.drop (i + 1))) := by
    have := congrArg valD eb
    rw [valD_append, valD_cons, List.length_cons, hlen, ← ht] at this
    exact this
  rw [e1, e2]
  have h2 : 10 ^ (a.drop (i + 1)).length * ((a.getD i 0).toNat - 48 + 1) ≤ 10 ^ (a.drop (i + 1)).length * ((b.getD i 0).toNat - 48) := Nat.mul_le_mul_left _ (by omega)
  rw [Nat.mul_add, Nat.mul_one] at h2
  omega
theorem dec_shorter {m n : Nat} (h : (dec m).length < (dec n).length) : m < n := by
  refine Nat.lt_of_not_le fun hle => ?_
  have h1 := dec_len_lt (Nat.le_refl (dec m).length)
  have h2 := dec_lt_len (n := n) (k := (dec m).length) (by omega) (dec_pos m)
  omega
def lessF (a b c : Nat) : Nat × Nat := if a < b + c then (a + 10 - b - c, 1) else (a - b - c, 0)
theorem lessF_eq {a b c : Nat} (ha : a < 10) (hb : b < 10) (hc : c ≤ 1) : lessF a b c = Ten.minusF a b c := by
  unfold lessF Ten.minusF
  split
  · have e1 : (a + 10 - b - c) % 10 = a + 10 - b - c := Nat.mod_eq_of_lt (by omega)
    have e2 : (a + 10 - b - c) / 10 = 0 := Nat.div_eq_of_lt (by omega)
    rw [e1, e2]
  · have e1 : (a + 10 - b - c) % 10 = a - b - c := by omega
    have e2 : (a + 10 - b - c) / 10 = 1 := by omega
    rw [e1, e2]
theorem less_val {x y : List Nat} (hx : Ten.okL x) (hy : Ten.okL y) (hl : y.length ≤ x.length) (hle : Ten.valL y ≤ Ten.valL x) :
    Ten.valL (Ten.eachR Ten.minusF x y x.length).1 = Ten.valL x - Ten.valL y ∧ Ten.okL (Ten.eachR Ten.minusF x y x.length).1 := by
  have h := Ten.minus_inv x y hx hy x.length
  rw [List.take_length, List.take_of_length_le hl] at h
  have ok : Ten.okL (Ten.eachR Ten.minusF x y x.length).1 := Ten.okL_each (fun a b c => Ten.minusF_ok a b c) _
  have hlt := Ten.valL_lt ok
  rw [Ten.eachR_len] at hlt
  refine ⟨?_, ok⟩
  rcases Nat.eq_zero_or_pos (Ten.eachR Ten.minusF x y x.length).2 with h0 | h0
  · rw [h0, Nat.mul_zero] at h; omega
  · have : 10 ^ x.length * 1 ≤ 10 ^ x.length * (Ten.eachR Ten.minusF x y x.length).2 := Nat.mul_le_mul_left _ h0
    omega
theorem add_val {x y : List Nat} {n : Nat} (hx : Ten.okL x) (hy : Ten.okL y) (h1 : x.length < n) (h2 : y.length < n) :
    Ten.valL (Ten.eachR Ten.plusF x y n).1 = Ten.valL x + Ten.valL y ∧ Ten.okL (Ten.eachR Ten.plusF x y n).1 := by
  have ok : ∀ i, Ten.okL (Ten.eachR Ten.plusF x y i).1 := fun i => Ten.okL_each (fun a b c => Ten.plusF_ok a b c) _
  obtain ⟨m, rfl⟩ : ∃ m, n = m + 1 := ⟨n - 1, by omega⟩
  have h := Ten.plus_inv x y (m + 1)
  rw [List.take_of_length_le (by omega), List.take_of_length_le (by omega)] at h
  refine ⟨?_, ok _⟩
  have hxl := Ten.valL_lt hx
  have hyl := Ten.valL_lt hy
  have p1 : (10 : Nat) ^ x.length ≤ 10 ^ m := Nat.pow_le_pow_right (by omega) (by omega)
  have p2 : (10 : Nat) ^ y.length ≤ 10 ^ m := Nat.pow_le_pow_right (by omega) (by omega)
  have p3 : (10 : Nat) ^ (m + 1) = 10 ^ m * 10 := Nat.pow_succ ..
  rcases Nat.eq_zero_or_pos (Ten.eachR Ten.plusF x y (m + 1)).2 with h0 | h0
  · rw [h0, Nat.mul_zero] at h; omega
  · have : 10 ^ (m + 1) * 1 ≤ 10 ^ (m + 1) * (Ten.eachR Ten.plusF x y (m + 1)).2 := Nat.mul_le_mul_left _ h0
    omega
end Go.Pl

/- Long division, digit by digit, on decimal strings. No program in sight. -/
namespace Go.Pl
theorem dec_mono_len {m n : Nat} (h : m ≤ n) : (dec m).length ≤ (dec n).length := Nat.le_of_not_lt fun hlt => by
  have := dec_shorter hlt
  omega
theorem dec_snoc {r d : Nat} (hr : 0 < r) (hd : d < 10) : dec r ++ [dg d] = dec (10 * r + d) := by
  rw [dec_big (n := 10 * r + d) (by omega)]
  have e1 : (10 * r + d) / 10 = r := by omega
  have e2 : (10 * r + d) % 10 = d := by omega
  rw [e1, e2]; rfl
theorem dec_one {d : Nat} (hd : d < 10) : [dg d] = dec (10 * 0 + d) := by rw [Nat.mul_zero, Nat.zero_add, dec_small hd]; rfl
theorem dg_of {c : UInt8} (h : isDig c = true) : dg (c.toNat - 48) = c := by
  have := isDig_le h
  unfold dg
  apply UInt8.toNat_inj.1
  rw [UInt8.toNat_ofNat']
  omega
theorem dec_zero : dec 0 = [48] := rfl
theorem dec_is_zero {n : Nat} : dec n = [48] ↔ n = 0 := by
  constructor
  · intro h; have := congrArg valD h; rw [valD_dec] at this; exact this
  · rintro rfl; rfl
theorem valD_take {a : List UInt8} {i : Nat} (h : i < a.length) : valD (a.take (i + 1)) = 10 * valD (a.take i) + ((a.getD i 0).toNat - 48) := by
  have : a.take (i + 1) = a.take i ++ [a.getD i 0] := by
    rw [List.take_add_one, List.getD_eq_getElem?_getD, List.getElem?_eq_getElem h]; rfl
  rw [this, valD_snoc]
theorem quo_step {V n d : Nat} (hn : 0 < n) (hd : d < 10) : (10 * V + d) / n = 10 * (V / n) + (10 * (V % n) + d) / n ∧ (10 * V + d) % n = (10 * (V % n) + d) % n ∧ (10 * (V % n) + d) / n < 10 := by
  have h := Nat.div_add_mod V n
  have hm := Nat.mod_lt V hn
  have e : 10 * V + d = 10 * (V % n) + d + n * (10 * (V / n)) := by
    rw [Nat.mul_left_comm]; omega
  refine ⟨?_, ?_, ?_⟩
  · rw [e, Nat.add_mul_div_left _ _ hn]; omega
  · rw [e, Nat.add_mul_mod_self_left]
  · exact (Nat.div_lt_iff_lt_mul hn).2 (by omega)
theorem quo_text {w : List Nat} {k : Nat} (ok : ∀ d ∈ w, d < 10) (hk : k < w.length) (hz : ∀ j, j < k → w.getD j 0 = 0) (h1 : k = w.length - 1 ∨ w.getD k 0 ≠ 0) : (w.drop k).map dg = dec (valD (w.map dg)) := by
  have key : ∀ (w : List Nat) (k : Nat), (∀ j, j < k → w.getD j 0 = 0) → valD (w.map dg) = valD ((w.drop k).map dg) := by
    intro w k
    induction k generalizing w with
    | zero => intro _; rfl
    | succ k ih =>
      intro hz
      cases w with
      | nil => rfl
      | cons d w =>
        have hd : d = 0 := hz 0 (by omega)
        rw [List.drop_succ_cons, ← ih w fun j hj => by simpa using hz (j + 1) (by omega), hd, List.map_cons, valD_cons]
        have : (dg 0).toNat - 48 = 0 := rfl
        rw [this]; omega
  rw [key w k hz]
  refine (dec_valD ?_ ?_ ?_).symm
  · exact dgs_dig fun d hd => ok d (List.mem_of_mem_drop hd)
  · intro e
    have := congrArg List.length e
    simp at this; omega
  · rcases h1 with h1 | h1
    · left; simp; omega
    · right
      have hlt : w.getD k 0 < 10 := by
        rw [List.getD_eq_getElem?_getD, List.getElem?_eq_getElem hk]
        exact ok _ (List.getElem_mem _)
      have e : ((w.drop k).map dg).getD 0 0 = dg (w.getD k 0) := by
        rw [drop_getD w k 0 hk]; rfl
      rw [e]
      have := toNat_dig hlt
      unfold dg; omega
end Go.Pl

/- Blocks of nine digits as text. -/
namespace Go.Pl
theorem valD_zeros (k : Nat) (s : List UInt8) : valD (List.replicate k 48 ++ s) = valD s := by
  rw [valD_append]
  have : valD (List.replicate k 48) = 0 := by
    induction k with
    | zero => rfl
    | succ k ih =>
      rw [List.replicate_succ, valD_cons, ih]
      have : (48 : UInt8).toNat - 48 = 0 := rfl
      rw [this, Nat.mul_zero]
  rw [this, Nat.mul_zero, Nat.zero_add]
theorem dec_head' {v : Nat} (h : 0 < v) : ((dec v).getD 0 0).toNat ≠ 48 := by
  by_cases h1 : 10 ≤ v
  · exact dec_head h1
  · rw [dec_small (by omega)]
    show (UInt8.ofNat (48 + v)).toNat ≠ 48
    rw [toNat_dig (by omega)]
    omega
theorem pad_len {d : Nat} (hd : d < 1000000000) : (List.replicate (9 - (dec d).length) (48 : UInt8) ++ dec d).length = 9 := by
  have : (dec d).length ≤ 9 := dec_lt_len (by omega) (by omega)
  simp; omega
theorem dec_pad {v d : Nat} (hv : 0 < v) (hd : d < 1000000000) : dec (d + 1000000000 * v) = dec v ++ (List.replicate (9 - (dec d).length) 48 ++ dec d) := by
  have h1 : valD (dec v ++ (List.replicate (9 - (dec d).length) 48 ++ dec d)) = d + 1000000000 * v := by
    rw [valD_append, pad_len hd, valD_zeros, valD_dec, valD_dec]
    omega
  rw [← h1]
  refine dec_valD ?_ ?_ (.inr ?_)
  · rw [List.all_append, List.all_append, dec_dig, dec_dig]
    simp only [Bool.true_and, Bool.and_true]
    refine List.all_eq_true.2 fun x hx => ?_
    have := List.eq_of_mem_replicate hx
    rw [this]; rfl
  · exact fun e => dec_ne v (List.append_eq_nil_iff.1 e).1
  · have hp := dec_pos v
    rw [List.getD_eq_getElem?_getD, List.getElem?_append_left hp, ← List.getD_eq_getElem?_getD]
    exact dec_head' hv
def topV (l : List Nat) (i : Nat) : Nat := valL (l.drop (l.length - i))
theorem topV_zero (l : List Nat) : topV l 0 = 0 := valL_top (by omega)
theorem topV_succ {l : List Nat} {i : Nat} (h : i < l.length) : topV l (i + 1) = l.getD (l.length - 1 - i) 0 + 1000000000 * topV l i := by
  unfold topV
  rw [valL_drop, show l.length - (i + 1) + 1 = l.length - i by omega, show l.length - (i + 1) = l.length - 1 - i by omega]
theorem topV_pos {n i : Nat} (hn : n ≠ 0) (hi : 0 < i) (hl : i ≤ (limbs n).length) : 0 < topV (limbs n) i := by
  have h1 := limbs_last hn
  have h2 : topV (limbs n) 1 ≠ 0 := by
    rw [topV_succ (by omega), topV_zero]
    simpa using h1
  obtain ⟨j, rfl⟩ : ∃ j, i = j + 1 := ⟨i - 1, by omega⟩
  clear hi
  induction j with
  | zero => exact Nat.pos_of_ne_zero h2
  | succ j ih =>
    have := ih (by omega)
    rw [topV_succ (by omega)]
    omega
theorem topV_all (n : Nat) : topV (limbs n) (limbs n).length = n := by
  unfold topV
  rw [Nat.sub_self, List.drop_zero, valL_limbs]
end Go.Pl

/- nat.text. -/
namespace Go.Proofs
open Go.Ab Go.Pl
def FmtOK : Prop := ∀ d : Nat, d < 1000000000 → PCall Tryz.prog 141 [.int .u64 d, .int .i64 10] (.ret (.str (dec d)))
def RepOK : Prop := ∀ k : Nat, k ≤ 8 → PCall Tryz.prog 143 [.str [48], .int .i64 k] (.ret (.str (List.replicate k 48)))
noncomputable def cFmt : List V → Option PR := conOf (fun d : Nat => [.int .u64 d, .int .i64 10]) (fun d => d < 1000000000) (fun d => .ret (.str (dec d)))
theorem cFmt_ok (h : FmtOK) : ∀ args r, cFmt args = some r → PCall Tryz.prog 141 args r := conOf_ok h
theorem cFmt_eq (d : Nat) (h : d < 1000000000) : cFmt [.int .u64 d, .int .i64 10] = some (.ret (.str (dec d))) := conOf_eq (pat := fun d : Nat => [V.int .u64 d, .int .i64 10]) (fun x y h => by simp at h; omega) d h
noncomputable def cRep : List V → Option PR := conOf (fun k : Nat => [.str [48], .int .i64 k]) (fun k => k ≤ 8) (fun k => .ret (.str (List.replicate k 48)))
theorem cRep_ok (h : RepOK) : ∀ args r, cRep args = some r → PCall Tryz.prog 143 args r := conOf_ok h
theorem cRep_eq (k : Nat) (h : k ≤ 8) : cRep [.str [48], .int .i64 k] = some (.ret (.str (List.replicate k 48))) := conOf_eq (pat := fun k : Nat => [V.str [48], .int .i64 k]) (fun x y h => by simp at h; omega) k h
theorem topV_len {l : List Nat} (ok : okL l) {i : Nat} (hi : i ≤ l.length) : (dec (topV l i)).length ≤ 9 * i + 1 := by
  refine dec_lt_len ?_ (by omega)
  have h1 := valL_lt (okL_drop ok (l.length - i))
  rw [List.length_drop, show l.length - (l.length - i) = i by omega] at h1
  have h3 : (10 : Nat) ^ (9 * i + 1) = 1000000000 ^ i * 10 := by rw [Nat.pow_succ, Nat.pow_mul]
  rw [h3]
  unfold topV
  generalize (1000000000 : Nat) ^ i = p at *
  omega
set_option maxHeartbeats 4000000 in
theorem text_ok (hF : FmtOK) (hR : RepOK) (n : Nat) (hn : (limbs n).length ≤ 100000) : PCall Tryz.prog 110 [.fs (nats .u64 (limbs n)) (limbs n).length] (.ret (.str (dec n))) := by
  have hΓ := extΓ_ok (cFmt_ok hF) (extΓ_ok (cRep_ok hR) noΓ_ok)
  refine PCall.walk (rs := [.tmp 2]) [0, 2, 3, 4, 5, 8, 10, 11, 12, 24] [] mixed (hΓ) (ΔB_ok) call110 Tryz.func110 rfl Tryz.ntmps110 rfl (by kernel_rfl) (by simp) (by simp [pure_bool, pure_int, pure_str, pure_fs, pure_fp, pure_fn, pure_agg, pure_tup, pure_nilS, pure_nilP, pure_natsP, pure_intsP, pure_strsP, pure_list, pure_cntsP]) ?_
  by_cases h0 : n = 0
  · subst h0
    simp only [go_sem, limbs_zero]
    rfl
  have hl0 : 0 < (limbs n).length := by
    rcases Nat.eq_zero_or_pos (limbs n).length with h | h
    · exact absurd (limbs_nil.1 (List.eq_nil_of_length_eq_zero h)) h0
    · exact h
  have ok := okL_limbs n
  have hpos := fun i hi hl => topV_pos (i := i) h0 hi hl
  have hall := topV_all n
  have hsz : ∀ i, i ≤ (limbs n).length → (dec (topV (limbs n) i)).length ≤ 1000000 := fun i hi => by
    have := topV_len ok hi
    omega
  generalize limbs n = l at *
  have hd0 : decide ((l.length : Int) = 0) = false := by rw [decide_eq_false_iff_not]; omega
  simp (disch := (first | assumption | omega | (simp only [push_cast] <;> omega))) only [go_sem, hd0]
  refine AXs.loop mixed (hΓ) ( ΔB_ok) (fun i : Nat => [(0, .fs (nats .u64 l) l.length), (3, .ptr 0 0), (10, .int .i64 l.length), (11, .int .i64 i)]) (fun i => match i with | 0 => ⟨[(0, bl0)], 1⟩ | i + 1 => ⟨[(0, bl1 0 1 (dec (topV l (i + 1))).length), (1, bly (dec (topV l (i + 1))))], 2⟩) (fun i => i ≤ l.length) (fun i => l.length - i) 0 (by kernel_rfl) (Nat.zero_le _) (Sub.of0 [] rfl rfl ?_ ?_) ?_
  · simp only [go_sem]
  · simp only [go_sem, bl0, rnb_ty]
  rintro i hi
  have hts := fun h => topV_succ (l := l) (i := i) h
  have hdl := getD_lt ok (l.length - 1 - i)
  rcases i with _ | i
  · have hdt : topV l 1 = l.getD (l.length - 1) 0 := by
      have := hts hl0
      rwa [topV_zero, Nat.mul_zero, Nat.add_zero, Nat.sub_zero] at this
    rw [Nat.sub_zero] at hdl
    have hd1 : decide (0 < (l.length : Int)) = true := by rw [decide_eq_true_eq]; omega
    have hn1 : dec (l.getD (l.length - 1) 0) ≠ [] := dec_ne _
    have hs1 := hsz 1 hl0
    rw [hdt] at hs1
    simp (disch := (first | assumption | omega | (simp only [push_cast] <;> omega))) only [go_sem, hd1, cFmt_eq, ΔB_0, Int.sub_zero]
    refine ⟨⟨by omega, by omega⟩, by omega, ?_⟩
    refine loopK_norm 1 (by omega) (by omega) (Sub.of0 [] rfl rfl ?_ ?_)
    · simp only [go_sem]
    · rw [hdt]
      simp only [go_sem, bl1, bly, rnb_ty]
      exact lrel_same (pure_bytes _)
  · simp (disch := (first | assumption | omega | (simp only [push_cast] <;> omega))) only [go_sem]
    refine AXc.introP (fun h1 => ?_) (fun h1 => ?_)
    · have hlt : i + 1 < l.length := by omega
      have hdt := hts hlt
      have hv := hpos (i + 1) (by omega) hi
      have hs1 := hsz (i + 1) hi
      have hs2 := hsz (i + 1 + 1) hlt
      rw [hdt, dec_pad hv hdl] at hs2
      have hcast : (9 : Int) - ((dec (l.getD (l.length - 1 - (i + 1)) 0)).length : Nat) = ((9 - (dec (l.getD (l.length - 1 - (i + 1)) 0)).length : Nat) : Int) := by
        have : (dec (l.getD (l.length - 1 - (i + 1)) 0)).length ≤ 9 := dec_lt_len (by omega) (by omega)
        omega
      have hp0 := dec_pos (l.getD (l.length - 1 - (i + 1)) 0)
      have hn1 : dec (l.getD (l.length - 1 - (i + 1)) 0) ≠ [] := dec_ne _
      have hd1 : decide (0 < ((i + 1 : Nat) : Int)) = true := by rw [decide_eq_true_eq]; omega
      have hpl : (List.replicate (9 - (dec (l.getD (l.length - 1 - (i + 1)) 0)).length) (48 : UInt8)).length ≤ 1000000 := by simp; omega
      rw [List.length_append, List.length_append] at hs2
      have hdt' := congrArg dec hdt
      rw [dec_pad hv hdl] at hdt'
      by_cases hz : 9 - (dec (l.getD (l.length - 1 - (i + 1)) 0)).length = 0
      · have hpad : List.replicate (9 - (dec (l.getD (l.length - 1 - (i + 1)) 0)).length) (48 : UInt8) = [] := by rw [hz]; rfl
        rw [hpad, List.nil_append] at hdt'
        simp (disch := (first | assumption | omega | (simp only [push_cast] <;> omega))) only [go_sem, hd1, cFmt_eq, hcast, cRep_eq, hpad, ΔB_e, ΔB_1]
        refine ⟨⟨by omega, by omega⟩, by omega, ?_⟩
        refine loopK_norm (i + 1 + 1) hlt (by omega) (Sub.of0 [(1, 2)] rfl rfl ?_ ?_)
        · simp only [go_sem]
          simp
        · rw [hdt']
          simp only [List.length_append]
          simp only [go_sem, bl1, bly, rnb_ty]
          exact lrel_same (pure_bytes _)
      · have hpn : List.replicate (9 - (dec (l.getD (l.length - 1 - (i + 1)) 0)).length) (48 : UInt8) ≠ [] := fun e => hz (by simpa using congrArg List.length e)
        have hl2 : (dec (topV l (i + 1)) ++ List.replicate (9 - (dec (l.getD (l.length - 1 - (i + 1)) 0)).length) (48 : UInt8)).length ≤ 1000000 := by rw [List.length_append]; omega
        simp (disch := (first | assumption | omega | (simp only [push_cast] <;> omega))) only [go_sem, hd1, cFmt_eq, hcast, cRep_eq, ΔB_1, ΔB_3, List.length_append]
        refine ⟨⟨by omega, by omega⟩, by omega, ?_⟩
        refine loopK_norm (i + 1 + 1) hlt (by omega) (Sub.of0 [(1, 3)] rfl rfl ?_ ?_)
        · simp only [go_sem]
          simp
        · rw [hdt']
          simp only [List.length_append, List.append_assoc, Nat.add_assoc]
          simp only [go_sem, bl1, bly, rnb_ty]
          exact lrel_same (pure_bytes _)
    · have hie : i + 1 = l.length := by omega
      rw [hie, hall]
      have hs := hsz (i + 1) hi
      rw [hie, hall] at hs
      have hp := dec_pos n
      simp (disch := (first | assumption | omega | (simp only [push_cast] <;> omega))) only [go_sem]
      refine AXa.go mixed (hΓ) ( ΔB_ok) (by kernel_rfl) ?_
      simp (disch := (first | assumption | omega | (simp only [push_cast] <;> omega))) only [go_sem, ΔB_s]
end Go.Proofs

/- The library's search for a byte; facts on this translation. -/
namespace Go.Proofs
open Go.Ab
def ixB (s : List UInt8) (c : UInt8) : Int := match s.findIdx? (· == c) with | some i => i | none => -1
theorem find_range {α : Type} [Inhabited α] (l : List α) (p : α → Bool) : (List.range l.length).find? (fun i => p (l.getD i default)) = l.findIdx? p := by
  induction l with
  | nil => rfl
  | cons a l ih =>
    rw [List.length_cons, List.range_succ_eq_map, List.find?_cons, List.findIdx?_cons]
    have e0 : (a :: l).getD 0 default = a := rfl
    rw [e0]
    cases h : p a with
    | true => rfl
    | false =>
      simp only [Bool.false_eq_true, if_false]
      rw [List.find?_map, ← ih]
      congr 1
theorem get_bang (s : ByteArray) (i : Nat) : s[i]! = s.data.toList.getD i default := by
  by_cases h : i < s.size
  · rw [getElem!_pos s i h]
    have h' : i < s.data.toList.length := h
    rw [List.getD_eq_getElem?_getD, List.getElem?_eq_getElem h']
    rfl
  · rw [getElem!_neg s i h]
    have h' : ¬ i < s.data.toList.length := h
    rw [List.getD_eq_getElem?_getD, List.getElem?_eq_none (by omega)]
    rfl
theorem index_ok (s : List UInt8) (c : UInt8) : PCall Tryz.prog 184 [.str s, .int .u8 (c.toNat : Int)] (.ret (.int .i64 (ixB s c))) := by
  intro g w vs _ _ hvs hpw
  obtain ⟨u0, h0, r0⟩ := hpw 0 _ rfl
  obtain ⟨u1, h1, r1⟩ := hpw 1 _ rfl
  obtain ⟨b, rfl, hb⟩ := r0.inv_str
  obtain rfl := r1.inv_int
  have hv : vs = #[.string b, .int .u8 (c.toNat : Int)] := by
    apply Array.ext_getElem?
    intro i
    match i with
    | 0 => exact h0
    | 1 => exact h1
    | i + 2 => rw [Array.getElem?_eq_none (by simp at hvs; omega)]; rfl
  subst hv
  refine .inr ⟨.int .i64 (ixB s c), w, ?_, fun _ => none, .int .i64 (ixB s c), fun c a e => (by cases e), Bel.refl _ _, rfl, .int _ _⟩
  rw [run_callFunc_extern (fn := Tryz.f184) Tryz.func184 (by kernel_rfl) rfl rfl (e := Go.Extern.BytealgIndexByte.indexByte) (by kernel_rfl)]
  have hI : (Go.Extern.BytealgIndexByte.indexByte #[.string b, .int .u8 (c.toNat : Int)]).run Tryz.prog w = (match (List.range b.size).find? (fun i => b[i]! == (c.toNat : Int).toNat.toUInt8) with | some i => Result.ok (.int .i64 (i : Int)) w | none => .ok (.int .i64 (-1)) w) := by
    show ((match (List.range b.size).find? (fun i => b[i]! == (c.toNat : Int).toNat.toUInt8) with | some i => pure (goInt i) | none => pure (goInt (-1)) : Sem Value)).run Tryz.prog w = _
    cases (List.range b.size).find? (fun i => b[i]! == (c.toNat : Int).toNat.toUInt8) <;> rfl
  have e1 : (fun i => b[i]! == c) = fun i => (fun x => x == c) (b.data.toList.getD i default) := by funext i; rw [get_bang]
  have e2 : b.size = b.data.toList.length := rfl
  have e3 : ((c.toNat : Int).toNat.toUInt8) = c := by simp
  rw [hI, e3, show List.find? (fun i => b[i]! == c) (List.range b.size) = s.findIdx? (fun x => x == c) from by (rw [e1, e2, ← hb]; exact find_range b.data.toList (fun x => x == c))]
  unfold ixB
  cases s.findIdx? (fun x => x == c) <;> rfl
end Go.Proofs

/- Strings: the library's search for a byte; Cut, CutPrefix. -/
namespace Go.Proofs
open Go.Ab Go.Pl
noncomputable def cIndexB : List V → Option PR := conOf (fun p : List UInt8 × UInt8 => [.str p.1, .int .u8 (p.2.toNat : Int)]) (fun _ => True) (fun p => .ret (.int .i64 (ixB p.1 p.2)))
theorem cIndexB_ok : ∀ args r, cIndexB args = some r → PCall Tryz.prog 184 args r := conOf_ok fun p _ => index_ok p.1 p.2
@[go_sem] theorem cIndexB_eq (s : List UInt8) (c : UInt8) : cIndexB [.str s, .int .u8 (c.toNat : Int)] = some (.ret (.int .i64 (ixB s c))) := conOf_eq (fun p q h => by
  simp at h
  obtain ⟨h1, h2⟩ := h
  have : p.2 = q.2 := UInt8.toNat_inj.1 (by omega)
  exact Prod.ext h1 this) (s, c) trivial
theorem indexByte_ok (s : List UInt8) (c : UInt8) : PCall Tryz.prog 165 [.str s, .int .u8 (c.toNat : Int)] (.ret (.int .i64 (ixB s c))) := by
  have hΓ := extΓ_ok cIndexB_ok noΓ_ok
  refine PCall.walk (rs := [.tmp 4]) [0, 1, 4] [] mixed (hΓ) (noΔ_ok) call165 Tryz.func165 rfl Tryz.ntmps165 rfl (by kernel_rfl) (by simp) (by simp [pure_bool, pure_int, pure_str, pure_fs, pure_fp, pure_fn, pure_agg, pure_tup, pure_nilS, pure_nilP, pure_natsP, pure_intsP, pure_strsP, pure_list, pure_cntsP]) ?_
  simp only [go_sem]
noncomputable def cIndexByte : List V → Option PR := conOf (fun p : List UInt8 × UInt8 => [.str p.1, .int .u8 (p.2.toNat : Int)]) (fun _ => True) (fun p => .ret (.int .i64 (ixB p.1 p.2)))
theorem cIndexByte_ok : ∀ args r, cIndexByte args = some r → PCall Tryz.prog 165 args r := conOf_ok fun p _ => indexByte_ok p.1 p.2
@[go_sem] theorem cIndexByte_eq (s : List UInt8) (c : UInt8) : cIndexByte [.str s, .int .u8 (c.toNat : Int)] = some (.ret (.int .i64 (ixB s c))) := conOf_eq (fun p q h => by
  simp at h
  obtain ⟨h1, h2⟩ := h
  have : p.2 = q.2 := UInt8.toNat_inj.1 (by omega)
  exact Prod.ext h1 this) (s, c) trivial
set_option maxHeartbeats 4000000 in
theorem index1_ok (s : List UInt8) (c : UInt8) : PCall Tryz.prog 138 [.str s, .str [c]] (.ret (.int .i64 (ixB s c))) := by
  have hΓ := extΓ_ok cIndexByte_ok noΓ_ok
  refine PCall.walk (rs := [.tmp 4]) [0, 1, 4, 5, 6, 7, 8, 9, 10, 11, 12, 13, 16, 24, 31, 36, 59, 64, 73, 93, 107, 114, 132, 139] [] mixed (hΓ) (noΔ_ok) call138 Tryz.func138 rfl Tryz.ntmps138 rfl (by kernel_rfl) (by simp) (by simp [pure_bool, pure_int, pure_str, pure_fs, pure_fp, pure_fn, pure_agg, pure_tup, pure_nilS, pure_nilP, pure_natsP, pure_intsP, pure_strsP, pure_list, pure_cntsP]) ?_
  simp only [go_sem]
  refine AXc.introP (fun h1 => ?_) (fun h1 => ?_)
  · have h2 : ixB s c = 0 := by rw [← h1]; simp [ixB, List.findIdx?_cons]
    simp only [go_sem, h2]
  · simp only [go_sem]
    rfl
noncomputable def cIndex1 : List V → Option PR := conOf (fun p : List UInt8 × UInt8 => [.str p.1, .str [p.2]]) (fun _ => True) (fun p => .ret (.int .i64 (ixB p.1 p.2)))
theorem cIndex1_ok : ∀ args r, cIndex1 args = some r → PCall Tryz.prog 138 args r := conOf_ok fun p _ => index1_ok p.1 p.2
@[go_sem] theorem cIndex1_eq (s : List UInt8) (c : UInt8) : cIndex1 [.str s, .str [c]] = some (.ret (.int .i64 (ixB s c))) := conOf_eq (fun p q h => by
  simp at h
  exact Prod.ext h.1 h.2) (s, c) trivial
def cutV (s : List UInt8) (c : UInt8) : V := match s.findIdx? (· == c) with
  | some i => .tup [.str (s.take i), .str (s.drop (i + 1)), .bool true]
  | none => .tup [.str s, .str [], .bool false]
theorem findIdx_lt {s : List UInt8} {c : UInt8} {i : Nat} (h : s.findIdx? (· == c) = some i) : i < s.length := by
  rw [List.findIdx?_eq_some_iff_getElem] at h
  exact h.1
set_option maxHeartbeats 4000000 in
theorem cutL_ok (s : List UInt8) (c : UInt8) (hs : s.length ≤ 1000000000) : PCall Tryz.prog 108 [.str s, .str [c]] (.ret (cutV s c)) := by
  have hΓ := extΓ_ok cIndex1_ok noΓ_ok
  refine PCall.walk (rs := [.tmp 4, .tmp 5, .tmp 6]) [0, 1, 4, 5, 6, 7, 12] [] mixed (hΓ) (noΔ_ok) call108 Tryz.func108 rfl Tryz.ntmps108 rfl (by kernel_rfl) (by simp) (by simp [pure_bool, pure_int, pure_str, pure_fs, pure_fp, pure_fn, pure_agg, pure_tup, pure_nilS, pure_nilP, pure_natsP, pure_intsP, pure_strsP, pure_list, pure_cntsP]) ?_
  simp only [go_sem]
  have hx : ixB s c = match s.findIdx? (· == c) with | some i => (i : Int) | none => -1 := rfl
  unfold cutV
  cases h : s.findIdx? (· == c) with
  | none =>
    rw [h] at hx
    simp only at hx
    rw [hx]
    simp only [go_sem]
  | some i =>
    rw [h] at hx
    simp only at hx
    rw [hx]
    have hi := findIdx_lt h
    simp only [go_sem]
    refine AXc.introP (fun h1 => ?_) (fun h1 => ?_)
    rotate_left; · omega
    simp (disch := (first | assumption | omega | (simp only [push_cast] <;> omega))) only [go_sem]
    refine ⟨⟨by omega, by omega⟩, ⟨by omega, by omega, by omega⟩, ?_⟩
    rw [List.take_length]
theorem cutV_tup (s : List UInt8) (c : UInt8) : ∃ a b d, cutV s c = .tup [.str a, .str b, .bool d] := by
  unfold cutV
  split <;> exact ⟨_, _, _, rfl⟩
noncomputable def cCutL : List V → Option PR := conOf (fun p : List UInt8 × UInt8 => [.str p.1, .str [p.2]]) (fun p => p.1.length ≤ 1000000000) (fun p => .ret (cutV p.1 p.2))
theorem cCutL_ok : ∀ args r, cCutL args = some r → PCall Tryz.prog 108 args r := conOf_ok fun p h => cutL_ok p.1 p.2 h
@[go_sem] theorem cCutL_eq (s : List UInt8) (c : UInt8) (h : s.length ≤ 1000000000) : cCutL [.str s, .str [c]] = some (.ret (cutV s c)) := conOf_eq (fun p q h => by
  simp at h
  exact Prod.ext h.1 h.2) (s, c) h
set_option maxHeartbeats 4000000 in
theorem cut_ok (s : List UInt8) (c : UInt8) (hs : s.length ≤ 1000000000) : PCall Tryz.prog 82 [.str s, .str [c]] (.ret (cutV s c)) := by
  have hΓ := extΓ_ok cCutL_ok noΓ_ok
  refine PCall.walk (rs := [.tmp 4, .tmp 5, .tmp 6]) [0, 1, 4, 5, 6] [] mixed (hΓ) (noΔ_ok) call82 Tryz.func82 rfl Tryz.ntmps82 rfl (by kernel_rfl) (by simp) (by simp [pure_bool, pure_int, pure_str, pure_fs, pure_fp, pure_fn, pure_agg, pure_tup, pure_nilS, pure_nilP, pure_natsP, pure_intsP, pure_strsP, pure_list, pure_cntsP]) ?_
  obtain ⟨a, b, d, h⟩ := cutV_tup s c
  simp (disch := (first | assumption | omega | (simp only [push_cast] <;> omega))) only [go_sem, h]
noncomputable def cCut : List V → Option PR := conOf (fun p : List UInt8 × UInt8 => [.str p.1, .str [p.2]]) (fun p => p.1.length ≤ 1000000000) (fun p => .ret (cutV p.1 p.2))
theorem cCut_ok : ∀ args r, cCut args = some r → PCall Tryz.prog 82 args r := conOf_ok fun p h => cut_ok p.1 p.2 h
@[go_sem] theorem cCut_eq (s : List UInt8) (c : UInt8) (h : s.length ≤ 1000000000) : cCut [.str s, .str [c]] = some (.ret (cutV s c)) := conOf_eq (fun p q h => by
  simp at h
  exact Prod.ext h.1 h.2) (s, c) h
set_option maxHeartbeats 4000000 in
theorem hasPrefixL_ok (s p : List UInt8) : PCall Tryz.prog 137 [.str s, .str p] (.ret (.bool (p.isPrefixOf s))) := by
  refine PCall.walk (rs := [.tmp 4]) [0, 1, 4] [] mixed (noΓ_ok) (noΔ_ok) call137 Tryz.func137 rfl Tryz.ntmps137 rfl (by kernel_rfl) (by simp) (by simp [pure_bool, pure_int, pure_str, pure_fs, pure_fp, pure_fn, pure_agg, pure_tup, pure_nilS, pure_nilP, pure_natsP, pure_intsP, pure_strsP, pure_list, pure_cntsP]) ?_
  simp only [go_sem]
  refine ⟨fun h => ⟨h, by omega, by simpa using h⟩, ?_⟩
  rw [Bool.eq_iff_iff]
  simp only [Bool.and_eq_true, decide_eq_true_eq, List.isPrefixOf_iff_prefix]
  constructor
  · rintro ⟨h1, h2⟩
    rw [← h2]; exact List.take_prefix _ _
  · rintro ⟨t, rfl⟩
    exact ⟨by simp; omega, by simp⟩
noncomputable def cHasPrefixL : List V → Option PR := conOf (fun p : List UInt8 × List UInt8 => [.str p.1, .str p.2]) (fun _ => True) (fun p => .ret (.bool (p.2.isPrefixOf p.1)))
theorem cHasPrefixL_ok : ∀ args r, cHasPrefixL args = some r → PCall Tryz.prog 137 args r := conOf_ok fun p _ => hasPrefixL_ok p.1 p.2
@[go_sem] theorem cHasPrefixL_eq (s p : List UInt8) : cHasPrefixL [.str s, .str p] = some (.ret (.bool (p.isPrefixOf s))) := conOf_eq (fun p q h => by
  simp at h
  exact Prod.ext h.1 h.2) (s, p) trivial
theorem hasPrefix_ok (s p : List UInt8) : PCall Tryz.prog 173 [.str s, .str p] (.ret (.bool (p.isPrefixOf s))) := by
  have hΓ := extΓ_ok cHasPrefixL_ok noΓ_ok
  refine PCall.walk (rs := [.tmp 4]) [0, 1, 4] [] mixed (hΓ) (noΔ_ok) call173 Tryz.func173 rfl Tryz.ntmps173 rfl (by kernel_rfl) (by simp) (by simp [pure_bool, pure_int, pure_str, pure_fs, pure_fp, pure_fn, pure_agg, pure_tup, pure_nilS, pure_nilP, pure_natsP, pure_intsP, pure_strsP, pure_list, pure_cntsP]) ?_
  simp only [go_sem]
noncomputable def cHasPrefix : List V → Option PR := conOf (fun p : List UInt8 × List UInt8 => [.str p.1, .str p.2]) (fun _ => True) (fun p => .ret (.bool (p.2.isPrefixOf p.1)))
theorem cHasPrefix_ok : ∀ args r, cHasPrefix args = some r → PCall Tryz.prog 173 args r := conOf_ok fun p _ => hasPrefix_ok p.1 p.2
@[go_sem] theorem cHasPrefix_eq (s p : List UInt8) : cHasPrefix [.str s, .str p] = some (.ret (.bool (p.isPrefixOf s))) := conOf_eq (fun p q h => by
  simp at h
  exact Prod.ext h.1 h.2) (s, p) trivial
def cutPrefV (s p : List UInt8) : V := if p.isPrefixOf s = true then .tup [.str (s.drop p.length), .bool true] else .tup [.str s, .bool false]
set_option maxHeartbeats 4000000 in
theorem cutPrefL_ok (s p : List UInt8) : PCall Tryz.prog 107 [.str s, .str p] (.ret (cutPrefV s p)) := by
  have hΓ := extΓ_ok cHasPrefixL_ok noΓ_ok
  refine PCall.walk (rs := [.tmp 4, .tmp 5]) [0, 1, 4, 5, 9] [] mixed (hΓ) (noΔ_ok) call107 Tryz.func107 rfl Tryz.ntmps107 rfl (by kernel_rfl) (by simp) (by simp [pure_bool, pure_int, pure_str, pure_fs, pure_fp, pure_fn, pure_agg, pure_tup, pure_nilS, pure_nilP, pure_natsP, pure_intsP, pure_strsP, pure_list, pure_cntsP]) ?_
  unfold cutPrefV
  cases h : p.isPrefixOf s with
  | false => simp only [go_sem, h]
  | true =>
    have hl : p.length ≤ s.length := by
      rw [List.isPrefixOf_iff_prefix] at h
      obtain ⟨t, rfl⟩ := h
      simp
    simp (disch := (first | assumption | omega | (simp only [push_cast] <;> omega))) only [go_sem, h, List.take_length]
    omega
theorem cutPrefV_tup (s p : List UInt8) : ∃ a d, cutPrefV s p = .tup [.str a, .bool d] := by
  unfold cutPrefV
  split <;> exact ⟨_, _, rfl⟩
noncomputable def cCutPrefL : List V → Option PR := conOf (fun p : List UInt8 × List UInt8 => [.str p.1, .str p.2]) (fun _ => True) (fun p => .ret (cutPrefV p.1 p.2))
theorem cCutPrefL_ok : ∀ args r, cCutPrefL args = some r → PCall Tryz.prog 107 args r := conOf_ok fun p _ => cutPrefL_ok p.1 p.2
@[go_sem] theorem cCutPrefL_eq (s p : List UInt8) : cCutPrefL [.str s, .str p] = some (.ret (cutPrefV s p)) := conOf_eq (fun p q h => by
  simp at h
  exact Prod.ext h.1 h.2) (s, p) trivial
theorem cutPref_ok (s p : List UInt8) : PCall Tryz.prog 81 [.str s, .str p] (.ret (cutPrefV s p)) := by
  have hΓ := extΓ_ok cCutPrefL_ok noΓ_ok
  refine PCall.walk (rs := [.tmp 4, .tmp 5]) [0, 1, 4, 5] [] mixed (hΓ) (noΔ_ok) call81 Tryz.func81 rfl Tryz.ntmps81 rfl (by kernel_rfl) (by simp) (by simp [pure_bool, pure_int, pure_str, pure_fs, pure_fp, pure_fn, pure_agg, pure_tup, pure_nilS, pure_nilP, pure_natsP, pure_intsP, pure_strsP, pure_list, pure_cntsP]) ?_
  obtain ⟨a, d, h⟩ := cutPrefV_tup s p
  simp (disch := (first | assumption | omega | (simp only [push_cast] <;> omega))) only [go_sem, h]
noncomputable def cCutPref : List V → Option PR := conOf (fun p : List UInt8 × List UInt8 => [.str p.1, .str p.2]) (fun _ => True) (fun p => .ret (cutPrefV p.1 p.2))
theorem cCutPref_ok : ∀ args r, cCutPref args = some r → PCall Tryz.prog 81 args r := conOf_ok fun p _ => cutPref_ok p.1 p.2
@[go_sem] theorem cCutPref_eq (s p : List UInt8) : cCutPref [.str s, .str p] = some (.ret (cutPrefV s p)) := conOf_eq (fun p q h => by
  simp at h
  exact Prod.ext h.1 h.2) (s, p) trivial
end Go.Proofs
