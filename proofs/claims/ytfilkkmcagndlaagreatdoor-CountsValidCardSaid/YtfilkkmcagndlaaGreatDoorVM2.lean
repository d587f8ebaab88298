/- Lists of names in their order: the program's and the reference's test. -/
import Derived.Test.YtfilkkmcagndlaaGreatDoorVM0
import Derived.Test.YtfilkkmcagndlaaGreatDoorM4
import Derived.Test.YtfilkkmcagndlaaGreatDoorS0Types
set_option linter.unusedSimpArgs false
set_option linter.unusedVariables false
set_option linter.all false
namespace Go.Proofs
open Go.Ab Go.Cnt
noncomputable def incS (l : List Str) : Bool := @decide (∀ i, i + 1 < l.length → cmpS (l.getD i []) (l.getD (i + 1) []) < 0) (Classical.propDecidable _)
open Classical in
theorem incS_t {l : List Str} (h : ∀ i, i + 1 < l.length → cmpS (l.getD i []) (l.getD (i + 1) []) < 0) : incS l = true := by unfold incS; exact decide_eq_true h
open Classical in
theorem incS_f {l : List Str} {i : Nat} (hi : i + 1 < l.length) (h : ¬ cmpS (l.getD i []) (l.getD (i + 1) []) < 0) : incS l = false := by
  unfold incS; exact decide_eq_false fun k => h (k i hi)
set_option maxHeartbeats 4000000 in
theorem incrS_ok (l : List Str) (hl : l.length ≤ 1000000) : PCall Tryz.prog 26 [.fs (strs l) l.length, .fn 27 []] (.ret (.bool (incS l))) := by
  refine PCall.walk (rs := [.tmp 4]) [0, 1, 4, 5, 9, 23] [] mixed (extΓ_ok cCmpS_ok noΓ_ok) (noΔ_ok) call26 Tryz.func26 rfl Tryz.ntmps26 rfl (by kernel_rfl) (by simp) (by simp [pure_bool, pure_int, pure_str, pure_fs, pure_fp, pure_fn, pure_agg, pure_tup, pure_nilS, pure_nilP, pure_natsP, pure_intsP, pure_strsP, pure_list, pure_cntsP]) ?_
  simp only [go_sem]
  refine AXs.loop mixed (extΓ_ok cCmpS_ok noΓ_ok) (noΔ_ok) (fun i : Nat => [(0, .fs (strs l) l.length), (1, .fn 27 []), (5, .int .i64 i)]) (fun _ => ⟨[], 0⟩) (fun i => 1 ≤ i ∧ (i ≤ 1 ∨ i ≤ l.length) ∧ ∀ j, j + 1 < i → cmpS (l.getD j []) (l.getD (j + 1) []) < 0) (fun i => l.length + 1 - i) 1 (by kernel_rfl)
    ⟨Nat.le_refl _, .inl (Nat.le_refl _), fun j hj => by omega⟩ (Sub.of0 [] rfl rfl ?_ ?_) ?_
  · simp only [go_sem]
  · simp only [go_sem]
  rintro i ⟨h1, h2, h3⟩
  simp only [go_sem]
  refine AXc.introP (fun h4 => ?_) (fun h4 => ?_)
  · simp (disch := (first | assumption | omega | (simp only [push_cast] <;> omega))) only [go_sem]
    (repeat refine And.intro (by first | omega | exact ⟨by omega, by omega⟩ | kernel_rfl | rfl | assumption | (intro h; exact ⟨h, by omega, by omega⟩) | (intro h; exact ⟨h, by omega⟩)) ?_)
    refine AXc.introP (fun h5 => ?_) (fun h5 => ?_)
    · simp only [go_sem]
      exact (incS_f (i := i - 1) (by omega) (by rw [show i - 1 + 1 = i by omega]; omega)).symm
    · simp (disch := (first | assumption | omega | (simp only [push_cast] <;> omega))) only [go_sem]
      refine loopK_norm (i + 1) ⟨by omega, by omega, fun j hj => ?_⟩ (by omega) (Sub.of0 [] rfl rfl ?_ ?_)
      · by_cases hji : j + 1 < i
        · exact h3 j hji
        · have : j = i - 1 := by omega
          subst this
          rw [show i - 1 + 1 = i by omega]; omega
      · simp only [go_sem]
        simp
      · simp only [go_sem]
  · simp only [go_sem]
    refine AXa.go mixed (extΓ_ok cCmpS_ok noΓ_ok) (noΔ_ok) (by kernel_rfl) ?_
    simp only [go_sem]
    exact (incS_t fun j hj => h3 j (by omega)).symm
noncomputable def cIncrS : List V → Option PR := conOf (fun l : List Str => [.fs (strs l) l.length, .fn 27 []]) (fun l => l.length ≤ 1000000) fun l => .ret (.bool (incS l))
@[go_sem] theorem cIncrS_eq (l : List Str) (hl : l.length ≤ 1000000) : cIncrS [.fs (strs l) l.length, .fn 27 []] = some (.ret (.bool (incS l))) :=
  conOf_eq (pat := fun l : List Str => [.fs (strs l) l.length, .fn 27 []]) (fun x y h => by simp at h; exact strs_inj h.1) l hl
theorem cIncrS_ok : ∀ args r, cIncrS args = some r → PCall Tryz.prog 26 args r := conOf_ok incrS_ok
noncomputable def rincB (l : List Str) : Bool := l.all nameB && incS l
set_option maxHeartbeats 4000000 in
theorem rincr_ok (l : List Str) (hl : l.length ≤ 1000000) (hs : ∀ s ∈ l, s.length ≤ 1000000) : PCall Tryz.prog 30 [.fs (strs l) l.length] (.ret (.bool (rincB l))) := by
  have hΓ := extΓ_ok cRName_ok (extΓ_ok cRCmp_ok noΓ_ok)
  refine PCall.walk (rs := [.tmp 2]) [0, 2, 3, 7, 32] [] mixed (hΓ) (noΔ_ok) call30 Tryz.func30 rfl Tryz.ntmps30 rfl (by kernel_rfl) (by simp) (by simp [pure_bool, pure_int, pure_str, pure_fs, pure_fp, pure_fn, pure_agg, pure_tup, pure_nilS, pure_nilP, pure_natsP, pure_intsP, pure_strsP, pure_list, pure_cntsP]) ?_
  simp only [go_sem]
  refine AXs.loop mixed (hΓ) (noΔ_ok) (fun i : Nat => [(0, .fs (strs l) l.length), (3, .int .i64 i)]) (fun _ => ⟨[], 0⟩) (fun i => i ≤ l.length ∧ (∀ j, j < i → nameB (l.getD j []) = true) ∧ ∀ j, j + 1 < i → cmpS (l.getD j []) (l.getD (j + 1) []) < 0) (fun i => l.length - i) 0 (by kernel_rfl)
    ⟨Nat.zero_le _, fun j hj => by omega, fun j hj => by omega⟩ (Sub.of0 [] rfl rfl ?_ ?_) ?_
  · simp only [go_sem]
  · simp only [go_sem]
  rintro i ⟨h1, h2, h3⟩
  simp only [go_sem]
  refine AXc.introP (fun h4 => ?_) (fun h4 => ?_)
  · have hil : i < l.length := by omega
    have s1 := hs _ (getS_mem hil)
    have s2 := hs _ (getS_mem (l := l) (i := i - 1) (by omega))
    by_cases hn : nameB (l.getD i []) = true
    case neg =>
      have hn' : nameB (l.getD i []) = false := by simpa using hn
      have hr : rincB l = false := by unfold rincB; rw [allS_f hil hn']; rfl
      rw [hr]
      simp (disch := (first | assumption | omega | (simp only [push_cast] <;> omega))) only [go_sem, hn']
      (repeat refine And.intro (by first | omega | exact ⟨by omega, by omega⟩ | kernel_rfl | rfl | assumption | (intro h; exact ⟨h, by omega, by omega⟩) | (intro h; exact ⟨h, by omega⟩)) ?_)
      omega
    rcases Nat.eq_zero_or_pos i with rfl | hp
    · simp (disch := (first | assumption | omega | (simp only [push_cast] <;> omega))) only [go_sem, hn]
      refine ⟨by omega, by omega, ?_⟩
      refine loopK_norm 1 ⟨by omega, fun j hj => ?_, fun j hj => by omega⟩ (by omega) (Sub.of0 [] rfl rfl ?_ ?_)
      · obtain rfl : j = 0 := by omega
        exact hn
      · simp only [go_sem]
      · simp only [go_sem]
    · have d1 : decide (0 < (i : Int)) = true := by rw [decide_eq_true_eq]; omega
      simp (disch := (first | assumption | omega | (simp only [push_cast] <;> omega))) only [go_sem, hn, d1]
      refine ⟨⟨by omega, by omega⟩, by omega, ⟨by omega, by omega⟩, by omega, ⟨by omega, by omega⟩, by omega, ?_⟩
      refine AXc.introP (fun h5 => ?_) (fun h5 => ?_)
      · simp only [go_sem]
        unfold rincB
        rw [incS_f (i := i - 1) (by omega) (by rw [show i - 1 + 1 = i by omega]; omega), Bool.and_false]
      · simp (disch := (first | assumption | omega | (simp only [push_cast] <;> omega))) only [go_sem]
        refine loopK_norm (i + 1) ⟨by omega, fun j hj => ?_, fun j hj => ?_⟩ (by omega) (Sub.of0 [] rfl rfl ?_ ?_)
        · by_cases hji : j < i
          · exact h2 j hji
          · obtain rfl : j = i := by omega
            exact hn
        · by_cases hji : j + 1 < i
          · exact h3 j hji
          · have : j = i - 1 := by omega
            subst this
            rw [show i - 1 + 1 = i by omega]; omega
        · simp only [go_sem]
          simp
        · simp only [go_sem]
  · have : i = l.length := by omega
    subst this
    simp only [go_sem]
    refine AXa.go mixed (hΓ) (noΔ_ok) (by kernel_rfl) ?_
    simp only [go_sem]
    unfold rincB
    rw [allS_t h2, incS_t h3]
    rfl
end Go.Proofs

/- Natural numbers as digits and as blocks of nine digits; no program in sight. -/
namespace Go.Pl
def isDig (c : UInt8) : Bool := decide (48 ≤ c.toNat) && decide (c.toNat ≤ 57)
def valD (a : List UInt8) : Nat := a.foldl (fun n c => 10 * n + (c.toNat - 48)) 0
def validN (a : List UInt8) : Bool := !decide (a = []) && decide (a.length ≤ 1000) && (decide (a.length ≤ 1) || !decide ((a.getD 0 0).toNat = 48)) && a.all isDig
theorem all_getD {p : UInt8 → Bool} {a : List UInt8} : a.all p = true ↔ ∀ i, i < a.length → p (a.getD i 0) = true := by
  simp only [List.all_eq_true]
  constructor
  · intro h i hi
    rw [List.getD_eq_getElem?_getD, List.getElem?_eq_getElem hi]
    exact h _ (List.getElem_mem _)
  · intro h x hx
    obtain ⟨i, hi, rfl⟩ := List.mem_iff_getElem.1 hx
    have := h i hi
    rwa [List.getD_eq_getElem?_getD, List.getElem?_eq_getElem hi] at this
def valL : List Nat → Nat
  | [] => 0
  | d :: l => d + 1000000000 * valL l
def okL (l : List Nat) : Prop := ∀ d ∈ l, d < 1000000000
def trimL : List Nat → List Nat
  | [] => []
  | d :: l => if d = 0 ∧ trimL l = [] then [] else d :: trimL l
def limbsF : Nat → Nat → List Nat
  | 0, _ => []
  | f + 1, n => if n = 0 then [] else n % 1000000000 :: limbsF f (n / 1000000000)
def limbs (n : Nat) : List Nat := limbsF n n
theorem limbsF_eq : ∀ (f g n : Nat), n ≤ f → n ≤ g → limbsF f n = limbsF g n
  | 0, g, n, h, _ => by
    have : n = 0 := by omega
    subst this
    cases g <;> simp [limbsF]
  | f + 1, 0, n, _, h => by
    have : n = 0 := by omega
    subst this
    simp [limbsF]
  | f + 1, g + 1, n, h, h' => by
    simp only [limbsF]
    split
    · rfl
    · rw [limbsF_eq f g (n / 1000000000) (by omega) (by omega)]
theorem limbs_zero : limbs 0 = [] := rfl
theorem limbs_pos {n : Nat} (h : n ≠ 0) : limbs n = n % 1000000000 :: limbs (n / 1000000000) := by
  unfold limbs
  obtain ⟨m, rfl⟩ : ∃ m, n = m + 1 := ⟨n - 1, by omega⟩
  rw [limbsF, if_neg h, limbsF_eq m ((m + 1) / 1000000000) ((m + 1) / 1000000000) (by omega) (Nat.le_refl _)]
theorem limbs_nil {n : Nat} : limbs n = [] ↔ n = 0 := by
  constructor
  · intro h
    by_cases h0 : n = 0
    · exact h0
    · rw [limbs_pos h0] at h; cases h
  · rintro rfl; rfl
theorem valL_limbs (n : Nat) : valL (limbs n) = n := by
  induction n using Nat.strongRecOn with
  | _ n ih =>
    by_cases h : n = 0
    · subst h; rfl
    · rw [limbs_pos h, valL, ih (n / 1000000000) (by omega)]; omega
theorem okL_limbs (n : Nat) : okL (limbs n) := by
  induction n using Nat.strongRecOn with
  | _ n ih =>
    by_cases h : n = 0
    · subst h; intro d hd; cases hd
    · rw [limbs_pos h]
      intro d hd
      rcases List.mem_cons.1 hd with rfl | hd
      · omega
      · exact ih (n / 1000000000) (by omega) d hd
theorem okL_cons {d : Nat} {l : List Nat} : okL (d :: l) ↔ d < 1000000000 ∧ okL l := by simp [okL]
theorem okL_append {l r : List Nat} : okL (l ++ r) ↔ okL l ∧ okL r := by
  simp only [okL, List.mem_append]
  exact ⟨fun h => ⟨fun d hd => h d (.inl hd), fun d hd => h d (.inr hd)⟩, fun h d hd => hd.elim (h.1 d) (h.2 d)⟩
theorem trimL_eq {l : List Nat} (h : okL l) : trimL l = limbs (valL l) := by
  induction l with
  | nil => rfl
  | cons d l ih =>
    rw [okL_cons] at h
    rw [trimL, ih h.2, valL]
    have hd := h.1
    by_cases h0 : d + 1000000000 * valL l = 0
    · rw [h0, limbs_zero, if_pos ⟨by omega, limbs_nil.2 (by omega)⟩]
    · rw [limbs_pos h0, if_neg (by rw [limbs_nil]; omega)]
      congr 1
      · omega
      · congr 1; omega
theorem valL_append (l r : List Nat) : valL (l ++ r) = valL l + 1000000000 ^ l.length * valL r := by
  induction l with
  | nil => simp [valL]
  | cons d l ih =>
    simp only [List.cons_append, valL, ih, List.length_cons, Nat.pow_succ, Nat.mul_add, ← Nat.mul_assoc]
    rw [Nat.mul_comm (1000000000 ^ l.length) 1000000000]
    omega
theorem valL_lt {l : List Nat} (h : okL l) : valL l < 1000000000 ^ l.length := by
  induction l with
  | nil => simp [valL]
  | cons d l ih =>
    rw [okL_cons] at h
    have := ih h.2
    simp only [valL, List.length_cons, Nat.pow_succ]
    have h1 := h.1
    have : 1000000000 * valL l + 1000000000 ≤ 1000000000 * 1000000000 ^ l.length := by
      rw [← Nat.mul_succ]; exact Nat.mul_le_mul_left _ this
    omega
theorem trimL_take {l : List Nat} {n : Nat} (hn : n ≤ l.length) (h : ∀ j, n ≤ j → l.getD j 0 = 0) (h2 : n = 0 ∨ l.getD (n - 1) 0 ≠ 0) : trimL l = l.take n := by
  induction l generalizing n with
  | nil => simp [trimL]
  | cons d l ih =>
    cases n with
    | zero =>
      have hd := h 0 (Nat.le_refl _)
      have hl : trimL l = [] := by
        rw [ih (n := 0) (Nat.zero_le _) (fun j _ => h (j + 1) (Nat.zero_le _)) (.inl rfl)]; simp
      simp at hd
      simp [trimL, hd, hl]
    | succ n =>
      have hl := ih (n := n) (by simpa using hn) (fun j hj => by have := h (j + 1) (by omega); simpa using this) (by
        cases n with
        | zero => exact .inl rfl
        | succ n => right; rcases h2 with h2 | h2; omega; simpa using h2)
      rw [trimL, hl, List.take_succ_cons, if_neg]
      rintro ⟨hd, hnil⟩
      rcases h2 with h2 | h2
      · omega
      · cases n with
        | zero => simp at h2; exact h2 hd
        | succ n =>
          have : l.length = 0 := by
            have := congrArg List.length hnil
            simp at this
            simp [this]
          simp at hn; omega
theorem limbs_last {n : Nat} (h : n ≠ 0) : (limbs n).getD ((limbs n).length - 1) 0 ≠ 0 := by
  induction n using Nat.strongRecOn with
  | _ n ih =>
    rw [limbs_pos h]
    by_cases h1 : n / 1000000000 = 0
    · rw [h1, limbs_zero]; simp; omega
    · have := ih (n / 1000000000) (by omega) h1
      have hne : limbs (n / 1000000000) ≠ [] := by rw [ne_eq, limbs_nil]; exact h1
      obtain ⟨d, r, hdr⟩ := List.exists_cons_of_ne_nil hne
      rw [hdr] at this ⊢
      simpa using this
theorem limbs_len {n k : Nat} (h : n < 1000000000 ^ k) : (limbs n).length ≤ k := by
  induction k generalizing n with
  | zero => have : n = 0 := by simpa using h
            subst this; simp [limbs_zero]
  | succ k ih =>
    by_cases h0 : n = 0
    · subst h0; simp [limbs_zero]
    · rw [limbs_pos h0, List.length_cons]
      have : n / 1000000000 < 1000000000 ^ k := by
        rw [Nat.div_lt_iff_lt_mul (by omega)]; rw [Nat.pow_succ] at h; exact h
      have := ih this
      omega
theorem getD_drop {α : Type} (l : List α) (a b : Nat) (d : α) : (l.drop a).getD b d = l.getD (a + b) d := by simp [List.getD_eq_getElem?_getD]
theorem getD_take {α : Type} (l : List α) (n i : Nat) (d : α) (h : i < n) : (l.take n).getD i d = l.getD i d := by simp [List.getD_eq_getElem?_getD, h]
theorem getD_ge {α : Type} (l : List α) (i : Nat) (d : α) (h : l.length ≤ i) : l.getD i d = d := by simp [List.getD_eq_getElem?_getD, h]
theorem take_succ_getD {α : Type} (l : List α) (n : Nat) (d : α) (h : n < l.length) : l.take (n + 1) = l.take n ++ [l.getD n d] := by
  rw [List.take_succ_eq_append_getElem h, List.getD_eq_getElem?_getD, List.getElem?_eq_getElem h]; rfl
theorem valD_nil : valD [] = 0 := rfl
theorem foldD (a : List UInt8) (n : Nat) : a.foldl (fun n c => 10 * n + (c.toNat - 48)) n = 10 ^ a.length * n + valD a := by
  induction a generalizing n with
  | nil => simp [valD]
  | cons c a ih =>
    simp only [List.foldl_cons, List.length_cons, valD]
    rw [ih, ih (10 * 0 + (c.toNat - 48)), Nat.mul_add, Nat.pow_succ, Nat.mul_zero, Nat.zero_add]
    have : 10 ^ a.length * (10 * n) = 10 ^ a.length * 10 * n := by rw [Nat.mul_assoc]
    omega
theorem valD_cons (c : UInt8) (a : List UInt8) : valD (c :: a) = 10 ^ a.length * (c.toNat - 48) + valD a := by
  rw [valD, List.foldl_cons, foldD]
  simp
theorem valD_append (a b : List UInt8) : valD (a ++ b) = 10 ^ b.length * valD a + valD b := by
  rw [valD, List.foldl_append, foldD]; rfl
theorem valD_snoc (a : List UInt8) (c : UInt8) : valD (a ++ [c]) = 10 * valD a + (c.toNat - 48) := by
  rw [valD_append]; simp [valD_cons, valD_nil]
theorem isDig_le {c : UInt8} (h : isDig c = true) : 48 ≤ c.toNat ∧ c.toNat ≤ 57 := by simpa [isDig] using h
theorem valD_lt {a : List UInt8} (h : a.all isDig = true) : valD a < 10 ^ a.length := by
  induction a with
  | nil => simp [valD]
  | cons c a ih =>
    simp only [List.all_cons, Bool.and_eq_true] at h
    have h1 := isDig_le h.1
    have h2 := ih h.2
    rw [valD_cons, List.length_cons, Nat.pow_succ]
    have : 10 ^ a.length * (c.toNat - 48) ≤ 10 ^ a.length * 9 := Nat.mul_le_mul_left _ (by omega)
    omega
theorem limbs_of {l : List Nat} {a : List UInt8} {p : Nat} (ho : okL l) (hv : valL l + p * valD (a.take 0) = valD a) : limbs (valD a) = trimL l := by
  rw [trimL_eq ho, ← hv, List.take_zero, valD_nil, Nat.mul_zero, Nat.add_zero]
def decF : Nat → Nat → List UInt8
  | 0, _ => []
  | f + 1, n => if n < 10 then [UInt8.ofNat (48 + n)] else decF f (n / 10) ++ [UInt8.ofNat (48 + n % 10)]
def dec (n : Nat) : List UInt8 := decF (n + 1) n
theorem decF_eq : ∀ (f g n : Nat), n < f → n < g → decF f n = decF g n
  | 0, _, n, h, _ => by omega
  | _, 0, n, _, h => by omega
  | f + 1, g + 1, n, h, h' => by
    simp only [decF]
    split
    · rfl
    · rw [decF_eq f g (n / 10) (by omega) (by omega)]
theorem dec_small {n : Nat} (h : n < 10) : dec n = [UInt8.ofNat (48 + n)] := by rw [dec, decF, if_pos h]
theorem dec_big {n : Nat} (h : 10 ≤ n) : dec n = dec (n / 10) ++ [UInt8.ofNat (48 + n % 10)] := by
  rw [dec, decF, if_neg (by omega), decF_eq n (n / 10 + 1) (n / 10) (by omega) (by omega)]; rfl
theorem toNat_dig {n : Nat} (h : n < 10) : (UInt8.ofNat (48 + n)).toNat = 48 + n := by
  simp only [UInt8.toNat_ofNat']; omega
theorem dec_dig (n : Nat) : (dec n).all isDig = true := by
  induction n using Nat.strongRecOn with
  | _ n ih =>
    by_cases h : n < 10
    · rw [dec_small h]; simp [isDig, toNat_dig h]; omega
    · rw [dec_big (by omega), List.all_append, ih (n / 10) (by omega)]
      have : n % 10 < 10 := by omega
      simp [isDig, toNat_dig this]; omega
theorem valD_dec (n : Nat) : valD (dec n) = n := by
  induction n using Nat.strongRecOn with
  | _ n ih =>
    by_cases h : n < 10
    · rw [dec_small h, valD_cons, toNat_dig h]; simp [valD_nil]
    · rw [dec_big (by omega), valD_snoc, ih (n / 10) (by omega), toNat_dig (by omega)]; omega
theorem dec_ne (n : Nat) : dec n ≠ [] := by
  by_cases h : n < 10
  · rw [dec_small h]; simp
  · rw [dec_big (by omega)]; simp
theorem dec_pos (n : Nat) : 0 < (dec n).length := List.length_pos_iff.2 (dec_ne n)
theorem dec_head {n : Nat} (h : 10 ≤ n) : ((dec n).getD 0 0).toNat ≠ 48 := by
  induction n using Nat.strongRecOn with
  | _ n ih =>
    rw [dec_big h]
    have e : ((dec (n / 10) ++ [UInt8.ofNat (48 + n % 10)]).getD 0 0) = (dec (n / 10)).getD 0 0 := by
      rw [List.getD_eq_getElem?_getD, List.getD_eq_getElem?_getD, List.getElem?_append_left (dec_pos _)]
    rw [e]
    by_cases h1 : n / 10 < 10
    · rw [dec_small h1]; simp [toNat_dig h1]; omega
    · exact ih (n / 10) (by omega) (by omega)
theorem dec_len_one {n : Nat} : (dec n).length ≤ 1 ↔ n < 10 := by
  constructor
  · intro h
    by_cases h1 : n < 10
    · exact h1
    · rw [dec_big (by omega), List.length_append] at h
      have := dec_pos (n / 10)
      rw [List.length_singleton] at h; omega
  · intro h; rw [dec_small h]; simp
theorem validN_dec {n : Nat} : validN (dec n) = decide ((dec n).length ≤ 1000) := by
  simp only [validN, dec_dig, Bool.and_true]
  have h1 : decide (dec n = []) = false := by simp [dec_ne]
  by_cases h : n < 10
  · have := dec_len_one.2 h
    simp [h1, this]
  · have h2 := dec_head (n := n) (by omega)
    have : ¬ (dec n).length ≤ 1 := by rw [dec_len_one]; exact h
    simp only [List.getD_eq_getElem?_getD] at h2
    simp [h1, h2]
theorem dec_valD {a : List UInt8} (hd : a.all isDig = true) (hne : a ≠ []) (hz : a.length ≤ 1 ∨ (a.getD 0 0).toNat ≠ 48) : dec (valD a) = a := by
  induction h : a.length generalizing a with
  | zero => exact absurd (List.length_eq_zero_iff.1 h) hne
  | succ k ih =>
    rcases List.eq_nil_or_concat a with rfl | ⟨b, c, rfl⟩
    · exact absurd rfl hne
    · rw [List.concat_eq_append] at *
      have hdc : isDig c = true := by
        rw [List.all_append, Bool.and_eq_true] at hd; simpa using hd.2
      have hdb : b.all isDig = true := by
        rw [List.all_append, Bool.and_eq_true] at hd; exact hd.1
      have hc := isDig_le hdc
      by_cases hb : b = []
      · subst hb
        simp only [List.nil_append, valD_cons, List.length_nil, Nat.pow_zero, Nat.one_mul, valD_nil, Nat.add_zero]
        rw [dec_small (by omega), show 48 + (c.toNat - 48) = c.toNat by omega]
        simp
      · have hbl : 0 < b.length := List.length_pos_iff.2 hb
        have hz' : (b.getD 0 0).toNat ≠ 48 := by
          rcases hz with hz | hz
          · rw [List.length_append, List.length_singleton] at hz; omega
          · have e : (b ++ [c]).getD 0 0 = b.getD 0 0 := by
              rw [List.getD_eq_getElem?_getD, List.getD_eq_getElem?_getD, List.getElem?_append_left hbl]
            rwa [e] at hz
        have hb2 := ih hdb hb (.inr hz') (by simpa using h)
        rw [valD_snoc]
        have hpos : 0 < valD b := by
          cases b with
          | nil => exact absurd rfl hb
          | cons x b =>
            rw [valD_cons]
            have hx := isDig_le (c := x) (by simp at hdb; exact hdb.1)
            simp at hz'
            have : 0 < 10 ^ b.length * (x.toNat - 48) := Nat.mul_pos (Nat.pow_pos (by omega)) (by omega)
            omega
        rw [dec_big (by omega), show (10 * valD b + (c.toNat - 48)) / 10 = valD b by omega, hb2, show 48 + (10 * valD b + (c.toNat - 48)) % 10 = c.toNat by omega]
        simp
theorem validN_iff {a : List UInt8} : validN a = true ↔ (dec (valD a) = a ∧ a.length ≤ 1000) ∧ a.all isDig = true := by
  constructor
  · intro h
    simp only [validN, Bool.and_eq_true, Bool.or_eq_true, Bool.not_eq_true', decide_eq_false_iff_not, decide_eq_true_eq] at h
    obtain ⟨⟨⟨h1, h2⟩, h3⟩, h4⟩ := h
    exact ⟨⟨dec_valD h4 h1 h3, h2⟩, h4⟩
  · rintro ⟨⟨h1, h2⟩, _⟩
    rw [← h1, validN_dec, h1]; simpa using h2
theorem dec_inj {m n : Nat} (h : dec m = dec n) : m = n := by rw [← valD_dec m, h, valD_dec]
theorem dec_lt_len {n k : Nat} (h : n < 10 ^ k) (hk : 0 < k) : (dec n).length ≤ k := by
  induction k generalizing n with
  | zero => omega
  | succ k ih =>
    by_cases h1 : n < 10
    · rw [dec_small h1]; simp
    · rw [dec_big (by omega), List.length_append]
      have hk0 : 0 < k := by
        cases k with
        | zero => simp at h; omega
        | succ k => omega
      have := ih (n := n / 10) (by rw [Nat.div_lt_iff_lt_mul (by omega)]; rw [Nat.pow_succ] at h; exact h) hk0
      simp; omega
theorem dec_len_lt {n k : Nat} (h : (dec n).length ≤ k) : n < 10 ^ k := by
  have := valD_lt (dec_dig n)
  rw [valD_dec] at this
  exact Nat.lt_of_lt_of_le this (Nat.pow_le_pow_right (by omega) h)
theorem bk_next {a : List UInt8} {l : List Nat} {i : Nat} (hi : i ≤ a.length) (hv : valL l + 1000000000 ^ l.length * valD (a.take i) = valD a) :
    valL (l ++ [valD ((a.take i).drop (i - 9))]) + 1000000000 ^ (l ++ [valD ((a.take i).drop (i - 9))]).length * valD (a.take (i - 9)) = valD a := by
  generalize hP : (1000000000 : Nat) ^ l.length = p at *
  have e1 : 1000000000 ^ (l ++ [valD ((a.take i).drop (i - 9))]).length = p * 1000000000 := by
    rw [List.length_append, List.length_singleton, Nat.pow_succ, hP]
  rw [e1, valL_append, hP, ← hv]
  simp only [valL, Nat.mul_zero, Nat.add_zero]
  have hsplit : valD (a.take i) = 1000000000 * valD (a.take (i - 9)) + valD ((a.take i).drop (i - 9)) := by
    by_cases h9 : i < 9
    · have : i - 9 = 0 := by omega
      rw [this, List.take_zero, List.drop_zero, valD_nil, Nat.mul_zero, Nat.zero_add]
    · have e2 : a.take i = (a.take i).take (i - 9) ++ (a.take i).drop (i - 9) := (List.take_append_drop _ _).symm
      have e3 : ((a.take i).drop (i - 9)).length = 9 := by simp; omega
      have e4 : (a.take i).take (i - 9) = a.take (i - 9) := by rw [List.take_take, Nat.min_eq_left (by omega)]
      have := congrArg valD e2
      rw [valD_append, e3, e4] at this
      exact this
  rw [hsplit, Nat.mul_assoc, Nat.mul_add]
  omega
end Go.Pl

namespace Go.Proofs
open Go.Ab Go.Pl
set_option maxHeartbeats 4000000 in
set_option pp.maxSteps 40000 in
theorem valid_ok (a : List UInt8) : PCall Tryz.prog 83 [.str a] (.ret (.bool (validN a))) := by
  refine PCall.walk (rs := [.tmp 2]) [0, 2, 3, 20, 22, 23, 24, 35] [] mixed (noΓ_ok) (noΔ_ok) call83 Tryz.func83 rfl Tryz.ntmps83 rfl (by kernel_rfl) (by simp) (by simp [pure_bool, pure_int, pure_str, pure_fs, pure_fp, pure_fn, pure_agg, pure_tup, pure_nilS, pure_nilP, pure_natsP, pure_intsP, pure_strsP, pure_list, pure_cntsP]) ?_
  simp only [go_sem]
  refine ⟨by simp_all; omega, by simp_all, AXc.intro (fun h1 => ?_) (fun h1 => ?_)⟩
  · simp only [go_sem]
    simp only [validN]
    by_cases h0 : a = []
    · simp [h0]
    · by_cases h2 : 1000 < a.length
      · simp [Nat.not_le.2 h2]
      · simp [h0, h2] at h1
        have h3 : ¬ a.length ≤ 1 := by omega
        simp [h3, h1]
        omega
  · simp only [go_sem]
    refine AXs.loop mixed noΓ_ok noΔ_ok (fun i : Nat => [(0, .str a), (2, .bool false), (22, .int .i64 a.length), (23, .int .i64 i)]) (fun _ => ⟨[], 0⟩) (fun i => i ≤ a.length ∧ ∀ j, j < i → isDig (a.getD j 0) = true) (fun i => a.length - i) 0 (by kernel_rfl) (by simp) (Sub.of0 [] rfl rfl ?_ ?_) ?_
    · simp only [go_sem]
    · simp only [go_sem]
    rintro i ⟨hi, hd⟩
    simp only [go_sem]
    refine AXc.introP (fun h2 => ?_) (fun h2 => ?_)
    · have h2' : i < a.length := by omega
      have h3 : a.length ≤ 1000 := by simp at h1; omega
      simp only [go_sem]
      refine ⟨by omega, by simp; omega, AXc.intro (fun h4 => ?_) (fun h4 => ?_)⟩
      · simp only [go_sem]
        symm
        simp only [validN, Bool.and_eq_false_iff]
        right
        rw [Bool.eq_false_iff]
        intro hall
        have := all_getD.1 hall i h2'
        simp [isDig] at this h4
        omega
      · simp (disch := (first | assumption | omega | (simp only [push_cast] <;> omega))) only [go_sem]
        refine loopK_norm (i + 1) ⟨by omega, fun j hj => ?_⟩ (by omega) (Sub.of0 [] rfl rfl ?_ ?_)
        · by_cases hji : j = i
          · subst hji
            simp [isDig] at h4 ⊢
            omega
          · exact hd j (by omega)
        · simp only [go_sem]
          simp
        · simp only [go_sem]
    · simp only [go_sem]
      refine AXa.go mixed (noΓ_ok) (noΔ_ok) (by kernel_rfl) ?_
      simp only [go_sem]
      symm
      have hie : i = a.length := by omega
      subst hie
      have := all_getD.2 hd
      simp [validN, this]
      simp at h1
      refine ⟨⟨h1.1.1, by omega⟩, ?_⟩
      by_cases h5 : a.length ≤ 1
      · exact .inl h5
      · exact .inr (by omega)
theorem trim_ok (l : List Nat) (hl : l.length ≤ 1000000) : PCall Tryz.prog 90 [.fs (nats .u64 l) l.length] (.ret (.fs (nats .u64 (trimL l)) (trimL l).length)) := by
  refine PCall.walk (rs := [.tmp 2]) [0, 2, 14] [] mixed (noΓ_ok) (noΔ_ok) call90 Tryz.func90 rfl Tryz.ntmps90 rfl (by kernel_rfl) (by simp) (by simp [pure_bool, pure_int, pure_str, pure_fs, pure_fp, pure_fn, pure_agg, pure_tup, pure_nilS, pure_nilP, pure_natsP, pure_intsP, pure_strsP, pure_list, pure_cntsP]) ?_
  simp only [go_sem]
  refine AXs.loop mixed noΓ_ok noΔ_ok (fun n : Nat => [(0, .fs (nats .u64 (l.take n)) n)]) (fun _ => ⟨[], 0⟩) (fun n => n ≤ l.length ∧ ∀ j, n ≤ j → l.getD j 0 = 0) (fun n => n) l.length (by kernel_rfl)
    ⟨Nat.le_refl _, fun j hj => by simp [List.getD_eq_getElem?_getD, List.getElem?_eq_none hj]⟩ (Sub.of0 [] rfl rfl ?_ ?_) ?_
  · simp only [go_sem]
    simp
  · simp only [go_sem]
  rintro n ⟨hn, hz⟩
  rcases Nat.eq_zero_or_pos n with rfl | hp
  · simp only [go_sem]
    refine AXa.go mixed noΓ_ok noΔ_ok (by kernel_rfl) ?_
    simp only [go_sem]
    have := trimL_take (Nat.zero_le l.length) hz (.inl rfl)
    simp [this, nats]
  · have hd : decide (0 < (n : Int)) = true := by simp; omega
    simp (disch := (first | assumption | omega | (simp only [push_cast] <;> omega))) only [go_sem, hd]
    refine ⟨by omega, by omega, AXc.introP (fun h1 => ?_) (fun h1 => ?_)⟩
    · simp (disch := (first | assumption | omega | (simp only [push_cast] <;> omega))) only [go_sem]
      refine ⟨by omega, loopK_norm (n - 1) ⟨by omega, fun j hj => ?_⟩ (by omega) (Sub.of0 [] rfl rfl ?_ ?_)⟩
      · by_cases hjn : j = n - 1
        · subst hjn; omega
        · exact hz j (by omega)
      · simp only [go_sem]
        rw [Nat.min_eq_left (by omega)]
      · simp only [go_sem]
    · simp only [go_sem]
      refine AXa.go mixed noΓ_ok noΔ_ok (by kernel_rfl) ?_
      simp only [go_sem]
      have h2 := trimL_take hn hz (.inr (by omega))
      rw [h2]
      simp; omega
end Go.Proofs

namespace Go.Proofs
open Go.Ab Go.Pl
noncomputable def cValid : List V → Option PR := conOf (fun a : List UInt8 => [.str a]) (fun _ => True) fun a => .ret (.bool (validN a))
theorem cValid_eq (a : List UInt8) : cValid [.str a] = some (.ret (.bool (validN a))) := conOf_eq (pat := fun a : List UInt8 => [.str a]) (fun x y h => by simpa using h) a trivial
theorem cValid_ok : ∀ args r, cValid args = some r → PCall Tryz.prog 83 args r := conOf_ok fun a _ => valid_ok a
noncomputable def cTrim : List V → Option PR := conOf (fun l : List Nat => [.fs (nats .u64 l) l.length]) (fun l => l.length ≤ 1000000) fun l => .ret (.fs (nats .u64 (trimL l)) (trimL l).length)
theorem cTrim_eq (l : List Nat) (n : Nat) (hn : n = l.length) (h : l.length ≤ 1000000) : cTrim [.fs (nats .u64 l) n] = some (.ret (.fs (nats .u64 (trimL l)) (trimL l).length)) := by
  subst hn; exact conOf_eq (pat := fun l : List Nat => [.fs (nats .u64 l) l.length]) (fun x y h => by simp at h; exact nats_inj h.1) l h
theorem cTrim_nil : cTrim [.fs [] 0] = some (.ret (.fs [] 0)) := cTrim_eq [] 0 rfl (by simp)
theorem cTrim_ok : ∀ args r, cTrim args = some r → PCall Tryz.prog 90 args r := conOf_ok trim_ok
attribute [go_sem] cValid_eq cTrim_eq cTrim_nil
theorem okL_snoc {l : List Nat} {d : Nat} (h : okL l) (hd : d < 1000000000) : okL (l ++ [d]) := okL_append.2 ⟨h, fun x hx => by simp at hx; omega⟩
def bkV (l : List Nat) : V := match l with | [] => .nilS | _ => .sl 0 0 l.length 1 none
def bkBs (l : List Nat) : List (Nat × Blk) := match l with | [] => [] | _ => [(0, .cells (nats .u64 l))]
def bkN (l : List Nat) : Nat := match l with | [] => 0 | _ => 1
theorem bk_v (l : List Nat) : Rn (piL []) (· < bkN l) (bkV l) (bkV l) := by cases l <;> simp only [bkV, bkN, go_sem] <;> simp
theorem bk_h (l : List Nat) : subH (piL []) (bkN l) (bkBs l) (bkBs l) := by cases l <;> simp only [bkBs, bkN, go_sem] <;> simp
theorem bk_k (l : List Nat) : piOK [] 0 (keysB (bkBs l)) = true := by cases l <;> rfl
set_option maxHeartbeats 4000000 in
theorem blocks_ok (a : List UInt8) (hd : a.all isDig = true) (hl : a.length ≤ 1000) : PCall Tryz.prog 88 [.str a] (.ret (.fs (nats .u64 (limbs (valD a))) (limbs (valD a)).length)) := by
  refine PCall.walk (rs := [.tmp 2]) [0, 2, 3, 4, 5, 6, 9, 18] [] mixed (extΓ_ok cTrim_ok noΓ_ok) (noΔ_ok) call88 Tryz.func88 rfl Tryz.ntmps88 rfl (by kernel_rfl) (by simp) (by simp [pure_bool, pure_int, pure_str, pure_fs, pure_fp, pure_fn, pure_agg, pure_tup, pure_nilS, pure_nilP, pure_natsP, pure_intsP, pure_strsP, pure_list, pure_cntsP]) ?_
  simp only [go_sem]
  refine AXs.loop mixed (extΓ_ok cTrim_ok noΓ_ok) noΔ_ok (fun (p : List Nat × Nat) => [(0, .str (a.take p.2)), (3, bkV p.1)]) (fun p => ⟨bkBs p.1, bkN p.1⟩) (fun p => p.2 ≤ a.length ∧ okL p.1 ∧ p.1.length + p.2 ≤ 1000 ∧ valL p.1 + 1000000000 ^ p.1.length * valD (a.take p.2) = valD a) (fun p => p.2) ([], a.length) (by kernel_rfl)
    ⟨Nat.le_refl _, (show okL [] from fun d hd => nomatch hd), by simpa using hl, by simp [valL]⟩ (Sub.of0 [] rfl rfl ?_ ?_) ?_
  · simp only [go_sem, List.take_length, bkV]
  · simp only [go_sem, bkBs]
  rintro ⟨l, m⟩ ⟨hm, ho, hlm, hv⟩
  dsimp only at hm ho hlm hv ⊢
  have hmin : min m a.length = m := Nat.min_eq_left hm
  simp (disch := (first | assumption | omega | (simp only [push_cast] <;> omega))) only [go_sem, hmin]
  refine AXc.introP (fun h1 => ?_) (fun h1 => ?_)
  · have hc : maxI 0 ((m : Int) - 9) = ((m - 9 : Nat) : Int) := by unfold maxI; split <;> omega
    simp (disch := (first | assumption | omega | (simp only [push_cast] <;> omega))) only [go_sem, hmin, hc]
    refine AXs.loop mixed (extΓ_ok cTrim_ok noΓ_ok) noΔ_ok (fun i : Nat => [(0, .str (a.take m)), (3, bkV l), (4, .int .i64 (m - 9 : Nat)), (5, .int .u64 (valD ((a.take i).drop (m - 9)) : Nat)), (6, .int .i64 i)]) (fun _ => ⟨bkBs l, bkN l⟩) (fun i => m - 9 ≤ i ∧ i ≤ m) (fun i => m - i) (m - 9) (by kernel_rfl)
      ⟨Nat.le_refl _, by omega⟩ (Sub.of0 [] rfl (bk_k l) ?_ (bk_h l)) ?_
    · simp only [go_sem]
      refine ⟨bk_v l, ?_⟩
      simp [valD]
    rintro i ⟨hi1, hi2⟩
    simp (disch := (first | assumption | omega | (simp only [push_cast] <;> omega))) only [go_sem, hmin]
    refine AXc.introP (fun h2 => ?_) (fun h2 => ?_)
    · have him : i < m := by omega
      have hia : i < a.length := by omega
      have hg : (a.take m).getD i 0 = a.getD i 0 := getD_take _ _ _ _ him
      have hdi := isDig_le (all_getD.1 hd i hia)
      have hv2 : valD ((a.take (i + 1)).drop (m - 9)) = 10 * valD ((a.take i).drop (m - 9)) + ((a.getD i 0).toNat - 48) := by
        rw [take_succ_getD a i 0 hia, List.drop_append_of_le_length (by simp; omega), valD_snoc]
      have hlt : valD ((a.take i).drop (m - 9)) < 100000000 := by
        have h3 : ((a.take i).drop (m - 9)).all isDig = true := List.all_eq_true.2 fun x hx => List.all_eq_true.1 hd x (List.mem_of_mem_take (List.mem_of_mem_drop hx))
        have h4 := valD_lt h3
        have h5 : 10 ^ ((a.take i).drop (m - 9)).length ≤ 10 ^ 8 := Nat.pow_le_pow_right (by omega) (by simp; omega)
        omega
      simp (disch := (first | assumption | omega | (simp only [push_cast] <;> omega))) only [go_sem, hmin, hg]
      refine ⟨by omega, loopK_norm (i + 1) ⟨by omega, by omega⟩ (by omega) (Sub.of0 [] rfl (bk_k l) ?_ (bk_h l))⟩
      simp only [go_sem]
      refine ⟨bk_v l, ?_⟩
      rw [hv2]
      simp only [V.int.injEq, true_and]
      omega
    · have him : i = m := by omega
      subst him
      have hs : (a.take i).all isDig = true := List.all_eq_true.2 fun x hx => List.all_eq_true.1 hd x (List.mem_of_mem_take hx)
      have hlt : valD ((a.take i).drop (i - 9)) < 1000000000 := by
        have h3 : ((a.take i).drop (i - 9)).all isDig = true := List.all_eq_true.2 fun x hx => List.all_eq_true.1 hs x (List.mem_of_mem_drop hx)
        have h4 := valD_lt h3
        have h5 : 10 ^ ((a.take i).drop (i - 9)).length ≤ 10 ^ 9 := Nat.pow_le_pow_right (by omega) (by simp; omega)
        omega
      have hnx := bk_next hm hv
      have hinc : i - 9 < i := by omega
      have hon : okL (l ++ [valD ((a.take i).drop (i - 9))]) := okL_snoc ho hlt
      have hmi : min (i - 9) i = i - 9 := by omega
      simp only [go_sem]
      refine AXa.go mixed (extΓ_ok cTrim_ok noΓ_ok) (noΔ_ok) (by kernel_rfl) ?_
      rcases l with _ | ⟨d, l⟩
      · simp (disch := (first | assumption | omega | (simp only [push_cast] <;> omega))) only [go_sem, hmin, bkV, bkBs, bkN]
        refine ⟨by omega, loopK_norm ([] ++ [valD ((a.take i).drop (i - 9))], i - 9) ⟨by omega, hon, by simp; omega, hnx⟩ hinc (Sub.of0 [(0, 1)] rfl rfl ?_ ?_)⟩
        · simp only [go_sem, hmi]
        · simp only [go_sem]
          simp [nats]
      · simp (disch := (first | assumption | omega | (simp only [push_cast] <;> omega))) only [go_sem, hmin, bkV, bkBs, bkN, len_nats]
        have hll : l.length + 1 + i ≤ 1000 := hlm
        refine ⟨by omega, by omega, loopK_norm ((d :: l) ++ [valD ((a.take i).drop (i - 9))], i - 9) ⟨by omega, hon, by simp at hlm ⊢; omega, hnx⟩ hinc (Sub.of0 [(0, 2)] rfl rfl ?_ ?_)⟩
        · simp only [go_sem, hmi]
          simp
        · simp only [go_sem]
          simp [nats]
  · have hm0 : m = 0 := by omega
    subst hm0
    rcases l with _ | ⟨d, l⟩
    · simp only [go_sem, bkV, bkBs]
      refine AXa.go mixed (extΓ_ok cTrim_ok noΓ_ok) noΔ_ok (by kernel_rfl) ?_
      simp only [go_sem]
      rw [limbs_of ho hv]
      simp [trimL, nats]
    · simp only [go_sem, bkV, bkBs, bkN]
      refine AXa.fz [0] rfl rfl rfl (env' := [(3, .fs (nats .u64 (d :: l)) (d :: l).length)]) (bs' := []) (n' := 1) ?_ ?_ ?_
      · simp only [go_sem]
        right
        exact FrzF.slp (by simp) rfl rfl (by simp [len_nats]) (by simp [take_nats]) (pure_nats _ _)
      · simp only [go_sem]
      refine AXa.go mixed (extΓ_ok cTrim_ok noΓ_ok) noΔ_ok (by kernel_rfl) ?_
      simp (disch := (first | assumption | omega | (simp only [push_cast] <;> omega))) only [go_sem]
      rw [limbs_of ho hv]
      exact ⟨rfl, rfl⟩
end Go.Proofs
