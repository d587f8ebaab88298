/- Tables of probabilities: the program's and the reference's test. -/
import Derived.Test.YtfilkkmcagndlaaGreatDoorVM2
import Derived.Test.YtfilkkmcagndlaaGreatDoorF3c
import Derived.Test.YtfilkkmcagndlaaGreatDoorVM0
set_option linter.unusedSimpArgs false
set_option linter.unusedVariables false
set_option linter.all false
namespace Go.Proofs
open Go.Ab Go.Cnt Go.Pl
def p01 (p : Str) : Bool := (ratP p).isSome && decide (0 ≤ ratCmp p [48]) && decide (ratCmp p [49] ≤ 0)
def rowOK (w : Nat) (r : List Str) : Bool := decide (r.length = w) && r.all p01
def matB (m : List (List Str)) (n w : Nat) : Bool := decide (m.length = n) && m.all (rowOK w)
theorem p01_bool (p : Str) : (!(ratP p).isSome || decide (ratCmp p [48] < 0) || decide (0 < ratCmp p [49])) = !p01 p := by
  unfold p01
  rw [Bool.not_and, Bool.not_and]
  congr 1
  · congr 1
    by_cases h : 0 ≤ ratCmp p [48]
    · simp [h]
    · simp [h]; omega
  · by_cases h : ratCmp p [49] ≤ 0
    · simp [h]
    · simp [h]; omega
set_option maxHeartbeats 8000000 in
set_option maxRecDepth 100000 in
theorem rows_ok (m : List (List Str)) (n w : Nat) (hm : m.length ≤ 1000000) (hw : ∀ r ∈ m, r.length ≤ 1000000) (hs : ∀ r ∈ m, ∀ s ∈ r, s.length ≤ 1000000) : PCall Tryz.prog 29 [.fs (rowsC m) m.length, .int .i64 n, .int .i64 w] (.ret (.bool (matB m n w))) := by
  have hΓ := extΓ_ok cRatValid_ok (extΓ_ok cRatCmp_ok noΓ_ok)
  refine PCall.walk (rs := [.tmp 6]) [0, 1, 2, 6, 8, 10, 14, 15, 16, 17, 18, 24, 25, 26, 27, 28, 43] [] mixed (hΓ) (noΔ_ok) call29 Tryz.func29 rfl Tryz.ntmps29 rfl (by kernel_rfl) (by simp) (by simp [pure_bool, pure_int, pure_str, pure_fs, pure_fp, pure_fn, pure_agg, pure_tup, pure_nilS, pure_nilP, pure_natsP, pure_intsP, pure_strsP, pure_list, pure_cntsP, pure_rowsCP]) ?_
  simp only [go_sem]
  refine AXc.introN (fun h0 => ?_) (fun h0 => ?_)
  · simp only [go_sem]
    have : ¬ m.length = n := by omega
    simp [matB, this]
  have hn : m.length = n := by omega
  simp only [go_sem]
  refine AXs.loop mixed (hΓ) (noΔ_ok) (fun i : Nat => [(2, .int .i64 w), (15, .fs (rowsC m) m.length), (16, .int .i64 m.length), (17, .int .i64 i)]) (fun _ => ⟨[], 0⟩) (fun i => i ≤ m.length ∧ ∀ j, j < i → rowOK w (nthR m j) = true) (fun i => m.length - i) 0 (by kernel_rfl) ⟨Nat.zero_le _, fun j hj => by omega⟩ (Sub.of0 [] rfl rfl ?_ ?_) ?_
  · simp only [go_sem]
  · simp only [go_sem]
  rintro i ⟨h1, h2⟩
  simp only [go_sem]
  refine AXc.introP (fun h3 => ?_) (fun h3 => ?_)
  · have hi : i < m.length := by omega
    have at1 := rowsC_at m i hi
    have lw := hw _ (rowR.nth_mem hi)
    have ls := hs _ (rowR.nth_mem hi)
    rw [show rowR.nth m i = nthR m i from rfl] at lw ls
    simp (disch := (first | assumption | omega | (simp only [push_cast] <;> omega))) only [go_sem, at1]
    (repeat refine And.intro (by first | omega | exact ⟨by omega, by omega⟩ | kernel_rfl | rfl | assumption | (intro h; exact ⟨h, by omega, by omega⟩) | (intro h; exact ⟨h, by omega⟩)) ?_)
    refine AXc.introN (fun h4 => ?_) (fun h4 => ?_)
    · simp only [go_sem]
      have hr : rowOK w (nthR m i) = false := by unfold rowOK; rw [decide_eq_false (by omega)]; rfl
      unfold matB
      rw [rowR.all_f (p := rowOK w) hi hr, Bool.and_false]
    have hrw : (nthR m i).length = w := by omega
    simp (disch := (first | assumption | omega | (simp only [push_cast] <;> omega))) only [go_sem]
    refine AXs.loop mixed (hΓ) (noΔ_ok) (fun k : Nat => [(2, .int .i64 w), (15, .fs (rowsC m) m.length), (16, .int .i64 m.length), (17, .int .i64 i), (25, .fs (strs (nthR m i)) (nthR m i).length), (26, .int .i64 (nthR m i).length), (27, .int .i64 k)]) (fun _ => ⟨[], 0⟩) (fun k => k ≤ (nthR m i).length ∧ ∀ q, q < k → p01 ((nthR m i).getD q []) = true) (fun k => (nthR m i).length - k) 0 (by kernel_rfl) ⟨Nat.zero_le _, fun q hq => by omega⟩ (Sub.of0 [] rfl rfl ?_ ?_) ?_
    · simp only [go_sem]
    · simp only [go_sem]
    rintro k ⟨h5, h6⟩
    simp only [go_sem]
    refine AXc.introP (fun h7 => ?_) (fun h7 => ?_)
    · have hk : k < (nthR m i).length := by omega
      have lsk := ls _ (getS_mem hk)
      simp (disch := (first | assumption | omega | (simp only [push_cast] <;> omega))) only [go_sem]
      (repeat refine And.intro (by first | omega | exact ⟨by omega, by omega⟩ | kernel_rfl | rfl | assumption | (intro h; exact ⟨h, by omega, by omega⟩) | (intro h; exact ⟨h, by omega⟩)) ?_)
      rw [p01_bool]
      cases hp : p01 ((nthR m i).getD k []) with
      | false =>
        simp (disch := (first | assumption | omega | (simp only [push_cast] <;> omega))) only [go_sem]
        have hr : rowOK w (nthR m i) = false := by unfold rowOK; rw [allS_f hk hp, Bool.and_false]
        unfold matB
        rw [rowR.all_f (p := rowOK w) hi hr, Bool.and_false]
      | true =>
        simp (disch := (first | assumption | omega | (simp only [push_cast] <;> omega))) only [go_sem]
        refine loopK_norm (k + 1) ⟨by omega, fun q hq => ?_⟩ (by omega) (Sub.of0 [] rfl rfl ?_ ?_)
        · by_cases hqk : q < k
          · exact h6 q hqk
          · obtain rfl : q = k := by omega
            exact hp
        · simp only [go_sem]
          simp
        · simp only [go_sem]
    have hrow : rowOK w (nthR m i) = true := by
      unfold rowOK
      rw [decide_eq_true hrw, allS_t fun q hq => h6 q (by omega)]; rfl
    simp only [go_sem]
    refine AXa.go mixed (hΓ) (noΔ_ok) (by kernel_rfl) ?_
    simp (disch := (first | assumption | omega | (simp only [push_cast] <;> omega))) only [go_sem]
    refine loopK_norm (i + 1) ⟨by omega, fun j hj => ?_⟩ (by omega) (Sub.of0 [] rfl rfl ?_ ?_)
    · by_cases hji : j < i
      · exact h2 j hji
      · obtain rfl : j = i := by omega
        exact hrow
    · simp only [go_sem]
      simp
    · simp only [go_sem]
  · have : i = m.length := by omega
    subst this
    simp only [go_sem]
    refine AXa.go mixed (hΓ) (noΔ_ok) (by kernel_rfl) ?_
    simp only [go_sem]
    unfold matB
    rw [decide_eq_true hn, rowR.all_t (p := rowOK w) h2]; rfl
set_option maxHeartbeats 8000000 in
set_option maxRecDepth 100000 in
theorem matrix_ok (m : List (List Str)) (n w : Nat) (hm : m.length ≤ 1000000) (hw : ∀ r ∈ m, r.length ≤ 1000000) (hs : ∀ r ∈ m, ∀ s ∈ r, s.length ≤ 1000000) : PCall Tryz.prog 31 [.fs (rowsC m) m.length, .int .i64 n, .int .i64 w] (.ret (.bool (matB m n w))) := by
  have hΓ := extΓ_ok cR3Valid_ok (extΓ_ok cR3Cmp_ok noΓ_ok)
  refine PCall.walk (rs := [.tmp 6]) [0, 1, 2, 6, 7, 8, 12, 16, 25, 32, 65] [] mixed (hΓ) (noΔ_ok) call31 Tryz.func31 rfl Tryz.ntmps31 rfl (by kernel_rfl) (by simp) (by simp [pure_bool, pure_int, pure_str, pure_fs, pure_fp, pure_fn, pure_agg, pure_tup, pure_nilS, pure_nilP, pure_natsP, pure_intsP, pure_strsP, pure_list, pure_cntsP, pure_rowsCP]) ?_
  simp only [go_sem]
  refine AXc.introN (fun h0 => ?_) (fun h0 => ?_)
  · simp only [go_sem]
    have : ¬ m.length = n := by omega
    simp [matB, this]
  have hn : m.length = n := by omega
  simp only [go_sem]
  refine AXs.loop mixed (hΓ) (noΔ_ok) (fun i : Nat => [(0, .fs (rowsC m) m.length), (2, .int .i64 w), (7, .int .i64 i)]) (fun _ => ⟨[], 0⟩) (fun i => i ≤ m.length ∧ ∀ j, j < i → rowOK w (nthR m j) = true) (fun i => m.length - i) 0 (by kernel_rfl) ⟨Nat.zero_le _, fun j hj => by omega⟩ (Sub.of0 [] rfl rfl ?_ ?_) ?_
  · simp only [go_sem]
  · simp only [go_sem]
  rintro i ⟨h1, h2⟩
  simp only [go_sem]
  refine AXc.introP (fun h3 => ?_) (fun h3 => ?_)
  · have hi : i < m.length := by omega
    have at1 := rowsC_at m i hi
    have lw := hw _ (rowR.nth_mem hi)
    have ls := hs _ (rowR.nth_mem hi)
    rw [show rowR.nth m i = nthR m i from rfl] at lw ls
    simp (disch := (first | assumption | omega | (simp only [push_cast] <;> omega))) only [go_sem, at1]
    (repeat refine And.intro (by first | omega | exact ⟨by omega, by omega⟩ | kernel_rfl | rfl | assumption | (intro h; exact ⟨h, by omega, by omega⟩) | (intro h; exact ⟨h, by omega⟩)) ?_)
    refine AXc.introN (fun h4 => ?_) (fun h4 => ?_)
    · simp only [go_sem]
      have hr : rowOK w (nthR m i) = false := by unfold rowOK; rw [decide_eq_false (by omega)]; rfl
      unfold matB
      rw [rowR.all_f (p := rowOK w) hi hr, Bool.and_false]
    have hrw : (nthR m i).length = w := by omega
    simp (disch := (first | assumption | omega | (simp only [push_cast] <;> omega))) only [go_sem]
    refine AXs.loop mixed (hΓ) (noΔ_ok) (fun k : Nat => [(0, .fs (rowsC m) m.length), (2, .int .i64 w), (7, .int .i64 i), (8, .int .i64 k)]) (fun _ => ⟨[], 0⟩) (fun k => k ≤ (nthR m i).length ∧ ∀ q, q < k → p01 ((nthR m i).getD q []) = true) (fun k => (nthR m i).length - k) 0 (by kernel_rfl) ⟨Nat.zero_le _, fun q hq => by omega⟩ (Sub.of0 [] rfl rfl ?_ ?_) ?_
    · simp only [go_sem]
    · simp only [go_sem]
    rintro k ⟨h5, h6⟩
    simp (disch := (first | assumption | omega | (simp only [push_cast] <;> omega))) only [go_sem, at1]
    (repeat refine And.intro (by first | omega | exact ⟨by omega, by omega⟩ | kernel_rfl | rfl | assumption | (intro h; exact ⟨h, by omega, by omega⟩) | (intro h; exact ⟨h, by omega⟩)) ?_)
    refine AXc.introP (fun h7 => ?_) (fun h7 => ?_)
    · have hk : k < (nthR m i).length := by omega
      have lsk := ls _ (getS_mem hk)
      simp (disch := (first | assumption | omega | (simp only [push_cast] <;> omega))) only [go_sem, at1]
      (repeat refine And.intro (by first | omega | exact ⟨by omega, by omega⟩ | kernel_rfl | rfl | assumption | (intro h; exact ⟨h, by omega, by omega⟩) | (intro h; exact ⟨h, by omega⟩)) ?_)
      trace_state
      rw [p01_bool]
      cases hp : p01 ((nthR m i).getD k []) with
      | false =>
        simp (disch := (first | assumption | omega | (simp only [push_cast] <;> omega))) only [go_sem]
        have hr : rowOK w (nthR m i) = false := by unfold rowOK; rw [allS_f hk hp, Bool.and_false]
        unfold matB
        rw [rowR.all_f (p := rowOK w) hi hr, Bool.and_false]
      | true =>
        simp (disch := (first | assumption | omega | (simp only [push_cast] <;> omega))) only [go_sem]
        refine loopK_norm (k + 1) ⟨by omega, fun q hq => ?_⟩ (by omega) (Sub.of0 [] rfl rfl ?_ ?_)
        · by_cases hqk : q < k
          · exact h6 q hqk
          · obtain rfl : q = k := by omega
            exact hp
        · simp only [go_sem]
          simp
        · simp only [go_sem]
    have hrow : rowOK w (nthR m i) = true := by
      unfold rowOK
      rw [decide_eq_true hrw, allS_t fun q hq => h6 q (by omega)]; rfl
    simp only [go_sem]
    refine AXa.go mixed (hΓ) (noΔ_ok) (by kernel_rfl) ?_
    simp (disch := (first | assumption | omega | (simp only [push_cast] <;> omega))) only [go_sem]
    refine loopK_norm (i + 1) ⟨by omega, fun j hj => ?_⟩ (by omega) (Sub.of0 [] rfl rfl ?_ ?_)
    · by_cases hji : j < i
      · exact h2 j hji
      · obtain rfl : j = i := by omega
        exact hrow
    · simp only [go_sem]
      simp
    · simp only [go_sem]
  · have : i = m.length := by omega
    subst this
    simp only [go_sem]
    refine AXa.go mixed (hΓ) (noΔ_ok) (by kernel_rfl) ?_
    simp only [go_sem]
    unfold matB
    rw [decide_eq_true hn, rowR.all_t (p := rowOK w) h2]; rfl
end Go.Proofs

/- Strings put together: slices.Concat. -/
namespace Go.Proofs
open Go.Ab Go.Cnt
theorem Tryz.infoS : infoT Tryz.prog 9 = some (1, 16, true) := by kernel_rfl
attribute [go_sem] Tryz.infoS Int.sub_zero
theorem call52 : Callable Tryz.prog 52 := fun a w => by kernel_rfl
theorem call28 : Callable Tryz.prog 28 := fun a w => by kernel_rfl
theorem strs_nil0 : strs [] = [] := rfl
theorem strs_app (a b : List Str) : strs (a ++ b) = strs a ++ strs b := by simp [strs]
theorem one_strs0 (l : List Str) : (strs l).all V.one = true := List.all_eq_true.2 fun x h => by
  simp only [strs, List.mem_map] at h
  obtain ⟨s, _, rfl⟩ := h
  rfl
def SzeroC (n : Nat) : List V := List.replicate n (V.str [])
theorem SzeroC_eq (n : Nat) : zerosE (some (.string ⟨([] : List UInt8).toArray⟩)) n = SzeroC n := rfl
theorem SzeroC_pure (n : Nat) : ∀ x ∈ SzeroC n, Pure x := by
  intro x hx
  unfold SzeroC at hx
  rw [List.eq_of_mem_replicate hx]
  exact .str _
theorem Sgrow0_ok : NCall Tryz.prog 52 [.nilS, .int .i64 0] [] [] .nilS ⟨[], 0⟩ := by
  refine NCall.walk (rs := [.tmp 4]) [0, 1, 4, 6, 16] [] 0 mixed (noΓ_ok) (noΔ_ok) call52 Tryz.func52 rfl Tryz.ntmps52 rfl (by kernel_rfl) (by simp) (by simp) (by simp) ?_
  simp only [go_sem]
  refine ⟨[(4, .nilS)], Sub.of0 [] rfl rfl ?_ ?_, rfl⟩
  · simp only [go_sem]
  · simp only [go_sem]
theorem Sgrow_ok (n : Nat) (h0 : 0 < n) (h1 : n ≤ 1000000) : NCall Tryz.prog 52 [.nilS, .int .i64 n] [] [] (.sl 0 0 0 1 none) ⟨[(0, .cells (SzeroC n))], 1⟩ := by
  have h0' : 0 < (n : Int) := by omega
  have h1' : (n : Int) ≤ 1000000 := by omega
  have h2' : ¬ (n : Int) < 0 := by omega
  refine NCall.walk (rs := [.tmp 4]) [0, 1, 4, 6, 16] [] 0 mixed (noΓ_ok) (noΔ_ok) call52 Tryz.func52 rfl Tryz.ntmps52 rfl (by kernel_rfl) (by simp) (by simp) (by simp) ?_
  simp (disch := (first | assumption | omega | (simp only [push_cast] <;> omega))) only [go_sem, h0', h1', h2', decide_true, decide_false, SzeroC_eq]
  refine ⟨by omega, [(4, .sl 0 0 0 1 none)], Sub.of0 [] rfl rfl ?_ ?_, rfl⟩
  · simp only [go_sem]
  · simp only [go_sem]
    exact lrel_same (SzeroC_pure n)
theorem SnilInt_pure (k : IntKind) (n : Int) : ∀ x ∈ [V.nilS, V.int k n], Pure x := by
  intro x hx
  simp only [List.mem_cons, List.not_mem_nil, or_false] at hx
  rcases hx with rfl | rfl
  · exact .nilS
  · exact .int _ _
def SGrowR (args : List V) (H : Hp) (r : AR) : Prop :=
  ∃ n : Nat, args = [.nilS, .int .i64 n] ∧ n ≤ 1000000 ∧ (∀ b x, H.get b = some x → b < H.next) ∧
    r = if n = 0 then ⟨True, .nilS, H, [], []⟩ else ⟨True, .sl H.next 0 0 1 none, ⟨(H.next, .cells (SzeroC n)) :: H.bs, H.next + 1⟩, [], []⟩
theorem SgrowR_ok : ∀ args H r, SGrowR args H r → HCall Tryz.prog 52 args H r := by
  rintro args H r ⟨n, rfl, hn, hk, rfl⟩
  by_cases h0 : n = 0
  · subst h0
    rw [if_pos rfl]
    exact HCall.none Sgrow0_ok .nilS [] _ H rfl .nil (lrel_same (SnilInt_pure _ _)) (fun i x hx => by simp at hx) (fun i x hx => by simp at hx) hk
  · rw [if_neg h0]
    exact HCall.fresh (F := []) (Sgrow_ok n (by omega) hn) (SzeroC_pure n) [] _ H rfl .nil (lrel_same (SnilInt_pure _ _)) (fun i x hx => by simp at hx) (fun i x hx => by simp at hx) hk
theorem SgrowR_uniq {args : List V} {H : Hp} {r r' : AR} (h : SGrowR args H r) (h' : SGrowR args H r') : r' = r := by
  obtain ⟨n, rfl, _, _, rfl⟩ := h
  obtain ⟨m, he, _, _, rfl⟩ := h'
  simp only [List.cons.injEq, V.int.injEq, and_true, true_and] at he
  have : n = m := by omega
  subst this
  rfl
theorem SgrowR_eq (n : Nat) (z : Int) (bs : List (Nat × Blk)) (nx : Nat) (hz : z = n) (h0 : 0 < n) (hn : n ≤ 1000000) (hk : ((keysB bs).all fun b => decide (b < nx)) = true) :
    conD SGrowR [.nilS, .int .i64 z] ⟨bs, nx⟩ = some ⟨True, .sl nx 0 0 1 none, ⟨(nx, .cells (SzeroC n)) :: bs, nx + 1⟩, [], []⟩ := by
  subst hz
  have h : SGrowR [.nilS, .int .i64 n] ⟨bs, nx⟩ ⟨True, .sl nx 0 0 1 none, ⟨(nx, .cells (SzeroC n)) :: bs, nx + 1⟩, [], []⟩ := ⟨n, rfl, hn, keysLt hk, by rw [if_neg (by omega)]⟩
  exact conD_eq h fun r' h' => SgrowR_uniq h h'
theorem SgrowR_eq0 (bs : List (Nat × Blk)) (nx : Nat) (hk : ((keysB bs).all fun b => decide (b < nx)) = true) : conD SGrowR [.nilS, .int .i64 0] ⟨bs, nx⟩ = some ⟨True, .nilS, ⟨bs, nx⟩, [], []⟩ := by
  have h : SGrowR [.nilS, .int .i64 0] ⟨bs, nx⟩ ⟨True, .nilS, ⟨bs, nx⟩, [], []⟩ := ⟨0, rfl, by omega, keysLt hk, by rw [if_pos rfl]⟩
  exact conD_eq h fun r' h' => SgrowR_uniq h h'
noncomputable def ΔSg : FuncId → List V → Hp → Option AR := extΔ 52 (conD SGrowR) noΔ
theorem ΔSg_ok : GoodΔ Tryz.prog ΔSg := extΔ_ok (conD_ok SgrowR_ok) noΔ_ok
set_option maxHeartbeats 4000000 in
theorem Sconcat_ok (a c : List Str) (ha : a.length ≤ 100000) (hc : c.length ≤ 100000) (hne : 0 < a.length + c.length) : NCall Tryz.prog 28 [.sl 0 0 2 1 (some 2)] [.cells [.fs (strs a) a.length, .fs (strs c) c.length]] []
    (.sl 1 0 (a ++ c).length 1 none) ⟨[(1, .cells (strs (a ++ c))), (0, .cells [.fs (strs a) a.length, .fs (strs c) c.length])], 2⟩ := by
  refine NCall.walk (rs := [.tmp 2]) [0, 2, 3, 5, 6, 8, 9, 10, 11, 12, 20, 25, 26, 27, 28] [] 1 mixed (noΓ_ok) (ΔSg_ok) call28 Tryz.func28 rfl Tryz.ntmps28 rfl (by kernel_rfl) (by simp) (by simp) (by simp) ?_
  simp only [go_sem]
  have k1 : ¬ ((a.length : Int) < 0) := by omega
  have k2 : ¬ ((a.length : Int) + (c.length : Int) < 0) := by omega
  refine AXs.rounds mixed noΓ_ok ΔSg_ok [(), ()] (by kernel_rfl) ?_
  simp (disch := (first | assumption | omega | (simp only [push_cast] <;> omega))) only [go_sem, k1, k2, decide_false, Int.zero_add]
  refine AXa.go mixed (noΓ_ok) ( ΔSg_ok) (by kernel_rfl) ?_
  have hg := SgrowR_eq (a.length + c.length) ((a.length : Int) + (c.length : Int)) [(0, .cells [.fs (strs a) a.length, .fs (strs c) c.length])] 1 (by omega) hne (by omega) (by rfl)
  have hg' : ΔSg 52 [.nilS, .int .i64 ((a.length : Int) + (c.length : Int))] ⟨[(0, .cells [.fs (strs a) a.length, .fs (strs c) c.length])], 1⟩ = _ := hg
  simp (disch := (first | assumption | omega | (simp only [push_cast] <;> omega))) only [go_sem, hg']
  clear hg hg'
  rcases Nat.eq_zero_or_pos a.length with ha0 | ha0
  · obtain rfl : a = [] := List.eq_nil_of_length_eq_zero ha0
    have c1 : ¬ c.length = 0 := by simp at hne; omega
    refine AXs.rounds mixed noΓ_ok ΔSg_ok [(), ()] (by kernel_rfl) ?_
    simp (disch := (first | assumption | omega | (simp only [push_cast] <;> omega))) only [go_sem, strs_nil0, one_strs0, c1]
    refine ⟨by omega, ?_⟩
    refine AXa.go mixed (noΓ_ok) ( ΔSg_ok) (by kernel_rfl) ?_
    simp only [go_sem]
    refine ⟨[(2, .sl 1 0 c.length 1 none)], Sub.of [(1, 2)] rfl ?_ ?_ (Nat.le_succ _) (fun b hb _ => ?_), ?_⟩
    · simp only [go_sem]
    · simp only [go_sem]
      exact fun x hx => (nomatch hx)
    · obtain rfl : b = 0 := Nat.lt_one_iff.1 hb
      rfl
    · rfl
  · have a1 : ¬ a.length = 0 := by omega
    rcases Nat.eq_zero_or_pos c.length with hc0 | hc0
    · obtain rfl : c = [] := List.eq_nil_of_length_eq_zero hc0
      refine AXs.rounds mixed noΓ_ok ΔSg_ok [(), ()] (by kernel_rfl) ?_
      simp (disch := (first | assumption | omega | (simp only [push_cast] <;> omega))) only [go_sem, strs_nil0, one_strs0, a1]
      refine ⟨by omega, ?_⟩
      refine AXa.go mixed (noΓ_ok) ( ΔSg_ok) (by kernel_rfl) ?_
      simp only [go_sem]
      refine ⟨[(2, .sl 1 0 a.length 1 none)], Sub.of [(1, 2)] rfl ?_ ?_ (Nat.le_succ _) (fun b hb _ => ?_), ?_⟩
      · simp only [go_sem]
      · simp only [go_sem]
        exact fun x hx => (nomatch hx)
      · obtain rfl : b = 0 := Nat.lt_one_iff.1 hb
        rfl
      · simp [lookE]
    · have c1 : ¬ c.length = 0 := by omega
      refine AXs.rounds mixed noΓ_ok ΔSg_ok [(), ()] (by kernel_rfl) ?_
      simp (disch := (first | assumption | omega | (simp only [push_cast] <;> omega))) only [go_sem, one_strs0, a1, c1]
      refine ⟨by omega, by omega, ?_⟩
      refine AXa.go mixed (noΓ_ok) ( ΔSg_ok) (by kernel_rfl) ?_
      simp only [go_sem]
      refine ⟨[(2, .sl 1 0 (a ++ c).length 1 none)], Sub.of [(1, 3)] rfl ?_ ?_ (Nat.le_succ _) (fun b hb _ => ?_), ?_⟩
      · simp only [go_sem]
        simp
      · simp only [go_sem]
        try rw [strs_app, List.take_of_length_le (by simp [strs])]
        try exact lrel_same fun x hx => (List.mem_append.1 hx).elim (pure_strs a x) (pure_strs c x)
      · obtain rfl : b = 0 := Nat.lt_one_iff.1 hb
        rfl
      · rfl
theorem Sconcat0_ok : NCall Tryz.prog 28 [.sl 0 0 2 1 (some 2)] [.cells [.fs [] 0, .fs [] 0]] [] .nilS ⟨[(0, .cells [.fs [] 0, .fs [] 0])], 1⟩ := by
  refine NCall.walk (rs := [.tmp 2]) [0, 2, 3, 5, 6, 8, 9, 10, 11, 12, 20, 25, 26, 27, 28] [] 1 mixed (noΓ_ok) (ΔSg_ok) call28 Tryz.func28 rfl Tryz.ntmps28 rfl (by kernel_rfl) (by simp) (by simp) (by simp) ?_
  simp only [go_sem]
  refine AXs.rounds mixed noΓ_ok ΔSg_ok [(), ()] (by kernel_rfl) ?_
  simp (disch := (first | assumption | omega | (simp only [push_cast] <;> omega))) only [go_sem, decide_false, Int.zero_add]
  refine AXa.go mixed (noΓ_ok) ( ΔSg_ok) (by kernel_rfl) ?_
  have hg : ΔSg 52 [.nilS, .int .i64 0] ⟨[(0, .cells [.fs [] 0, .fs [] 0])], 1⟩ = _ := SgrowR_eq0 [(0, .cells [.fs [] 0, .fs [] 0])] 1 (by rfl)
  simp (disch := (first | assumption | omega | (simp only [push_cast] <;> omega))) only [go_sem, hg]
  refine AXs.rounds mixed noΓ_ok ΔSg_ok [(), ()] (by kernel_rfl) ?_
  simp (disch := (first | assumption | omega | (simp only [push_cast] <;> omega))) only [go_sem]
  refine AXa.go mixed (noΓ_ok) ( ΔSg_ok) (by kernel_rfl) ?_
  simp only [go_sem]
  refine ⟨[(2, .nilS)], Sub.of [] rfl ?_ ?_ (Nat.le_refl _) (fun b hb _ => ?_), rfl⟩
  · simp only [go_sem]
  · simp only [go_sem]
    exact fun x hx => (nomatch hx)
  · obtain rfl : b = 0 := Nat.lt_one_iff.1 hb
    rfl
def SConcatR (args : List V) (H : Hp) (r : AR) : Prop :=
  ∃ (b : Nat) (a c : List Str), args = [.sl b 0 2 1 (some 2)] ∧ H.get b = some (.cells [.fs (strs a) a.length, .fs (strs c) c.length]) ∧ a.length ≤ 100000 ∧ c.length ≤ 100000 ∧ (∀ b x, H.get b = some x → b < H.next) ∧
    r = if a.length + c.length = 0 then ⟨True, .nilS, H, [b], []⟩ else ⟨True, .sl H.next 0 (a ++ c).length 1 none, ⟨(H.next, .cells (strs (a ++ c))) :: H.bs, H.next + 1⟩, [b], []⟩
theorem SconcatR_ok : ∀ args H r, SConcatR args H r → HCall Tryz.prog 28 args H r := by
  rintro args H r ⟨b, a, c, rfl, hb, ha, hc, hk, rfl⟩
  have hF' : ∀ (i : Nat) (x : Blk), ([Blk.cells [.fs (strs a) a.length, .fs (strs c) c.length]] : List Blk)[i]? = some x → ∀ π N, RnB π N x x := by
    intro i x hx π N
    match i with
    | 0 =>
      cases hx
      exact .cells (lrel_same fun x hx => by
        simp only [List.mem_cons, List.not_mem_nil, or_false] at hx
        rcases hx with rfl | rfl
        · exact .fs (pure_strs a)
        · exact .fs (pure_strs c))
    | i + 1 => simp at hx
  have hF : ∀ (i : Nat) (x : Blk), ([Blk.cells [.fs (strs a) a.length, .fs (strs c) c.length]] : List Blk)[i]? = some x → ∃ b', [b][i]? = some b' ∧ H.get b' = some x ∧ RnB (fun i => [b].getD i 0) (· < 1) x x := by
    intro i x hx
    match i with
    | 0 => exact ⟨b, rfl, by cases hx; exact hb, hF' 0 x hx _ _⟩
    | i + 1 => simp at hx
  have hargs : LRel (Rn (fun i => [b].getD i 0) (· < 1)) [V.sl 0 0 2 1 (some 2)] [.sl b 0 2 1 (some 2)] := by
    refine ⟨rfl, fun i x y hx hy => ?_⟩
    match i with
    | 0 => cases hx; cases hy; exact .sl (π := fun i => [b].getD i 0) (b := 0) (Nat.lt_one_iff.2 rfl) (.inr rfl)
    | i + 1 => simp at hx
  by_cases h0 : a.length + c.length = 0
  · rw [if_pos h0]
    obtain rfl : a = [] := List.eq_nil_of_length_eq_zero (by omega)
    obtain rfl : c = [] := List.eq_nil_of_length_eq_zero (by omega)
    exact HCall.none Sconcat0_ok .nilS [b] _ H rfl (by simp) hargs hF hF' hk
  · rw [if_neg h0]
    have pc : ∀ x ∈ strs (a ++ c), Pure x := pure_strs _
    exact HCall.fresh (F := [.cells [.fs (strs a) a.length, .fs (strs c) c.length]]) (Sconcat_ok a c ha hc (by omega)) pc [b] _ H rfl (by simp) hargs hF hF' hk
theorem SconcatR_eq (b : Nat) (a c : List Str) (bs : List (Nat × Blk)) (nx : Nat) (hb : lookB bs b = some (.cells [.fs (strs a) a.length, .fs (strs c) c.length])) (ha : a.length ≤ 100000) (hc : c.length ≤ 100000) (hk : ((keysB bs).all fun b => decide (b < nx)) = true) :
    conD SConcatR [.sl b 0 2 1 (some 2)] ⟨bs, nx⟩ = some (if a.length + c.length = 0 then ⟨True, .nilS, ⟨bs, nx⟩, [b], []⟩ else ⟨True, .sl nx 0 (a ++ c).length 1 none, ⟨(nx, .cells (strs (a ++ c))) :: bs, nx + 1⟩, [b], []⟩) := by
  have hg : (⟨bs, nx⟩ : Hp).get b = some (.cells [.fs (strs a) a.length, .fs (strs c) c.length]) := (lookB_eq bs b).trans hb
  refine conD_eq ⟨b, a, c, rfl, hg, ha, hc, keysLt hk, rfl⟩ ?_
  rintro r' ⟨b', a', c', he, hb', _, _, _, rfl⟩
  simp only [List.cons.injEq, V.sl.injEq, and_true] at he
  subst he
  rw [hg] at hb'
  simp only [Option.some.injEq, Blk.cells.injEq, List.cons.injEq, V.fs.injEq, and_true] at hb'
  obtain ⟨⟨h1, _⟩, h2, _⟩ := hb'
  rw [strs_inj h1, strs_inj h2]
end Go.Proofs

/- Whether a model is valid: the program and the reference. -/
namespace Go.Proofs
open Go.Ab Go.Cnt Go.Pl
structure Fit (m : Mdl) : Prop where
  tl : m.tags.length ≤ 100000
  wl : m.words.length ≤ 100000
  nl : m.next.length ≤ 100000
  el : m.emit.length ≤ 100000
  ts : ∀ s ∈ m.tags, s.length ≤ 1000000
  ws : ∀ s ∈ m.words, s.length ≤ 1000000
  nr : ∀ r ∈ m.next, r.length ≤ 1000000
  er : ∀ r ∈ m.emit, r.length ≤ 1000000
  ns : ∀ r ∈ m.next, ∀ s ∈ r, s.length ≤ 1000000
  es : ∀ r ∈ m.emit, ∀ s ∈ r, s.length ≤ 1000000
noncomputable def vmB (m : Mdl) : Bool := decide (m.tags.length ≤ 40) && (decide (m.words.length ≤ 500) && (incS m.tags && (incS m.words && ((m.tags ++ m.words).all nameB && (matB m.next (m.tags.length + 1) (m.tags.length + 1) && matB m.emit m.tags.length (m.words.length + 1))))))
noncomputable def cRows : List V → Option PR := conOf (fun p : List (List Str) × Nat × Nat => [.fs (rowsC p.1) p.1.length, .int .i64 p.2.1, .int .i64 p.2.2]) (fun p => p.1.length ≤ 1000000 ∧ (∀ r ∈ p.1, r.length ≤ 1000000) ∧ ∀ r ∈ p.1, ∀ s ∈ r, s.length ≤ 1000000) fun p => .ret (.bool (matB p.1 p.2.1 p.2.2))
theorem cRows_ok : ∀ args r, cRows args = some r → PCall Tryz.prog 29 args r := conOf_ok fun p h => rows_ok p.1 p.2.1 p.2.2 h.1 h.2.1 h.2.2
theorem cRows_eq (m : List (List Str)) (n w : Nat) (a b : Int) (ha : a = n) (hb : b = w) (h1 : m.length ≤ 1000000) (h2 : ∀ r ∈ m, r.length ≤ 1000000) (h3 : ∀ r ∈ m, ∀ s ∈ r, s.length ≤ 1000000) : cRows [.fs (rowsC m) m.length, .int .i64 a, .int .i64 b] = some (.ret (.bool (matB m n w))) := by
  subst ha hb
  exact conOf_eq (pat := fun p : List (List Str) × Nat × Nat => [V.fs (rowsC p.1) p.1.length, .int .i64 p.2.1, .int .i64 p.2.2]) (fun x y h => by
    obtain ⟨x1, x2, x3⟩ := x
    obtain ⟨y1, y2, y3⟩ := y
    simp only [List.cons.injEq, V.fs.injEq, V.int.injEq, and_true, true_and] at h
    obtain ⟨⟨e1, _⟩, e2, e3⟩ := h
    have e2' : x2 = y2 := by omega
    have e3' : x3 = y3 := by omega
    rw [rowsC_inj e1, e2', e3']) (m, n, w) ⟨h1, h2, h3⟩
noncomputable def cMatrix : List V → Option PR := conOf (fun p : List (List Str) × Nat × Nat => [.fs (rowsC p.1) p.1.length, .int .i64 p.2.1, .int .i64 p.2.2]) (fun p => p.1.length ≤ 1000000 ∧ (∀ r ∈ p.1, r.length ≤ 1000000) ∧ ∀ r ∈ p.1, ∀ s ∈ r, s.length ≤ 1000000) fun p => .ret (.bool (matB p.1 p.2.1 p.2.2))
theorem cMatrix_ok : ∀ args r, cMatrix args = some r → PCall Tryz.prog 31 args r := conOf_ok fun p h => matrix_ok p.1 p.2.1 p.2.2 h.1 h.2.1 h.2.2
theorem cMatrix_eq (m : List (List Str)) (n w : Nat) (a b : Int) (ha : a = n) (hb : b = w) (h1 : m.length ≤ 1000000) (h2 : ∀ r ∈ m, r.length ≤ 1000000) (h3 : ∀ r ∈ m, ∀ s ∈ r, s.length ≤ 1000000) : cMatrix [.fs (rowsC m) m.length, .int .i64 a, .int .i64 b] = some (.ret (.bool (matB m n w))) := by
  subst ha hb
  exact conOf_eq (pat := fun p : List (List Str) × Nat × Nat => [V.fs (rowsC p.1) p.1.length, .int .i64 p.2.1, .int .i64 p.2.2]) (fun x y h => by
    obtain ⟨x1, x2, x3⟩ := x
    obtain ⟨y1, y2, y3⟩ := y
    simp only [List.cons.injEq, V.fs.injEq, V.int.injEq, and_true, true_and] at h
    obtain ⟨⟨e1, _⟩, e2, e3⟩ := h
    have e2' : x2 = y2 := by omega
    have e3' : x3 = y3 := by omega
    rw [rowsC_inj e1, e2', e3']) (m, n, w) ⟨h1, h2, h3⟩
noncomputable def cRIncr : List V → Option PR := conOf (fun l : List Str => [.fs (strs l) l.length]) (fun l => l.length ≤ 1000000 ∧ ∀ s ∈ l, s.length ≤ 1000000) fun l => .ret (.bool (rincB l))
theorem cRIncr_eq (l : List Str) (hl : l.length ≤ 1000000) (hs : ∀ s ∈ l, s.length ≤ 1000000) : cRIncr [.fs (strs l) l.length] = some (.ret (.bool (rincB l))) :=
  conOf_eq (pat := fun l : List Str => [.fs (strs l) l.length]) (fun x y h => by simp at h; exact strs_inj h.1) l ⟨hl, hs⟩
theorem cRIncr_ok : ∀ args r, cRIncr args = some r → PCall Tryz.prog 30 args r := conOf_ok fun l h => rincr_ok l h.1 h.2
set_option maxHeartbeats 8000000 in
set_option maxRecDepth 100000 in
theorem rvalidModel_ok (m : Mdl) (h : Fit m) : PCall Tryz.prog 12 [mdlV m] (.ret (.bool (vmB m))) := by
  have hΓ := extΓ_ok cRIncr_ok (extΓ_ok cMatrix_ok noΓ_ok)
  obtain ⟨tl, wl, nl, el, ts, ws, nr, er, ns, es⟩ := h
  obtain ⟨T, W, N, E⟩ := m
  dsimp only at tl wl nl el ts ws nr er ns es
  have i1 := cRIncr_eq T (by omega) ts
  have i2 := cRIncr_eq W (by omega) ws
  have m1 := cMatrix_eq N (T.length + 1) (T.length + 1) ((T.length : Int) + 1) ((T.length : Int) + 1) (by omega) (by omega) (by omega) nr ns
  have m2 := cMatrix_eq E T.length (W.length + 1) (T.length : Int) ((W.length : Int) + 1) rfl (by omega) (by omega) er es
  have hv : vmB ⟨T, W, N, E⟩ = (decide ((T.length : Int) ≤ 40) && decide ((W.length : Int) ≤ 500) && rincB T && rincB W && matB N (T.length + 1) (T.length + 1) && matB E T.length (W.length + 1)) := by
    have e1 : decide ((T.length : Int) ≤ 40) = decide (T.length ≤ 40) := decide_eq_decide.2 (by omega)
    have e2 : decide ((W.length : Int) ≤ 500) = decide (W.length ≤ 500) := decide_eq_decide.2 (by omega)
    simp only [vmB, e1, e2, rincB, List.all_append]
    cases decide (T.length ≤ 40) <;> cases decide (W.length ≤ 500) <;> cases incS T <;> cases incS W <;> cases T.all nameB <;> cases W.all nameB <;> simp
  rw [hv]
  refine PCall.walk (rs := [.tmp 2]) [0, 1, 2] [] mixed (hΓ) (noΔ_ok) call12 Tryz.func12 rfl Tryz.ntmps12 rfl (by kernel_rfl) (by simp) (by simp [pure_bool, pure_int, pure_str, pure_fs, pure_fp, pure_fn, pure_agg, pure_tup, pure_nilS, pure_nilP, pure_natsP, pure_intsP, pure_strsP, pure_list, pure_cntsP, mdl_pure]) ?_
  simp (disch := (first | assumption | omega | (simp only [push_cast] <;> omega))) only [go_sem, mdlV, i1, i2, m1, m2]
noncomputable def ΔV : FuncId → List V → Hp → Option AR := extΔ 28 (conD SConcatR) noΔ
theorem ΔV_ok : GoodΔ Tryz.prog ΔV := extΔ_ok (conD_ok SconcatR_ok) noΔ_ok
set_option maxHeartbeats 8000000 in
set_option maxRecDepth 100000 in
theorem validModel_ok (m : Mdl) (h : Fit m) : PCall Tryz.prog 11 [mdlV m] (.ret (.bool (vmB m))) := by
  have hΓ := extΓ_ok cIncrS_ok (extΓ_ok cName_ok (extΓ_ok cRows_ok noΓ_ok))
  obtain ⟨tl, wl, nl, el, ts, ws, nr, er, ns, es⟩ := h
  obtain ⟨T, W, N, E⟩ := m
  dsimp only at tl wl nl el ts ws nr er ns es
  have m1 := cRows_eq N (T.length + 1) (T.length + 1) ((T.length : Int) + 1) ((T.length : Int) + 1) (by omega) (by omega) (by omega) nr ns
  have m2 := cRows_eq E T.length (W.length + 1) (T.length : Int) ((W.length : Int) + 1) rfl (by omega) (by omega) er es
  refine PCall.walk (rs := [.tmp 2]) [0, 1, 2, 3, 4, 6, 30, 36, 37, 38, 39, 44] [28] mixed (hΓ) (ΔV_ok) call11 Tryz.func11 rfl Tryz.ntmps11 rfl (by kernel_rfl) (by simp) (by simp [pure_bool, pure_int, pure_str, pure_fs, pure_fp, pure_fn, pure_agg, pure_tup, pure_nilS, pure_nilP, pure_natsP, pure_intsP, pure_strsP, pure_list, pure_cntsP, mdl_pure]) ?_
  have hb : (decide (40 < (T.length : Int)) || decide (500 < (W.length : Int)) || !incS T || !incS W) = !(decide (T.length ≤ 40) && decide (W.length ≤ 500) && incS T && incS W) := by
    have e1 : decide (40 < (T.length : Int)) = !decide (T.length ≤ 40) := by
      by_cases h : T.length ≤ 40
      · simp [h]; omega
      · simp [h]; omega
    have e2 : decide (500 < (W.length : Int)) = !decide (W.length ≤ 500) := by
      by_cases h : W.length ≤ 500
      · simp [h]; omega
      · simp [h]; omega
    rw [e1, e2]
    cases decide (T.length ≤ 40) <;> cases decide (W.length ≤ 500) <;> cases incS T <;> cases incS W <;> rfl
  have hv : vmB ⟨T, W, N, E⟩ = ((decide (T.length ≤ 40) && decide (W.length ≤ 500) && incS T && incS W) && ((T ++ W).all nameB && (matB N (T.length + 1) (T.length + 1) && matB E T.length (W.length + 1)))) := by
    simp only [vmB, Bool.and_assoc]
  rw [hv]
  simp (disch := (first | assumption | omega | (simp only [push_cast] <;> omega))) only [go_sem, mdlV]
  rw [hb]
  cases h0 : (decide (T.length ≤ 40) && decide (W.length ≤ 500) && incS T && incS W) with
  | false => simp (disch := (first | assumption | omega | (simp only [push_cast] <;> omega))) only [go_sem]
  | true =>
    have hC := SconcatR_eq 0 T W [(0, .cells [.fs (strs T) T.length, .fs (strs W) W.length])] 1 rfl tl wl rfl
    by_cases he : T.length + W.length = 0
    · rw [if_pos he] at hC
      have hC' : ΔV 28 [.sl 0 0 2 1 (some 2)] ⟨[(0, .cells [.fs (strs T) T.length, .fs (strs W) W.length])], 1⟩ = _ := hC
      obtain rfl : T = [] := List.eq_nil_of_length_eq_zero (by omega)
      obtain rfl : W = [] := List.eq_nil_of_length_eq_zero (by omega)
      have hC2 : ΔV 28 [.sl 0 0 2 1 (some 2)] ⟨[(0, .cells [.fs [] 0, .fs [] 0])], 1⟩ = some ⟨True, .nilS, ⟨[(0, .cells [.fs [] 0, .fs [] 0])], 1⟩, [0], []⟩ := hC'
      have k1 : cRows [.fs (rowsC N) N.length, .int .i64 1, .int .i64 1] = some (.ret (.bool (matB N 1 1))) := m1
      have k2 : cRows [.fs (rowsC E) E.length, .int .i64 0, .int .i64 1] = some (.ret (.bool (matB E 0 1))) := m2
      simp (disch := (first | assumption | omega | (simp only [push_cast] <;> omega))) only [go_sem, hC2]
      refine AXs.rounds mixed hΓ ΔV_ok [] (by kernel_rfl) ?_
      simp (disch := (first | assumption | omega | (simp only [push_cast] <;> omega))) only [go_sem]
      refine AXa.go mixed (hΓ) ( ΔV_ok) (by kernel_rfl) ?_
      simp (disch := (first | assumption | omega | (simp only [push_cast] <;> omega))) only [go_sem, k1, k2]
      trace_state
    rw [if_neg he] at hC
    have hC' : ΔV 28 [.sl 0 0 2 1 (some 2)] ⟨[(0, .cells [.fs (strs T) T.length, .fs (strs W) W.length])], 1⟩ = _ := hC
    have hlen : (T ++ W).length = T.length + W.length := List.length_append
    simp (disch := (first | assumption | omega | (simp only [push_cast] <;> omega))) only [go_sem, hC', hlen]
    have hpm : ∀ x ∈ [V.fs (strs T) T.length, .fs (strs W) W.length, .fs (rowsC N) N.length, .fs (rowsC E) E.length], Pure x := fun x h => by
      simp only [List.mem_cons, List.not_mem_nil, or_false] at h
      rcases h with rfl | rfl | rfl | rfl
      · exact .fs (pure_strs _)
      · exact .fs (pure_strs _)
      · exact .fs (pure_rowsC _)
      · exact .fs (pure_rowsC _)
    generalize hA : T ++ W = A at *
    refine AXs.loop mixed (hΓ) ( ΔV_ok) (fun i : Nat => [(1, .fp [.fs (strs T) T.length, .fs (strs W) W.length, .fs (rowsC N) N.length, .fs (rowsC E) E.length]), (3, .int .i64 T.length), (4, .int .i64 W.length), (36, .sl 1 0 (T.length + W.length) 1 none), (37, .int .i64 (T.length + W.length : Nat)), (38, .int .i64 i)]) (fun _ => ⟨[(1, .cells (strs A))], 2⟩) (fun i => i ≤ A.length ∧ ∀ j, j < i → nameB (A.getD j []) = true) (fun i => A.length - i) 0 (by kernel_rfl) ⟨Nat.zero_le _, fun j hj => by omega⟩ (Sub.of0 [] rfl rfl ?_ ?_) ?_
    · simp only [go_sem]
      exact hpm
    · simp only [go_sem]
    rintro i ⟨h1, h2⟩
    simp (disch := (first | assumption | omega | (simp only [push_cast] <;> omega))) only [go_sem]
    refine AXc.introP (fun h3 => ?_) (fun h3 => ?_)
    · have hi : i < A.length := by omega
      simp (disch := (first | assumption | omega | (simp only [push_cast] <;> omega))) only [go_sem]
      (repeat refine And.intro (by first | omega | exact ⟨by omega, by omega⟩ | kernel_rfl | rfl | assumption | (intro h; exact ⟨h, by omega, by omega⟩) | (intro h; exact ⟨h, by omega⟩)) ?_)
      cases hn : nameB (A.getD i []) with
      | false =>
        simp (disch := (first | assumption | omega | (simp only [push_cast] <;> omega))) only [go_sem]
        rw [allS_f hi hn]; rfl
      | true =>
        simp (disch := (first | assumption | omega | (simp only [push_cast] <;> omega))) only [go_sem]
        refine loopK_norm (i + 1) ⟨by omega, fun j hj => ?_⟩ (by omega) (Sub.of0 [] rfl rfl ?_ ?_)
        · by_cases hji : j < i
          · exact h2 j hji
          · obtain rfl : j = i := by omega
            exact hn
        · simp only [go_sem]
          refine ⟨hpm, ?_⟩
          simp
        · simp only [go_sem]
    · have hi : i = A.length := by omega
      rw [allS_t fun j hj => h2 j (by omega)]
      simp (disch := (first | assumption | omega | (simp only [push_cast] <;> omega))) only [go_sem]
      refine AXa.go mixed (hΓ) ( ΔV_ok) (by kernel_rfl) ?_
      simp (disch := (first | assumption | omega | (simp only [push_cast] <;> omega))) only [go_sem, m1, m2]
end Go.Proofs
