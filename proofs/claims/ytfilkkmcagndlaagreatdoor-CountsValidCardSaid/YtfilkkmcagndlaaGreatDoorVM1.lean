/- Whether a model is larger than a statement looks at. -/
import Derived.Test.YtfilkkmcagndlaaGreatDoorVM0
import Derived.Test.YtfilkkmcagndlaaGreatDoorM4
import Derived.Test.YtfilkkmcagndlaaGreatDoorAbHeap
set_option linter.unusedSimpArgs false
set_option linter.unusedVariables false
set_option linter.all false
namespace Go.Proofs
open Go.Ab Go.Cnt
def strL (s : Str) : Bool := decide (s.length ≤ 900)
def rowL (r : List Str) : Bool := decide (r.length ≤ 700) && r.all strL
def matL (m : List (List Str)) : Bool := m.all rowL
def mdlL (m : Mdl) : Bool := decide (m.tags.length ≤ 60 ∧ m.words.length ≤ 600 ∧ m.next.length ≤ 70 ∧ m.emit.length ≤ 70) && (matL m.next && (matL m.emit && matL [m.tags, m.words]))
set_option maxHeartbeats 8000000 in
set_option maxRecDepth 100000 in
theorem wide_ok (m : Mdl) (h1 : m.tags.length ≤ 1000000000000000) (h2 : m.words.length ≤ 1000000000000000) (h3 : m.next.length ≤ 1000000000000000) (h4 : m.emit.length ≤ 1000000000000000) :
    PCall Tryz.prog 7 [mdlV m] (.ret (.bool (!mdlL m))) := by
  obtain ⟨T, W, N, E⟩ := m
  dsimp only at h1 h2 h3 h4
  refine PCall.walk (rs := [.tmp 2]) [0, 1, 2, 4, 5, 6, 28, 38, 39, 40, 41, 47, 55, 62, 73] [28] mixed (noΓ_ok) (noΔ_ok) call7 Tryz.func7 rfl Tryz.ntmps7 rfl (by kernel_rfl) (by simp) (by simp [pure_bool, pure_int, pure_str, pure_fs, pure_fp, pure_fn, pure_agg, pure_tup, pure_nilS, pure_nilP, pure_natsP, pure_intsP, pure_strsP, pure_list, pure_cntsP, mdl_pure]) ?_
  have hb : (decide (60 < (T.length : Int)) || decide (600 < (W.length : Int)) || decide (70 < (N.length : Int)) || decide (70 < (E.length : Int))) = !decide (T.length ≤ 60 ∧ W.length ≤ 600 ∧ N.length ≤ 70 ∧ E.length ≤ 70) := by
    rw [Bool.eq_iff_iff]
    simp only [Bool.or_eq_true, Bool.not_eq_true', decide_eq_true_eq, decide_eq_false_iff_not]
    omega
  by_cases hs : T.length ≤ 60 ∧ W.length ≤ 600 ∧ N.length ≤ 70 ∧ E.length ≤ 70
  case neg =>
    have hv : mdlL ⟨T, W, N, E⟩ = false := by unfold mdlL; rw [decide_eq_false hs]; rfl
    rw [hv]
    simp (disch := (first | assumption | omega | (simp only [push_cast] <;> omega))) only [go_sem, mdlV]
    rw [hb, decide_eq_false hs]
    simp (disch := (first | assumption | omega | (simp only [push_cast] <;> omega))) only [go_sem]
  have hv : mdlL ⟨T, W, N, E⟩ = (matL N && (matL E && matL [T, W])) := by unfold mdlL; rw [decide_eq_true hs]; rfl
  rw [hv]
  obtain ⟨s1, s2, s3, s4⟩ := hs
  simp (disch := (first | assumption | omega | (simp only [push_cast] <;> omega))) only [go_sem, mdlV]
  rw [hb, decide_eq_true ⟨s1, s2, s3, s4⟩]
  simp (disch := (first | assumption | omega | (simp only [push_cast] <;> omega))) only [go_sem]
  refine AXs.rounds mixed noΓ_ok noΔ_ok [(), (), ()] (by kernel_rfl) ?_
  simp (disch := (first | assumption | omega | (simp only [push_cast] <;> omega))) only [go_sem]
  refine AXs.loop mixed (noΓ_ok) (noΔ_ok) (fun i : Nat => [(4, .fs (rowsC N) N.length), (38, .sl 1 0 3 1 (some 3)), (39, .int .i64 3), (40, .int .i64 0), (5, .int .i64 i)]) (fun _ => ⟨[(1, .cells [.fs (rowsC N) N.length, .fs (rowsC E) E.length, .sl 0 0 2 1 (some 2)]), (0, .cells [.fs (strs T) T.length, .fs (strs W) W.length])], 2⟩) (fun i => i ≤ N.length ∧ ∀ j, j < i → rowL (nthR N j) = true) (fun i => N.length - i) 0 (by kernel_rfl) ⟨Nat.zero_le _, fun j hj => by omega⟩ (Sub.of0 [] rfl rfl ?_ ?_) ?_
  · simp only [go_sem]
  · simp only [go_sem]
  rintro i ⟨h5, h6⟩
  simp only [go_sem]
  refine AXc.introP (fun h7 => ?_) (fun h7 => ?_)
  · have hi : i < N.length := by omega
    have at1 := rowsC_at N i hi
    simp (disch := (first | assumption | omega | (simp only [push_cast] <;> omega))) only [go_sem, at1]
    try (repeat refine And.intro (by first | omega | exact ⟨by omega, by omega⟩ | kernel_rfl | rfl | assumption | (intro h; exact ⟨h, by omega, by omega⟩) | (intro h; exact ⟨h, by omega⟩)) ?_)
    refine AXc.introP (fun h12 => ?_) (fun h12 => ?_)
    · simp (disch := (first | assumption | omega | (simp only [push_cast] <;> omega))) only [go_sem]
      have hr : rowL (nthR N i) = false := by unfold rowL; rw [decide_eq_false (by omega)]; rfl
      rw [show matL N = false from rowR.all_f (p := rowL) hi hr]; rfl
    simp (disch := (first | assumption | omega | (simp only [push_cast] <;> omega))) only [go_sem]
    refine AXs.loop mixed (noΓ_ok) (noΔ_ok) (fun k : Nat => [(4, .fs (rowsC N) N.length), (38, .sl 1 0 3 1 (some 3)), (39, .int .i64 3), (40, .int .i64 0), (5, .int .i64 i), (6, .int .i64 k)]) (fun _ => ⟨[(1, .cells [.fs (rowsC N) N.length, .fs (rowsC E) E.length, .sl 0 0 2 1 (some 2)]), (0, .cells [.fs (strs T) T.length, .fs (strs W) W.length])], 2⟩) (fun k => k ≤ (nthR N i).length ∧ ∀ q, q < k → strL ((nthR N i).getD q []) = true) (fun k => (nthR N i).length - k) 0 (by kernel_rfl) ⟨Nat.zero_le _, fun q hq => by omega⟩ (Sub.of0 [] rfl rfl ?_ ?_) ?_
    · simp only [go_sem]
    · simp only [go_sem]
    rintro k ⟨h8, h9⟩
    simp (disch := (first | assumption | omega | (simp only [push_cast] <;> omega))) only [go_sem, at1]
    try (repeat refine And.intro (by first | omega | exact ⟨by omega, by omega⟩ | kernel_rfl | rfl | assumption | (intro h; exact ⟨h, by omega, by omega⟩) | (intro h; exact ⟨h, by omega⟩)) ?_)
    refine AXc.introP (fun h10 => ?_) (fun h10 => ?_)
    · simp (disch := (first | assumption | omega | (simp only [push_cast] <;> omega))) only [go_sem, at1]
      try (repeat refine And.intro (by first | omega | exact ⟨by omega, by omega⟩ | kernel_rfl | rfl | assumption | (intro h; exact ⟨h, by omega, by omega⟩) | (intro h; exact ⟨h, by omega⟩)) ?_)
      refine AXc.introP (fun h11 => ?_) (fun h11 => ?_)
      · simp (disch := (first | assumption | omega | (simp only [push_cast] <;> omega))) only [go_sem]
        have hf : (nthR N i).all strL = false := allS_f (i := k) (by omega) (by unfold strL; exact decide_eq_false (by omega))
        have hr : rowL (nthR N i) = false := by unfold rowL; rw [hf, Bool.and_false]
        rw [show matL N = false from rowR.all_f (p := rowL) hi hr]; rfl
      · simp (disch := (first | assumption | omega | (simp only [push_cast] <;> omega))) only [go_sem]
        refine loopK_norm (k + 1) ⟨by omega, fun q hq => ?_⟩ (by omega) (Sub.of0 [] rfl rfl ?_ ?_)
        · by_cases hqk : q < k
          · exact h9 q hqk
          · obtain rfl : q = k := by omega
            unfold strL; exact decide_eq_true (by omega)
        · simp only [go_sem]
          simp
        · simp only [go_sem]
    have hrow : rowL (nthR N i) = true := by
      unfold rowL
      rw [decide_eq_true (by omega), allS_t fun q hq => h9 q (by omega)]; rfl
    simp only [go_sem]
    refine AXa.go mixed (noΓ_ok) (noΔ_ok) (by kernel_rfl) ?_
    simp (disch := (first | assumption | omega | (simp only [push_cast] <;> omega))) only [go_sem]
    refine loopK_norm (i + 1) ⟨by omega, fun j hj => ?_⟩ (by omega) (Sub.of0 [] rfl rfl ?_ ?_)
    · by_cases hji : j < i
      · exact h6 j hji
      · obtain rfl : j = i := by omega
        exact hrow
    · simp only [go_sem]
      simp
    · simp only [go_sem]
  obtain rfl : i = N.length := by omega
  have hN : matL N = true := rowR.all_t (p := rowL) h6
  clear h5 h6 h7
  simp only [go_sem]
  refine AXa.go mixed (noΓ_ok) (noΔ_ok) (by kernel_rfl) ?_
  simp (disch := (first | assumption | omega | (simp only [push_cast] <;> omega))) only [go_sem]
  refine AXs.loop mixed (noΓ_ok) (noΔ_ok) (fun i : Nat => [(4, .fs (rowsC E) E.length), (38, .sl 1 0 3 1 (some 3)), (39, .int .i64 3), (40, .int .i64 1), (5, .int .i64 i)]) (fun _ => ⟨[(1, .cells [.fs (rowsC N) N.length, .fs (rowsC E) E.length, .sl 0 0 2 1 (some 2)]), (0, .cells [.fs (strs T) T.length, .fs (strs W) W.length])], 2⟩) (fun i => i ≤ E.length ∧ ∀ j, j < i → rowL (nthR E j) = true) (fun i => E.length - i) 0 (by kernel_rfl) ⟨Nat.zero_le _, fun j hj => by omega⟩ (Sub.of0 [] rfl rfl ?_ ?_) ?_
  · simp only [go_sem]
  · simp only [go_sem]
  rintro i ⟨h5, h6⟩
  simp only [go_sem]
  refine AXc.introP (fun h7 => ?_) (fun h7 => ?_)
  · have hi : i < E.length := by omega
    have at1 := rowsC_at E i hi
    simp (disch := (first | assumption | omega | (simp only [push_cast] <;> omega))) only [go_sem, at1]
    try (repeat refine And.intro (by first | omega | exact ⟨by omega, by omega⟩ | kernel_rfl | rfl | assumption | (intro h; exact ⟨h, by omega, by omega⟩) | (intro h; exact ⟨h, by omega⟩)) ?_)
    refine AXc.introP (fun h12 => ?_) (fun h12 => ?_)
    · simp (disch := (first | assumption | omega | (simp only [push_cast] <;> omega))) only [go_sem]
      have hr : rowL (nthR E i) = false := by unfold rowL; rw [decide_eq_false (by omega)]; rfl
      rw [show matL E = false from rowR.all_f (p := rowL) hi hr, Bool.false_and, Bool.and_false]; rfl
    simp (disch := (first | assumption | omega | (simp only [push_cast] <;> omega))) only [go_sem]
    refine AXs.loop mixed (noΓ_ok) (noΔ_ok) (fun k : Nat => [(4, .fs (rowsC E) E.length), (38, .sl 1 0 3 1 (some 3)), (39, .int .i64 3), (40, .int .i64 1), (5, .int .i64 i), (6, .int .i64 k)]) (fun _ => ⟨[(1, .cells [.fs (rowsC N) N.length, .fs (rowsC E) E.length, .sl 0 0 2 1 (some 2)]), (0, .cells [.fs (strs T) T.length, .fs (strs W) W.length])], 2⟩) (fun k => k ≤ (nthR E i).length ∧ ∀ q, q < k → strL ((nthR E i).getD q []) = true) (fun k => (nthR E i).length - k) 0 (by kernel_rfl) ⟨Nat.zero_le _, fun q hq => by omega⟩ (Sub.of0 [] rfl rfl ?_ ?_) ?_
    · simp only [go_sem]
    · simp only [go_sem]
    rintro k ⟨h8, h9⟩
    simp (disch := (first | assumption | omega | (simp only [push_cast] <;> omega))) only [go_sem, at1]
    try (repeat refine And.intro (by first | omega | exact ⟨by omega, by omega⟩ | kernel_rfl | rfl | assumption | (intro h; exact ⟨h, by omega, by omega⟩) | (intro h; exact ⟨h, by omega⟩)) ?_)
    refine AXc.introP (fun h10 => ?_) (fun h10 => ?_)
    · simp (disch := (first | assumption | omega | (simp only [push_cast] <;> omega))) only [go_sem, at1]
      try (repeat refine And.intro (by first | omega | exact ⟨by omega, by omega⟩ | kernel_rfl | rfl | assumption | (intro h; exact ⟨h, by omega, by omega⟩) | (intro h; exact ⟨h, by omega⟩)) ?_)
      refine AXc.introP (fun h11 => ?_) (fun h11 => ?_)
      · simp (disch := (first | assumption | omega | (simp only [push_cast] <;> omega))) only [go_sem]
        have hf : (nthR E i).all strL = false := allS_f (i := k) (by omega) (by unfold strL; exact decide_eq_false (by omega))
        have hr : rowL (nthR E i) = false := by unfold rowL; rw [hf, Bool.and_false]
        rw [show matL E = false from rowR.all_f (p := rowL) hi hr, Bool.false_and, Bool.and_false]; rfl
      · simp (disch := (first | assumption | omega | (simp only [push_cast] <;> omega))) only [go_sem]
        refine loopK_norm (k + 1) ⟨by omega, fun q hq => ?_⟩ (by omega) (Sub.of0 [] rfl rfl ?_ ?_)
        · by_cases hqk : q < k
          · exact h9 q hqk
          · obtain rfl : q = k := by omega
            unfold strL; exact decide_eq_true (by omega)
        · simp only [go_sem]
          simp
        · simp only [go_sem]
    have hrow : rowL (nthR E i) = true := by
      unfold rowL
      rw [decide_eq_true (by omega), allS_t fun q hq => h9 q (by omega)]; rfl
    simp only [go_sem]
    refine AXa.go mixed (noΓ_ok) (noΔ_ok) (by kernel_rfl) ?_
    simp (disch := (first | assumption | omega | (simp only [push_cast] <;> omega))) only [go_sem]
    refine loopK_norm (i + 1) ⟨by omega, fun j hj => ?_⟩ (by omega) (Sub.of0 [] rfl rfl ?_ ?_)
    · by_cases hji : j < i
      · exact h6 j hji
      · obtain rfl : j = i := by omega
        exact hrow
    · simp only [go_sem]
      simp
    · simp only [go_sem]
  obtain rfl : i = E.length := by omega
  have hE : matL E = true := rowR.all_t (p := rowL) h6
  clear h5 h6 h7
  simp only [go_sem]
  refine AXa.go mixed (noΓ_ok) (noΔ_ok) (by kernel_rfl) ?_
  simp (disch := (first | assumption | omega | (simp only [push_cast] <;> omega))) only [go_sem]
  have t7 : ¬ (700 : Int) < T.length := by omega
  have w7 : ¬ (700 : Int) < W.length := by omega
  refine AXs.rounds mixed noΓ_ok noΔ_ok [(), ()] (by kernel_rfl) ?_
  simp (disch := (first | assumption | omega | (simp only [push_cast] <;> omega))) only [go_sem, t7, w7, decide_false]
  refine AXs.loop mixed (noΓ_ok) (noΔ_ok) (fun k : Nat => [(4, .sl 0 0 2 1 (some 2)), (38, .sl 1 0 3 1 (some 3)), (39, .int .i64 3), (40, .int .i64 2), (5, .int .i64 0), (6, .int .i64 k)]) (fun _ => ⟨[(1, .cells [.fs (rowsC N) N.length, .fs (rowsC E) E.length, .sl 0 0 2 1 (some 2)]), (0, .cells [.fs (strs T) T.length, .fs (strs W) W.length])], 2⟩) (fun k => k ≤ (T).length ∧ ∀ q, q < k → strL ((T).getD q []) = true) (fun k => (T).length - k) 0 (by kernel_rfl) ⟨Nat.zero_le _, fun q hq => by omega⟩ (Sub.of0 [] rfl rfl ?_ ?_) ?_
  · simp only [go_sem]
  · simp only [go_sem]
  rintro k ⟨h8, h9⟩
  simp (disch := (first | assumption | omega | (simp only [push_cast] <;> omega))) only [go_sem]
  try (repeat refine And.intro (by first | omega | exact ⟨by omega, by omega⟩ | kernel_rfl | rfl | assumption | (intro h; exact ⟨h, by omega, by omega⟩) | (intro h; exact ⟨h, by omega⟩)) ?_)
  refine AXc.introP (fun h10 => ?_) (fun h10 => ?_)
  · simp (disch := (first | assumption | omega | (simp only [push_cast] <;> omega))) only [go_sem]
    try (repeat refine And.intro (by first | omega | exact ⟨by omega, by omega⟩ | kernel_rfl | rfl | assumption | (intro h; exact ⟨h, by omega, by omega⟩) | (intro h; exact ⟨h, by omega⟩)) ?_)
    refine AXc.introP (fun h11 => ?_) (fun h11 => ?_)
    · simp (disch := (first | assumption | omega | (simp only [push_cast] <;> omega))) only [go_sem]
      have hf : (T).all strL = false := allS_f (i := k) (by omega) (by unfold strL; exact decide_eq_false (by omega))
      have hr : rowL (T) = false := by unfold rowL; rw [hf, Bool.and_false]
      rw [show matL [T, W] = false from by simp [matL, hr], Bool.and_false, Bool.and_false]; rfl
    · simp (disch := (first | assumption | omega | (simp only [push_cast] <;> omega))) only [go_sem]
      refine loopK_norm (k + 1) ⟨by omega, fun q hq => ?_⟩ (by omega) (Sub.of0 [] rfl rfl ?_ ?_)
      · by_cases hqk : q < k
        · exact h9 q hqk
        · obtain rfl : q = k := by omega
          unfold strL; exact decide_eq_true (by omega)
      · simp only [go_sem]
        simp
      · simp only [go_sem]
  have hrowT : rowL (T) = true := by
    unfold rowL
    rw [decide_eq_true (by omega), allS_t fun q hq => h9 q (by omega)]; rfl
  clear h8 h9 h10
  simp only [go_sem]
  refine AXa.go mixed (noΓ_ok) (noΔ_ok) (by kernel_rfl) ?_
  simp (disch := (first | assumption | omega | (simp only [push_cast] <;> omega))) only [go_sem]
  have w7' : ¬ (700 : Int) < W.length := by omega
  simp (disch := (first | assumption | omega | (simp only [push_cast] <;> omega))) only [go_sem, w7', decide_false]
  refine AXs.loop mixed (noΓ_ok) (noΔ_ok) (fun k : Nat => [(4, .sl 0 0 2 1 (some 2)), (38, .sl 1 0 3 1 (some 3)), (39, .int .i64 3), (40, .int .i64 2), (5, .int .i64 1), (6, .int .i64 k)]) (fun _ => ⟨[(1, .cells [.fs (rowsC N) N.length, .fs (rowsC E) E.length, .sl 0 0 2 1 (some 2)]), (0, .cells [.fs (strs T) T.length, .fs (strs W) W.length])], 2⟩) (fun k => k ≤ (W).length ∧ ∀ q, q < k → strL ((W).getD q []) = true) (fun k => (W).length - k) 0 (by kernel_rfl) ⟨Nat.zero_le _, fun q hq => by omega⟩ (Sub.of0 [] rfl rfl ?_ ?_) ?_
  · simp only [go_sem]
  · simp only [go_sem]
  rintro k ⟨h8, h9⟩
  simp (disch := (first | assumption | omega | (simp only [push_cast] <;> omega))) only [go_sem]
  try (repeat refine And.intro (by first | omega | exact ⟨by omega, by omega⟩ | kernel_rfl | rfl | assumption | (intro h; exact ⟨h, by omega, by omega⟩) | (intro h; exact ⟨h, by omega⟩)) ?_)
  refine AXc.introP (fun h10 => ?_) (fun h10 => ?_)
  · simp (disch := (first | assumption | omega | (simp only [push_cast] <;> omega))) only [go_sem]
    try (repeat refine And.intro (by first | omega | exact ⟨by omega, by omega⟩ | kernel_rfl | rfl | assumption | (intro h; exact ⟨h, by omega, by omega⟩) | (intro h; exact ⟨h, by omega⟩)) ?_)
    refine AXc.introP (fun h11 => ?_) (fun h11 => ?_)
    · simp (disch := (first | assumption | omega | (simp only [push_cast] <;> omega))) only [go_sem]
      have hf : (W).all strL = false := allS_f (i := k) (by omega) (by unfold strL; exact decide_eq_false (by omega))
      have hr : rowL (W) = false := by unfold rowL; rw [hf, Bool.and_false]
      rw [show matL [T, W] = false from by simp [matL, hr], Bool.and_false, Bool.and_false]; rfl
    · simp (disch := (first | assumption | omega | (simp only [push_cast] <;> omega))) only [go_sem]
      refine loopK_norm (k + 1) ⟨by omega, fun q hq => ?_⟩ (by omega) (Sub.of0 [] rfl rfl ?_ ?_)
      · by_cases hqk : q < k
        · exact h9 q hqk
        · obtain rfl : q = k := by omega
          unfold strL; exact decide_eq_true (by omega)
      · simp only [go_sem]
        simp
      · simp only [go_sem]
  have hrowW : rowL (W) = true := by
    unfold rowL
    rw [decide_eq_true (by omega), allS_t fun q hq => h9 q (by omega)]; rfl
  clear h8 h9 h10
  simp only [go_sem]
  refine AXa.go mixed (noΓ_ok) (noΔ_ok) (by kernel_rfl) ?_
  simp (disch := (first | assumption | omega | (simp only [push_cast] <;> omega))) only [go_sem]
  refine AXa.go mixed (noΓ_ok) (noΔ_ok) (by kernel_rfl) ?_
  simp (disch := (first | assumption | omega | (simp only [push_cast] <;> omega))) only [go_sem]
  try refine AXa.go mixed (noΓ_ok) (noΔ_ok) (by kernel_rfl) ?_
  try simp (disch := (first | assumption | omega | (simp only [push_cast] <;> omega))) only [go_sem]
  rw [hN, hE, show matL [T, W] = true from by simp [matL, hrowT, hrowW]]
  rfl
end Go.Proofs

/- Whether counts are larger than a statement looks at. -/
namespace Go.Proofs
open Go.Ab Go.Cnt
def nameL (s : Str) : Bool := decide (s.length ≤ 100)
def entL (e : Ent) : Bool := nameL e.1.1 && nameL e.1.2
def listL (l : List Ent) : Bool := decide (l.length ≤ 600) && l.all entL
def nthL (ls : List (List Ent)) (i : Nat) : List Ent := ls.getD i []
def cellsL (ls : List (List Ent)) : List V := ls.map fun l => .fs (cnts l) l.length
theorem cellsL_at : ∀ (ls : List (List Ent)) (i : Nat), i < ls.length → (cellsL ls).drop i = .fs (cnts (nthL ls i)) (nthL ls i).length :: cellsL (ls.drop (i + 1))
  | [], _, h => by simp at h
  | l :: ls, 0, _ => rfl
  | l :: ls, i + 1, h => by
    have := cellsL_at ls i (by simpa using h)
    simpa [cellsL, nthL] using this
theorem pure_cellsL (ls : List (List Ent)) : ∀ x ∈ cellsL ls, Pure x := fun x hx => by
  obtain ⟨l, _, rfl⟩ := List.mem_map.1 hx
  exact .fs (pure_cnts l)
theorem pure_cellsLP (ls : List (List Ent)) : (∀ x ∈ cellsL ls, Pure x) ↔ True := ⟨fun _ => trivial, fun _ => pure_cellsL ls⟩
theorem allL_t {p : List Ent → Bool} : ∀ {ls : List (List Ent)}, (∀ i, i < ls.length → p (nthL ls i) = true) → ls.all p = true
  | [], _ => rfl
  | e :: l, h => by
    rw [List.all_cons, allL_t (ls := l) fun i hi => h (i + 1) (by simpa using hi)]
    have := h 0 (by simp)
    simpa [nthL] using this
theorem nthL_mem {ls : List (List Ent)} {i : Nat} (h : i < ls.length) : nthL ls i ∈ ls := by
  unfold nthL
  rw [List.getD_eq_getElem?_getD, List.getElem?_eq_getElem h]
  exact List.getElem_mem h
theorem allL_f {p : List Ent → Bool} {ls : List (List Ent)} {i : Nat} (hi : i < ls.length) (h : p (nthL ls i) = false) : ls.all p = false := by
  cases e : ls.all p with
  | false => rfl
  | true => rw [List.all_eq_true.1 e _ (nthL_mem hi)] at h; cases h
set_option maxHeartbeats 4000000 in
theorem large_ok (ls : List (List Ent)) (hls : ls.length ≤ 1000) : PCall Tryz.prog 6 [.fs (cellsL ls) ls.length] (.ret (.bool (!ls.all listL))) := by
  refine PCall.walk (rs := [.tmp 2]) [0, 2, 3, 4, 8, 16, 23, 47] [] mixed (noΓ_ok) (noΔ_ok) call6 Tryz.func6 rfl Tryz.ntmps6 rfl (by kernel_rfl) (by simp) (by simp [pure_bool, pure_int, pure_str, pure_fs, pure_fp, pure_fn, pure_agg, pure_tup, pure_nilS, pure_nilP, pure_natsP, pure_intsP, pure_strsP, pure_list, pure_cntsP, pure_cellsLP]) ?_
  simp (disch := (first | assumption | omega | (simp only [push_cast] <;> omega))) only [go_sem]
  refine AXs.loop mixed (noΓ_ok) (noΔ_ok) (fun i : Nat => [(0, .fs (cellsL ls) ls.length), (3, .int .i64 i)]) (fun _ => ⟨[], 0⟩) (fun i => i ≤ ls.length ∧ ∀ j, j < i → listL (nthL ls j) = true) (fun i => ls.length - i) 0 (by kernel_rfl) ⟨Nat.zero_le _, fun j hj => by omega⟩ (Sub.of0 [] rfl rfl ?_ ?_) ?_
  · simp only [go_sem]
    exact pure_cellsL ls
  · simp only [go_sem]
  rintro i ⟨h1, h2⟩
  simp only [go_sem]
  refine AXc.introP (fun h3 => ?_) (fun h3 => ?_)
  · have hi : i < ls.length := by omega
    have at1 := cellsL_at ls i hi
    simp (disch := (first | assumption | omega | (simp only [push_cast] <;> omega))) only [go_sem, at1]
    refine ⟨⟨by omega, by omega⟩, by omega, ?_⟩
    refine AXc.introP (fun h4 => ?_) (fun h4 => ?_)
    · simp (disch := (first | assumption | omega | (simp only [push_cast] <;> omega))) only [go_sem]
      have : listL (nthL ls i) = false := by unfold listL; rw [decide_eq_false (by omega)]; rfl
      rw [allL_f hi this]; rfl
    · have h4' : (nthL ls i).length ≤ 600 := by omega
      simp (disch := (first | assumption | omega | (simp only [push_cast] <;> omega))) only [go_sem]
      refine AXs.loop mixed (noΓ_ok) (noΔ_ok) (fun j : Nat => [(0, .fs (cellsL ls) ls.length), (3, .int .i64 i), (4, .int .i64 j)]) (fun _ => ⟨[], 0⟩) (fun j => j ≤ (nthL ls i).length ∧ ∀ k, k < j → entL (nthE (nthL ls i) k) = true) (fun j => (nthL ls i).length - j) 0 (by kernel_rfl) ⟨Nat.zero_le _, fun j hj => by omega⟩ (Sub.of0 [] rfl rfl ?_ ?_) ?_
      · simp only [go_sem]
        exact pure_cellsL ls
      · simp only [go_sem]
      rintro j ⟨h5, h6⟩
      simp (disch := (first | assumption | omega | (simp only [push_cast] <;> omega))) only [go_sem, at1]
      refine ⟨⟨by omega, by omega⟩, by omega, ?_⟩
      refine AXc.introP (fun h7 => ?_) (fun h7 => ?_)
      · have hj : j < (nthL ls i).length := by omega
        have at2 := cnts_at (nthL ls i) j hj
        simp (disch := (first | assumption | omega | (simp only [push_cast] <;> omega))) only [go_sem, at1, at2]
        (repeat refine And.intro (by first | omega | exact ⟨by omega, by omega⟩ | kernel_rfl | rfl | assumption | (intro h; exact ⟨h, by omega, by omega⟩) | (intro h; exact ⟨h, by omega⟩)) ?_)
        have hb : (decide (100 < ((nthE (nthL ls i) j).1.1.length : Int)) || decide (100 < ((nthE (nthL ls i) j).1.2.length : Int))) = !entL (nthE (nthL ls i) j) := by
          unfold entL nameL
          by_cases k1 : (nthE (nthL ls i) j).1.1.length ≤ 100 <;> by_cases k2 : (nthE (nthL ls i) j).1.2.length ≤ 100 <;> simp [k1, k2] <;> omega
        rw [hb]
        cases hg : entL (nthE (nthL ls i) j) with
        | false =>
          simp (disch := (first | assumption | omega | (simp only [push_cast] <;> omega))) only [go_sem]
          have : listL (nthL ls i) = false := by unfold listL; rw [all_f hj hg, Bool.and_false]
          rw [allL_f hi this]; rfl
        | true =>
          simp (disch := (first | assumption | omega | (simp only [push_cast] <;> omega))) only [go_sem]
          refine loopK_norm (j + 1) ⟨by omega, fun k hk => ?_⟩ (by omega) (Sub.of0 [] rfl rfl ?_ ?_)
          · by_cases hkj : k < j
            · exact h6 k hkj
            · obtain rfl : k = j := by omega
              exact hg
          · simp only [go_sem]
            refine ⟨pure_cellsL ls, ?_⟩
            simp
          · simp only [go_sem]
      · simp only [go_sem]
        refine AXa.go mixed (noΓ_ok) (noΔ_ok) (by kernel_rfl) ?_
        simp (disch := (first | assumption | omega | (simp only [push_cast] <;> omega))) only [go_sem]
        refine loopK_norm (i + 1) ⟨by omega, fun k hk => ?_⟩ (by omega) (Sub.of0 [] rfl rfl ?_ ?_)
        · by_cases hki : k < i
          · exact h2 k hki
          · obtain rfl : k = i := by omega
            unfold listL
            rw [decide_eq_true h4', all_t fun m hm => h6 m (by omega)]; rfl
        · simp only [go_sem]
          refine ⟨pure_cellsL ls, ?_⟩
          simp
        · simp only [go_sem]
  · have : i = ls.length := by omega
    subst this
    simp only [go_sem]
    refine AXa.go mixed (noΓ_ok) (noΔ_ok) (by kernel_rfl) ?_
    simp (disch := (first | assumption | omega | (simp only [push_cast] <;> omega))) only [go_sem]
    rw [allL_t fun j hj => h2 j hj]; rfl
noncomputable def cLarge : List V → Option PR := conOf (fun ls : List (List Ent) => [.fs (cellsL ls) ls.length]) (fun ls => ls.length ≤ 1000) fun ls => .ret (.bool (!ls.all listL))
theorem cellsL_inj : ∀ {l r : List (List Ent)}, cellsL l = cellsL r → l = r
  | [], [], _ => rfl
  | [], e :: r, h => by simp [cellsL] at h
  | e :: l, [], h => by simp [cellsL] at h
  | e :: l, e' :: r, h => by
    simp only [cellsL, List.map_cons, List.cons.injEq, V.fs.injEq] at h
    rw [cnts_inj h.1.1, cellsL_inj h.2]
theorem cLarge2_eq (a b : List Ent) : cLarge [.fs [.fs (cnts a) a.length, .fs (cnts b) b.length] 2] = some (.ret (.bool (!(listL a && listL b)))) := by
  have := conOf_eq (pat := fun ls : List (List Ent) => [.fs (cellsL ls) ls.length]) (cond := fun ls => ls.length ≤ 1000) (res := fun ls => .ret (.bool (!ls.all listL))) (fun x y h => by simp at h; exact cellsL_inj h.1) [a, b] (by simp)
  simp only [List.all_cons, List.all_nil, Bool.and_true] at this
  exact this
theorem cLarge_ok : ∀ args r, cLarge args = some r → PCall Tryz.prog 6 args r := conOf_ok fun ls h => large_ok ls h
attribute [go_sem] cLarge2_eq
theorem listL_iff {l : List Ent} (h : listL l = true) : l.length ≤ 600 ∧ shortL l := by
  unfold listL at h
  simp only [Bool.and_eq_true, decide_eq_true_eq] at h
  refine ⟨h.1, fun e he => ?_⟩
  have := List.all_eq_true.1 h.2 e he
  unfold entL nameL at this
  simp only [Bool.and_eq_true, decide_eq_true_eq] at this
  exact ⟨by omega, by omega⟩
end Go.Proofs

/- Whether two abstract values, and two abstract heaps, are the same. -/
namespace Go.Ab
def beqLv (f : V → V → Bool) : List V → List V → Bool
  | [], [] => true
  | a :: r, b :: s => f a b && beqLv f r s
  | _, _ => false
def beqN : Nat → V → V → Bool
  | 0, _, _ => false
  | n + 1, x, y =>
    match x, y with
    | .bool a, .bool b => a == b
    | .int k a, .int k' b => decide (k = k') && decide (a = b)
    | .str a, .str b => decide (a = b)
    | .nilS, .nilS => true
    | .sl b o l s c, .sl b' o' l' s' c' => Nat.beq b b' && Nat.beq o o' && Nat.beq l l' && Nat.beq s s' && decide (c = c')
    | .fs cs n1, .fs cs' n2 => Nat.beq n1 n2 && beqLv (beqN n) cs cs'
    | .nilP, .nilP => true
    | .ptr b o, .ptr b' o' => Nat.beq b b' && Nat.beq o o'
    | .fp cs, .fp cs' => beqLv (beqN n) cs cs'
    | .nilM, .nilM => true
    | .map b, .map b' => Nat.beq b b'
    | .fn f cs, .fn f' cs' => Nat.beq f f' && beqLv (beqN n) cs cs'
    | .bnd f cs, .bnd f' cs' => Nat.beq f f' && beqLv (beqN n) cs cs'
    | .nilF, .nilF => true
    | .ifc t v, .ifc t' v' => Nat.beq t t' && beqN n v v'
    | .nilI, .nilI => true
    | .agg cs, .agg cs' => beqLv (beqN n) cs cs'
    | .tup cs, .tup cs' => beqLv (beqN n) cs cs'
    | .any, .any => true
    | .opt b v, .opt b' v' => (b == b') && beqN n v v'
    | _, _ => false
def beqV (x y : V) : Bool := beqN 12 x y
def beqVs (l r : List V) : Bool := beqLv (beqN 12) l r
theorem beqL_eq {f : V → V → Bool} (hf : ∀ a b, f a b = true → a = b) : ∀ {l r : List V}, beqLv f l r = true → l = r
  | [], r, h => by cases r <;> simp [beqLv] at h; rfl
  | a :: l, r, h => by
    cases r with
    | nil => simp [beqLv] at h
    | cons b s =>
      simp [beqLv] at h
      rw [hf a b h.1, beqL_eq hf h.2]
theorem beqN_eq : ∀ (n : Nat) (a b : V), beqN n a b = true → a = b
  | 0, a, b, h => by simp [beqN] at h
  | n + 1, a, b, h => by
    have ih := beqN_eq n
    have il : ∀ {l r : List V}, beqLv (beqN n) l r = true → l = r := beqL_eq ih
    unfold beqN at h
    split at h <;> (try simp only [Bool.and_eq_true, Nat.beq_eq, decide_eq_true_eq, beq_iff_eq] at h) <;> first
      | rfl
      | (rw [h]; done)
      | (rw [h.1, h.2]; done)
      | (rw [h.1, il h.2]; done)
      | (rw [il h]; done)
      | (rw [h.1, ih _ _ h.2]; done)
      | (simp [h]; done)
      | (cases h; done)
theorem beqV_eq {a b : V} (h : beqV a b = true) : a = b := beqN_eq _ _ _ h
theorem beqVs_eq {l r : List V} (h : beqVs l r = true) : l = r := beqL_eq (beqN_eq _) h
def beqEs : List (Nat × V × V) → List (Nat × V × V) → Bool
  | [], [] => true
  | a :: r, b :: s => Nat.beq a.1 b.1 && beqV a.2.1 b.2.1 && beqV a.2.2 b.2.2 && beqEs r s
  | _, _ => false
theorem beqEs_eq : ∀ {a b : List (Nat × V × V)}, beqEs a b = true → a = b
  | [], b, h => by cases b <;> simp [beqEs] at h; rfl
  | (n, x, y) :: r, b, h => by
    cases b with
    | nil => simp [beqEs] at h
    | cons q s =>
      obtain ⟨m, x', y'⟩ := q
      simp [beqEs] at h
      rw [h.1.1.1, beqV_eq h.1.1.2, beqV_eq h.1.2, beqEs_eq h.2]
def beqB : Blk → Blk → Bool
  | .cells cs, .cells cs' => beqVs cs cs'
  | .mp es c, .mp es' c' => Nat.beq c c' && beqEs es es'
  | .it m bs l s t c, .it m' bs' l' s' t' c' => decide (m = m' ∧ bs = bs' ∧ l = l' ∧ s = s' ∧ t = t' ∧ c = c')
  | .ty t cs, .ty t' cs' => Nat.beq t t' && beqVs cs cs'
  | _, _ => false
theorem beqB_eq {a b : Blk} (h : beqB a b = true) : a = b := by
  cases a <;> cases b <;> simp [beqB] at h
  · rw [beqVs_eq h]
  · rw [h.1, beqEs_eq h.2]
  · obtain ⟨h1, h2, h3, h4, h5, h6⟩ := h
    rw [h1, h2, h3, h4, h5, h6]
  · rw [h.1, beqVs_eq h.2]
def beqBs : List (Nat × Blk) → List (Nat × Blk) → Bool
  | [], [] => true
  | a :: r, b :: s => Nat.beq a.1 b.1 && beqB a.2 b.2 && beqBs r s
  | _, _ => false
theorem beqBs_eq : ∀ {a b : List (Nat × Blk)}, beqBs a b = true → a = b
  | [], b, h => by cases b <;> simp [beqBs] at h; rfl
  | (n, x) :: r, b, h => by
    cases b with
    | nil => simp [beqBs] at h
    | cons q s =>
      obtain ⟨m, x'⟩ := q
      simp [beqBs] at h
      rw [h.1.1, beqB_eq h.1.2, beqBs_eq h.2]
end Go.Ab
