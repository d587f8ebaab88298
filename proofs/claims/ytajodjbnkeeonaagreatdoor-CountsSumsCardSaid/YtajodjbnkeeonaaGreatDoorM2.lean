/- Lists of counts: whether they are valid. -/
import Derived.Test.YtajodjbnkeeonaaGreatDoorM0Types
set_option linter.unusedSimpArgs false
set_option linter.unusedVariables false
namespace Go.Proofs
open Go.Ab Go.Cnt
noncomputable def incB (l : List Ent) : Bool := @decide (∀ i, i + 1 < l.length → lt (nthE l i).1 (nthE l (i + 1)).1 = true) (Classical.propDecidable _)
open Classical in
theorem incB_t {l : List Ent} (h : ∀ i, i + 1 < l.length → lt (nthE l i).1 (nthE l (i + 1)).1 = true) : incB l = true := by unfold incB; exact decide_eq_true h
open Classical in
theorem incB_f {l : List Ent} {i : Nat} (hi : i + 1 < l.length) (h : lt (nthE l i).1 (nthE l (i + 1)).1 = false) : incB l = false := by
  unfold incB; exact decide_eq_false fun k => by rw [k i hi] at h; cases h
set_option maxHeartbeats 4000000 in
theorem increasing_ok (l : List Ent) (hl : l.length ≤ 1000000) : PCall Tryz.prog 47 [.fs (cnts l) l.length, .fn 42 []] (.ret (.bool (incB l))) := by
  refine PCall.walk (rs := [.tmp 4]) [0, 1, 4, 5, 9, 23] [] mixed (extΓ_ok cCmpK_ok noΓ_ok) (noΔ_ok) call47 Tryz.func47 rfl Tryz.ntmps47 rfl (by kernel_rfl) (by simp) (by simp [pure_bool, pure_int, pure_str, pure_fs, pure_fp, pure_fn, pure_agg, pure_tup, pure_nilS, pure_nilP, pure_natsP, pure_intsP, pure_strsP, pure_list, pure_cntsP]) ?_
  simp only [go_sem, Nat.reduceBEq, Nat.reduceSub, Nat.reduceAdd, Nat.reduceMul, Nat.reduceLT, Nat.reduceLeDiff, Nat.reduceEqDiff, Int.reduceToNat, Int.reduceAdd, Int.reduceSub, Int.reduceMul, Int.reduceLT, Int.reduceLE, Int.reduceEq]
  refine AXs.loop mixed (extΓ_ok cCmpK_ok noΓ_ok) (noΔ_ok) (fun i : Nat => [(0, .fs (cnts l) l.length), (1, .fn 42 []), (5, .int .i64 i)]) (fun _ => ⟨[], 0⟩) (fun i => 1 ≤ i ∧ (i ≤ 1 ∨ i ≤ l.length) ∧ ∀ j, j + 1 < i → lt (nthE l j).1 (nthE l (j + 1)).1 = true) (fun i => l.length + 1 - i) 1 (by kernel_rfl)
    ⟨Nat.le_refl _, .inl (Nat.le_refl _), fun j hj => by omega⟩ (Sub.of0 [] rfl rfl ?_ ?_) ?_
  · simp only [go_sem, Nat.reduceBEq, Nat.reduceSub, Nat.reduceAdd, Nat.reduceMul, Nat.reduceLT, Nat.reduceLeDiff, Nat.reduceEqDiff, Int.reduceToNat, Int.reduceAdd, Int.reduceSub, Int.reduceMul, Int.reduceLT, Int.reduceLE, Int.reduceEq]
  · simp only [go_sem, Nat.reduceBEq, Nat.reduceSub, Nat.reduceAdd, Nat.reduceMul, Nat.reduceLT, Nat.reduceLeDiff, Nat.reduceEqDiff, Int.reduceToNat, Int.reduceAdd, Int.reduceSub, Int.reduceMul, Int.reduceLT, Int.reduceLE, Int.reduceEq]
  rintro i ⟨h1, h2, h3⟩
  simp only [go_sem, Nat.reduceBEq, Nat.reduceSub, Nat.reduceAdd, Nat.reduceMul, Nat.reduceLT, Nat.reduceLeDiff, Nat.reduceEqDiff, Int.reduceToNat, Int.reduceAdd, Int.reduceSub, Int.reduceMul, Int.reduceLT, Int.reduceLE, Int.reduceEq]
  refine AXc.introP (fun h4 => ?_) (fun h4 => ?_)
  · have a1 := cnts_at l (i - 1) (by omega)
    have a2 := cnts_at l i (by omega)
    simp (disch := (first | assumption | omega | (simp only [List.length_take, List.length_drop, List.length_append, List.length_set, List.length_replicate, List.length_cons, List.length_nil, len_nats, len_ints, len_strs] <;> omega))) only [go_sem, a1, a2, Nat.reduceBEq, Nat.reduceSub, Nat.reduceAdd, Nat.reduceMul, Nat.reduceLT, Nat.reduceLeDiff, Nat.reduceEqDiff, Int.reduceToNat, Int.reduceAdd, Int.reduceSub, Int.reduceMul, Int.reduceLT, Int.reduceLE, Int.reduceEq]
    refine ⟨by omega, by omega, ?_⟩
    refine AXc.introP (fun h5 => ?_) (fun h5 => ?_)
    · simp only [go_sem, Nat.reduceBEq, Nat.reduceSub, Nat.reduceAdd, Nat.reduceMul, Nat.reduceLT, Nat.reduceLeDiff, Nat.reduceEqDiff, Int.reduceToNat, Int.reduceAdd, Int.reduceSub, Int.reduceMul, Int.reduceLT, Int.reduceLE, Int.reduceEq]
      exact (incB_f (i := i - 1) (by omega) (by rw [show i - 1 + 1 = i by omega]; exact (cmpK_ge _ _).1 h5)).symm
    · have h5' : ¬ 0 ≤ cmpK (nthE l (i - 1)).1 (nthE l i).1 := h5
      have h6 : lt (nthE l (i - 1)).1 (nthE l i).1 = true := (cmpK_neg _ _).1 (by omega)
      simp (disch := (first | assumption | omega | (simp only [List.length_take, List.length_drop, List.length_append, List.length_set, List.length_replicate, List.length_cons, List.length_nil, len_nats, len_ints, len_strs] <;> omega))) only [go_sem, Nat.reduceBEq, Nat.reduceSub, Nat.reduceAdd, Nat.reduceMul, Nat.reduceLT, Nat.reduceLeDiff, Nat.reduceEqDiff, Int.reduceToNat, Int.reduceAdd, Int.reduceSub, Int.reduceMul, Int.reduceLT, Int.reduceLE, Int.reduceEq]
      refine loopK_norm (i + 1) ⟨by omega, by omega, fun j hj => ?_⟩ (by omega) (Sub.of0 [] rfl rfl ?_ ?_)
      · by_cases hji : j + 1 < i
        · exact h3 j hji
        · have : j = i - 1 := by omega
          subst this
          rw [show i - 1 + 1 = i by omega]; exact h6
      · simp only [go_sem, Nat.reduceBEq, Nat.reduceSub, Nat.reduceAdd, Nat.reduceMul, Nat.reduceLT, Nat.reduceLeDiff, Nat.reduceEqDiff, Int.reduceToNat, Int.reduceAdd, Int.reduceSub, Int.reduceMul, Int.reduceLT, Int.reduceLE, Int.reduceEq]
        simp
      · simp only [go_sem, Nat.reduceBEq, Nat.reduceSub, Nat.reduceAdd, Nat.reduceMul, Nat.reduceLT, Nat.reduceLeDiff, Nat.reduceEqDiff, Int.reduceToNat, Int.reduceAdd, Int.reduceSub, Int.reduceMul, Int.reduceLT, Int.reduceLE, Int.reduceEq]
  · simp only [go_sem, Nat.reduceBEq, Nat.reduceSub, Nat.reduceAdd, Nat.reduceMul, Nat.reduceLT, Nat.reduceLeDiff, Nat.reduceEqDiff, Int.reduceToNat, Int.reduceAdd, Int.reduceSub, Int.reduceMul, Int.reduceLT, Int.reduceLE, Int.reduceEq]
    refine AXa.go mixed (extΓ_ok cCmpK_ok noΓ_ok) (noΔ_ok) (by kernel_rfl) ?_
    simp only [go_sem, Nat.reduceBEq, Nat.reduceSub, Nat.reduceAdd, Nat.reduceMul, Nat.reduceLT, Nat.reduceLeDiff, Nat.reduceEqDiff, Int.reduceToNat, Int.reduceAdd, Int.reduceSub, Int.reduceMul, Int.reduceLT, Int.reduceLE, Int.reduceEq]
    exact (incB_t fun j hj => h3 j (by omega)).symm
noncomputable def cInc : List V → Option PR := conOf (fun l : List Ent => [.fs (cnts l) l.length, .fn 42 []]) (fun l => l.length ≤ 1000000) fun l => .ret (.bool (incB l))
theorem cInc_eq (l : List Ent) (n : Nat) (hn : n = l.length) (hl : l.length ≤ 1000000) : cInc [.fs (cnts l) n, .fn 42 []] = some (.ret (.bool (incB l))) := by
  subst hn; exact conOf_eq (pat := fun l : List Ent => [.fs (cnts l) l.length, .fn 42 []]) (fun x y h => by simp at h; exact cnts_inj h.1) l hl
theorem cInc_ok : ∀ args r, cInc args = some r → PCall Tryz.prog 47 args r := conOf_ok increasing_ok
attribute [go_sem] cInc_eq
def goodB (q : Str → Bool) (e : Ent) : Bool := !(decide (e.2 < 1) || decide (1000000 < e.2) || !q e.1.1 || !q e.1.2)
noncomputable def vB (q : Str → Bool) (l : List Ent) : Bool := decide (l.length ≤ 30000) && l.all (goodB q) && incB l
theorem all_t {p : Ent → Bool} : ∀ {l : List Ent}, (∀ i, i < l.length → p (nthE l i) = true) → l.all p = true
  | [], _ => rfl
  | e :: l, h => by
    rw [List.all_cons, all_t (l := l) fun i hi => h (i + 1) (by simpa using hi)]
    have := h 0 (by simp)
    simpa [nthE] using this
theorem nthE_mem {l : List Ent} {i : Nat} (h : i < l.length) : nthE l i ∈ l := by
  unfold nthE
  rw [List.getD_eq_getElem?_getD, List.getElem?_eq_getElem h]
  exact List.getElem_mem h
theorem all_f {p : Ent → Bool} {l : List Ent} {i : Nat} (hi : i < l.length) (h : p (nthE l i) = false) : l.all p = false := by
  cases e : l.all p with
  | false => rfl
  | true => rw [List.all_eq_true.1 e _ (nthE_mem hi)] at h; cases h
set_option maxHeartbeats 4000000 in
theorem validList_ok (l : List Ent) (hl : l.length ≤ 1000000) : PCall Tryz.prog 28 [.fs (cnts l) l.length, .fn 22 []] (.ret (.bool (vB nameB l))) := by
  refine PCall.walk (rs := [.tmp 4]) [0, 1, 4, 6, 9, 10, 11, 12, 13, 37] [] mixed (extΓ_ok cName_ok (extΓ_ok cInc_ok noΓ_ok)) (noΔ_ok) call28 Tryz.func28 rfl Tryz.ntmps28 rfl (by kernel_rfl) (by simp) (by simp [pure_bool, pure_int, pure_str, pure_fs, pure_fp, pure_fn, pure_agg, pure_tup, pure_nilS, pure_nilP, pure_natsP, pure_intsP, pure_strsP, pure_list, pure_cntsP]) ?_
  simp only [go_sem, Nat.reduceBEq, Nat.reduceSub, Nat.reduceAdd, Nat.reduceMul, Nat.reduceLT, Nat.reduceLeDiff, Nat.reduceEqDiff, Int.reduceToNat, Int.reduceAdd, Int.reduceSub, Int.reduceMul, Int.reduceLT, Int.reduceLE, Int.reduceEq]
  refine AXc.introP (fun h1 => ?_) (fun h1 => ?_)
  · simp only [go_sem, Nat.reduceBEq, Nat.reduceSub, Nat.reduceAdd, Nat.reduceMul, Nat.reduceLT, Nat.reduceLeDiff, Nat.reduceEqDiff, Int.reduceToNat, Int.reduceAdd, Int.reduceSub, Int.reduceMul, Int.reduceLT, Int.reduceLE, Int.reduceEq]
    have : ¬ l.length ≤ 30000 := by omega
    simp [vB, this]
  have h1' : l.length ≤ 30000 := by omega
  simp only [go_sem, Nat.reduceBEq, Nat.reduceSub, Nat.reduceAdd, Nat.reduceMul, Nat.reduceLT, Nat.reduceLeDiff, Nat.reduceEqDiff, Int.reduceToNat, Int.reduceAdd, Int.reduceSub, Int.reduceMul, Int.reduceLT, Int.reduceLE, Int.reduceEq]
  refine AXs.loop mixed (extΓ_ok cName_ok (extΓ_ok cInc_ok noΓ_ok)) (noΔ_ok) (fun i : Nat => [(0, .fs (cnts l) l.length), (1, .fn 22 []), (10, .fs (cnts l) l.length), (11, .int .i64 l.length), (12, .int .i64 i)]) (fun _ => ⟨[], 0⟩) (fun i => i ≤ l.length ∧ ∀ j, j < i → goodB nameB (nthE l j) = true) (fun i => l.length - i) 0 (by kernel_rfl)
    ⟨Nat.zero_le _, fun j hj => by omega⟩ (Sub.of0 [] rfl rfl ?_ ?_) ?_
  · simp only [go_sem, Nat.reduceBEq, Nat.reduceSub, Nat.reduceAdd, Nat.reduceMul, Nat.reduceLT, Nat.reduceLeDiff, Nat.reduceEqDiff, Int.reduceToNat, Int.reduceAdd, Int.reduceSub, Int.reduceMul, Int.reduceLT, Int.reduceLE, Int.reduceEq]
  · simp only [go_sem, Nat.reduceBEq, Nat.reduceSub, Nat.reduceAdd, Nat.reduceMul, Nat.reduceLT, Nat.reduceLeDiff, Nat.reduceEqDiff, Int.reduceToNat, Int.reduceAdd, Int.reduceSub, Int.reduceMul, Int.reduceLT, Int.reduceLE, Int.reduceEq]
  rintro i ⟨h2, h3⟩
  simp only [go_sem, Nat.reduceBEq, Nat.reduceSub, Nat.reduceAdd, Nat.reduceMul, Nat.reduceLT, Nat.reduceLeDiff, Nat.reduceEqDiff, Int.reduceToNat, Int.reduceAdd, Int.reduceSub, Int.reduceMul, Int.reduceLT, Int.reduceLE, Int.reduceEq]
  refine AXc.introP (fun h4 => ?_) (fun h4 => ?_)
  · have a1 := cnts_at l i (by omega)
    simp (disch := (first | assumption | omega | (simp only [List.length_take, List.length_drop, List.length_append, List.length_set, List.length_replicate, List.length_cons, List.length_nil, len_nats, len_ints, len_strs] <;> omega))) only [go_sem, a1, Nat.reduceBEq, Nat.reduceSub, Nat.reduceAdd, Nat.reduceMul, Nat.reduceLT, Nat.reduceLeDiff, Nat.reduceEqDiff, Int.reduceToNat, Int.reduceAdd, Int.reduceSub, Int.reduceMul, Int.reduceLT, Int.reduceLE, Int.reduceEq]
    refine ⟨by omega, ?_⟩
    have hb : (decide ((nthE l i).2 < 1) || decide (1000000 < (nthE l i).2) || !nameB (nthE l i).1.1 || !nameB (nthE l i).1.2) = !goodB nameB (nthE l i) := by simp [goodB]
    rw [hb]
    cases hg : goodB nameB (nthE l i) with
    | false =>
      simp (disch := (first | assumption | omega | (simp only [List.length_take, List.length_drop, List.length_append, List.length_set, List.length_replicate, List.length_cons, List.length_nil, len_nats, len_ints, len_strs] <;> omega))) only [go_sem, Nat.reduceBEq, Nat.reduceSub, Nat.reduceAdd, Nat.reduceMul, Nat.reduceLT, Nat.reduceLeDiff, Nat.reduceEqDiff, Int.reduceToNat, Int.reduceAdd, Int.reduceSub, Int.reduceMul, Int.reduceLT, Int.reduceLE, Int.reduceEq]
      have := all_f (p := goodB nameB) (l := l) (i := i) (by omega) hg
      simp [vB, this]
    | true =>
      simp (disch := (first | assumption | omega | (simp only [List.length_take, List.length_drop, List.length_append, List.length_set, List.length_replicate, List.length_cons, List.length_nil, len_nats, len_ints, len_strs] <;> omega))) only [go_sem, Nat.reduceBEq, Nat.reduceSub, Nat.reduceAdd, Nat.reduceMul, Nat.reduceLT, Nat.reduceLeDiff, Nat.reduceEqDiff, Int.reduceToNat, Int.reduceAdd, Int.reduceSub, Int.reduceMul, Int.reduceLT, Int.reduceLE, Int.reduceEq]
      refine loopK_norm (i + 1) ⟨by omega, fun j hj => ?_⟩ (by omega) (Sub.of0 [] rfl rfl ?_ ?_)
      · by_cases hji : j < i
        · exact h3 j hji
        · obtain rfl : j = i := by omega
          exact hg
      · simp only [go_sem, Nat.reduceBEq, Nat.reduceSub, Nat.reduceAdd, Nat.reduceMul, Nat.reduceLT, Nat.reduceLeDiff, Nat.reduceEqDiff, Int.reduceToNat, Int.reduceAdd, Int.reduceSub, Int.reduceMul, Int.reduceLT, Int.reduceLE, Int.reduceEq]
        simp
      · simp only [go_sem, Nat.reduceBEq, Nat.reduceSub, Nat.reduceAdd, Nat.reduceMul, Nat.reduceLT, Nat.reduceLeDiff, Nat.reduceEqDiff, Int.reduceToNat, Int.reduceAdd, Int.reduceSub, Int.reduceMul, Int.reduceLT, Int.reduceLE, Int.reduceEq]
  · simp only [go_sem, Nat.reduceBEq, Nat.reduceSub, Nat.reduceAdd, Nat.reduceMul, Nat.reduceLT, Nat.reduceLeDiff, Nat.reduceEqDiff, Int.reduceToNat, Int.reduceAdd, Int.reduceSub, Int.reduceMul, Int.reduceLT, Int.reduceLE, Int.reduceEq]
    refine AXa.go mixed (extΓ_ok cName_ok (extΓ_ok cInc_ok noΓ_ok)) (noΔ_ok) (by kernel_rfl) ?_
    simp (disch := (first | assumption | omega | (simp only [List.length_take, List.length_drop, List.length_append, List.length_set, List.length_replicate, List.length_cons, List.length_nil, len_nats, len_ints, len_strs] <;> omega))) only [go_sem, Nat.reduceBEq, Nat.reduceSub, Nat.reduceAdd, Nat.reduceMul, Nat.reduceLT, Nat.reduceLeDiff, Nat.reduceEqDiff, Int.reduceToNat, Int.reduceAdd, Int.reduceSub, Int.reduceMul, Int.reduceLT, Int.reduceLE, Int.reduceEq]
    have := all_t (p := goodB nameB) (l := l) fun j hj => h3 j (by omega)
    simp [vB, h1', this]
set_option maxHeartbeats 4000000 in
theorem validListE_ok (l : List Ent) (hl : l.length ≤ 1000000) : PCall Tryz.prog 28 [.fs (cnts l) l.length, .fn 29 []] (.ret (.bool (vB nameE l))) := by
  refine PCall.walk (rs := [.tmp 4]) [0, 1, 4, 6, 9, 10, 11, 12, 13, 37] [] mixed (extΓ_ok cNameE_ok (extΓ_ok cInc_ok noΓ_ok)) (noΔ_ok) call28 Tryz.func28 rfl Tryz.ntmps28 rfl (by kernel_rfl) (by simp) (by simp [pure_bool, pure_int, pure_str, pure_fs, pure_fp, pure_fn, pure_agg, pure_tup, pure_nilS, pure_nilP, pure_natsP, pure_intsP, pure_strsP, pure_list, pure_cntsP]) ?_
  simp only [go_sem, Nat.reduceBEq, Nat.reduceSub, Nat.reduceAdd, Nat.reduceMul, Nat.reduceLT, Nat.reduceLeDiff, Nat.reduceEqDiff, Int.reduceToNat, Int.reduceAdd, Int.reduceSub, Int.reduceMul, Int.reduceLT, Int.reduceLE, Int.reduceEq]
  refine AXc.introP (fun h1 => ?_) (fun h1 => ?_)
  · simp only [go_sem, Nat.reduceBEq, Nat.reduceSub, Nat.reduceAdd, Nat.reduceMul, Nat.reduceLT, Nat.reduceLeDiff, Nat.reduceEqDiff, Int.reduceToNat, Int.reduceAdd, Int.reduceSub, Int.reduceMul, Int.reduceLT, Int.reduceLE, Int.reduceEq]
    have : ¬ l.length ≤ 30000 := by omega
    simp [vB, this]
  have h1' : l.length ≤ 30000 := by omega
  simp only [go_sem, Nat.reduceBEq, Nat.reduceSub, Nat.reduceAdd, Nat.reduceMul, Nat.reduceLT, Nat.reduceLeDiff, Nat.reduceEqDiff, Int.reduceToNat, Int.reduceAdd, Int.reduceSub, Int.reduceMul, Int.reduceLT, Int.reduceLE, Int.reduceEq]
  refine AXs.loop mixed (extΓ_ok cNameE_ok (extΓ_ok cInc_ok noΓ_ok)) (noΔ_ok) (fun i : Nat => [(0, .fs (cnts l) l.length), (1, .fn 29 []), (10, .fs (cnts l) l.length), (11, .int .i64 l.length), (12, .int .i64 i)]) (fun _ => ⟨[], 0⟩) (fun i => i ≤ l.length ∧ ∀ j, j < i → goodB nameE (nthE l j) = true) (fun i => l.length - i) 0 (by kernel_rfl)
    ⟨Nat.zero_le _, fun j hj => by omega⟩ (Sub.of0 [] rfl rfl ?_ ?_) ?_
  · simp only [go_sem, Nat.reduceBEq, Nat.reduceSub, Nat.reduceAdd, Nat.reduceMul, Nat.reduceLT, Nat.reduceLeDiff, Nat.reduceEqDiff, Int.reduceToNat, Int.reduceAdd, Int.reduceSub, Int.reduceMul, Int.reduceLT, Int.reduceLE, Int.reduceEq]
  · simp only [go_sem, Nat.reduceBEq, Nat.reduceSub, Nat.reduceAdd, Nat.reduceMul, Nat.reduceLT, Nat.reduceLeDiff, Nat.reduceEqDiff, Int.reduceToNat, Int.reduceAdd, Int.reduceSub, Int.reduceMul, Int.reduceLT, Int.reduceLE, Int.reduceEq]
  rintro i ⟨h2, h3⟩
  simp only [go_sem, Nat.reduceBEq, Nat.reduceSub, Nat.reduceAdd, Nat.reduceMul, Nat.reduceLT, Nat.reduceLeDiff, Nat.reduceEqDiff, Int.reduceToNat, Int.reduceAdd, Int.reduceSub, Int.reduceMul, Int.reduceLT, Int.reduceLE, Int.reduceEq]
  refine AXc.introP (fun h4 => ?_) (fun h4 => ?_)
  · have a1 := cnts_at l i (by omega)
    simp (disch := (first | assumption | omega | (simp only [List.length_take, List.length_drop, List.length_append, List.length_set, List.length_replicate, List.length_cons, List.length_nil, len_nats, len_ints, len_strs] <;> omega))) only [go_sem, a1, Nat.reduceBEq, Nat.reduceSub, Nat.reduceAdd, Nat.reduceMul, Nat.reduceLT, Nat.reduceLeDiff, Nat.reduceEqDiff, Int.reduceToNat, Int.reduceAdd, Int.reduceSub, Int.reduceMul, Int.reduceLT, Int.reduceLE, Int.reduceEq]
    refine ⟨by omega, ?_⟩
    have hb : (decide ((nthE l i).2 < 1) || decide (1000000 < (nthE l i).2) || !nameE (nthE l i).1.1 || !nameE (nthE l i).1.2) = !goodB nameE (nthE l i) := by simp [goodB]
    rw [hb]
    cases hg : goodB nameE (nthE l i) with
    | false =>
      simp (disch := (first | assumption | omega | (simp only [List.length_take, List.length_drop, List.length_append, List.length_set, List.length_replicate, List.length_cons, List.length_nil, len_nats, len_ints, len_strs] <;> omega))) only [go_sem, Nat.reduceBEq, Nat.reduceSub, Nat.reduceAdd, Nat.reduceMul, Nat.reduceLT, Nat.reduceLeDiff, Nat.reduceEqDiff, Int.reduceToNat, Int.reduceAdd, Int.reduceSub, Int.reduceMul, Int.reduceLT, Int.reduceLE, Int.reduceEq]
      have := all_f (p := goodB nameE) (l := l) (i := i) (by omega) hg
      simp [vB, this]
    | true =>
      simp (disch := (first | assumption | omega | (simp only [List.length_take, List.length_drop, List.length_append, List.length_set, List.length_replicate, List.length_cons, List.length_nil, len_nats, len_ints, len_strs] <;> omega))) only [go_sem, Nat.reduceBEq, Nat.reduceSub, Nat.reduceAdd, Nat.reduceMul, Nat.reduceLT, Nat.reduceLeDiff, Nat.reduceEqDiff, Int.reduceToNat, Int.reduceAdd, Int.reduceSub, Int.reduceMul, Int.reduceLT, Int.reduceLE, Int.reduceEq]
      refine loopK_norm (i + 1) ⟨by omega, fun j hj => ?_⟩ (by omega) (Sub.of0 [] rfl rfl ?_ ?_)
      · by_cases hji : j < i
        · exact h3 j hji
        · obtain rfl : j = i := by omega
          exact hg
      · simp only [go_sem, Nat.reduceBEq, Nat.reduceSub, Nat.reduceAdd, Nat.reduceMul, Nat.reduceLT, Nat.reduceLeDiff, Nat.reduceEqDiff, Int.reduceToNat, Int.reduceAdd, Int.reduceSub, Int.reduceMul, Int.reduceLT, Int.reduceLE, Int.reduceEq]
        simp
      · simp only [go_sem, Nat.reduceBEq, Nat.reduceSub, Nat.reduceAdd, Nat.reduceMul, Nat.reduceLT, Nat.reduceLeDiff, Nat.reduceEqDiff, Int.reduceToNat, Int.reduceAdd, Int.reduceSub, Int.reduceMul, Int.reduceLT, Int.reduceLE, Int.reduceEq]
  · simp only [go_sem, Nat.reduceBEq, Nat.reduceSub, Nat.reduceAdd, Nat.reduceMul, Nat.reduceLT, Nat.reduceLeDiff, Nat.reduceEqDiff, Int.reduceToNat, Int.reduceAdd, Int.reduceSub, Int.reduceMul, Int.reduceLT, Int.reduceLE, Int.reduceEq]
    refine AXa.go mixed (extΓ_ok cNameE_ok (extΓ_ok cInc_ok noΓ_ok)) (noΔ_ok) (by kernel_rfl) ?_
    simp (disch := (first | assumption | omega | (simp only [List.length_take, List.length_drop, List.length_append, List.length_set, List.length_replicate, List.length_cons, List.length_nil, len_nats, len_ints, len_strs] <;> omega))) only [go_sem, Nat.reduceBEq, Nat.reduceSub, Nat.reduceAdd, Nat.reduceMul, Nat.reduceLT, Nat.reduceLeDiff, Nat.reduceEqDiff, Int.reduceToNat, Int.reduceAdd, Int.reduceSub, Int.reduceMul, Int.reduceLT, Int.reduceLE, Int.reduceEq]
    have := all_t (p := goodB nameE) (l := l) fun j hj => h3 j (by omega)
    simp [vB, h1', this]
def vlF (b : Bool) : FuncId := match b with | true => 29 | false => 22
def vlQ (b : Bool) : Str → Bool := match b with | true => nameE | false => nameB
noncomputable def cVL : List V → Option PR := conOf (fun p : Bool × List Ent => [.fs (cnts p.2) p.2.length, .fn (vlF p.1) []]) (fun p => p.2.length ≤ 1000000) fun p => .ret (.bool (vB (vlQ p.1) p.2))
theorem cVL_inj (x y : Bool × List Ent) (h : ([.fs (cnts x.2) x.2.length, .fn (vlF x.1) []] : List V) = [.fs (cnts y.2) y.2.length, .fn (vlF y.1) []]) : x = y := by
  simp only [List.cons.injEq, V.fs.injEq, V.fn.injEq, and_true] at h
  obtain ⟨⟨h1, _⟩, h2⟩ := h
  obtain ⟨a, l⟩ := x
  obtain ⟨b, r⟩ := y
  have hl := cnts_inj h1
  simp only at hl h2
  subst hl
  cases a <;> cases b <;> first | rfl | (exact absurd h2 (by decide))
theorem cVL_t (l : List Ent) (n : Nat) (hn : n = l.length) (hl : l.length ≤ 1000000) : cVL [.fs (cnts l) n, .fn 29 []] = some (.ret (.bool (vB nameE l))) := by
  subst hn; exact conOf_eq (pat := fun p : Bool × List Ent => [.fs (cnts p.2) p.2.length, .fn (vlF p.1) []]) cVL_inj (true, l) hl
theorem cVL_f (l : List Ent) (n : Nat) (hn : n = l.length) (hl : l.length ≤ 1000000) : cVL [.fs (cnts l) n, .fn 22 []] = some (.ret (.bool (vB nameB l))) := by
  subst hn; exact conOf_eq (pat := fun p : Bool × List Ent => [.fs (cnts p.2) p.2.length, .fn (vlF p.1) []]) cVL_inj (false, l) hl
theorem cVL_ok : ∀ args r, cVL args = some r → PCall Tryz.prog 28 args r := conOf_ok fun p hp => by
  obtain ⟨b, l⟩ := p
  cases b
  · exact validList_ok l hp
  · exact validListE_ok l hp
attribute [go_sem] cVL_t cVL_f
noncomputable def validC (a b : List Ent) : Bool := vB nameE a && vB nameB b
theorem valid_ok (a b : List Ent) (ha : a.length ≤ 1000000) (hb : b.length ≤ 1000000) : PCall Tryz.prog 14 [.agg [.fs (cnts a) a.length, .fs (cnts b) b.length]] (.ret (.bool (validC a b))) := by
  refine PCall.walk (rs := [.tmp 2]) [0, 1, 2] [] mixed (extΓ_ok cVL_ok noΓ_ok) (noΔ_ok) call14 Tryz.func14 rfl Tryz.ntmps14 rfl (by kernel_rfl) (by simp) (by simp [pure_bool, pure_int, pure_str, pure_fs, pure_fp, pure_fn, pure_agg, pure_tup, pure_nilS, pure_nilP, pure_natsP, pure_intsP, pure_strsP, pure_list, pure_cntsP]) ?_
  simp (disch := (first | assumption | omega | (simp only [List.length_take, List.length_drop, List.length_append, List.length_set, List.length_replicate, List.length_cons, List.length_nil, len_nats, len_ints, len_strs] <;> omega))) only [go_sem, Nat.reduceBEq, Nat.reduceSub, Nat.reduceAdd, Nat.reduceMul, Nat.reduceLT, Nat.reduceLeDiff, Nat.reduceEqDiff, Int.reduceToNat, Int.reduceAdd, Int.reduceSub, Int.reduceMul, Int.reduceLT, Int.reduceLE, Int.reduceEq]
  rfl
noncomputable def cValid : List V → Option PR := conOf (fun p : List Ent × List Ent => [.agg [.fs (cnts p.1) p.1.length, .fs (cnts p.2) p.2.length]]) (fun p => p.1.length ≤ 1000000 ∧ p.2.length ≤ 1000000) fun p => .ret (.bool (validC p.1 p.2))
theorem cValid_eq (a b : List Ent) (n m : Nat) (hn : n = a.length) (hm : m = b.length) (ha : a.length ≤ 1000000) (hb : b.length ≤ 1000000) : cValid [.agg [.fs (cnts a) n, .fs (cnts b) m]] = some (.ret (.bool (validC a b))) := by
  subst hn hm
  exact conOf_eq (pat := fun p : List Ent × List Ent => [.agg [.fs (cnts p.1) p.1.length, .fs (cnts p.2) p.2.length]]) (fun x y h => by
    simp only [List.cons.injEq, V.agg.injEq, V.fs.injEq, and_true] at h
    exact Prod.ext (cnts_inj h.1.1) (cnts_inj h.2.1)) (a, b) ⟨ha, hb⟩
theorem cValid_ok : ∀ args r, cValid args = some r → PCall Tryz.prog 14 args r := conOf_ok fun p hp => valid_ok p.1 p.2 hp.1 hp.2
attribute [go_sem] cValid_eq
end Go.Proofs
