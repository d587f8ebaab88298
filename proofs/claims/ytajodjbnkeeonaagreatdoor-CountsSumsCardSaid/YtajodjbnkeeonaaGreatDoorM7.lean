/- Counts merged. -/
import Derived.Test.YtajodjbnkeeonaaGreatDoorM6
set_option linter.unusedSimpArgs false
set_option linter.unusedVariables false
namespace Go.Proofs
open Go.Ab Go.Cnt
noncomputable def Δm : FuncId → List V → Hp → Option AR := extΔ 45 (conD ConcatR) (extΔ 23 (conD SortedR) noΔ)
theorem Δm_ok : GoodΔ Tryz.prog Δm := extΔ_ok (conD_ok concatR_ok) (extΔ_ok (conD_ok sortedR_ok) noΔ_ok)
def mapOf (l : List Ent) (i : Nat) : List Ent := (l.take i).foldl upd []
def okTo (l : List Ent) (i : Nat) : Prop := ∀ j, j < i → val (mapOf l (j + 1)) (nthE l j).1 ≤ 1000000
theorem mapOf_zero (l : List Ent) : mapOf l 0 = [] := rfl
theorem mapOf_succ (l : List Ent) (i : Nat) (h : i < l.length) : mapOf l (i + 1) = upd (mapOf l i) (nthE l i) := by
  have : l.take (i + 1) = l.take i ++ [nthE l i] := by
    rw [List.take_add_one, nthE, List.getD_eq_getElem?_getD, List.getElem?_eq_getElem h]; rfl
  unfold mapOf
  rw [this, List.foldl_append]; rfl
theorem mapOf_dif (l : List Ent) (i : Nat) : Dif (mapOf l i) := (fold_perm (l.take i) (l := []) (m := []) .nil .nil (.refl _)).2.2
theorem upd_len (l : List Ent) (x : Ent) : (upd l x).length ≤ l.length + 1 := by
  induction l with
  | nil => simp [upd]
  | cons e l ih =>
    rw [upd]
    split
    · simp
    · simp only [List.length_cons]; omega
theorem mapOf_len (l : List Ent) : ∀ i, i ≤ l.length → (mapOf l i).length ≤ i
  | 0, _ => by simp [mapOf_zero]
  | i + 1, h => by
    rw [mapOf_succ l i h]
    have := upd_len (mapOf l i) (nthE l i)
    have := mapOf_len l i (by omega)
    omega
theorem val_upd_ne : ∀ (l : List Ent) (x : Ent) (k : Key), x.1 ≠ k → val (upd l x) k = val l k
  | [], x, k, h => by simp [upd, val, h]
  | e :: l, x, k, h => by
    rw [upd]
    by_cases he : e.1 = x.1
    · rw [if_pos he, val, val, if_neg (by rw [he]; exact h), if_neg (by rw [he]; exact h)]
    · rw [if_neg he, val, val, val_upd_ne l x k h]
theorem val_bound {l : List Ent} (hN : ∀ e ∈ l, 1 ≤ e.2 ∧ e.2 ≤ 1000000) : ∀ i, i ≤ l.length → okTo l i → ∀ k, 0 ≤ val (mapOf l i) k ∧ val (mapOf l i) k ≤ 1000000
  | 0, _, _, k => by simp [mapOf_zero, val]
  | i + 1, hi, h, k => by
    have ih := val_bound hN i (by omega) (fun j hj => h j (by omega)) k
    have hn := hN _ (nthE_mem hi)
    rw [mapOf_succ l i hi]
    by_cases hk : (nthE l i).1 = k
    · have := h i (by omega)
      rw [mapOf_succ l i hi] at this
      subst hk
      refine ⟨?_, this⟩
      rw [val_upd]; omega
    · rw [val_upd_ne _ _ _ hk]; exact ih
open Classical in
noncomputable def resM (l : List Ent) : List Ent × Bool := if okTo l l.length then (srt (mapOf l l.length), decide ((mapOf l l.length).length ≤ 30000)) else ([], false)
theorem resM_ok {l : List Ent} (h : okTo l l.length) : resM l = (srt (mapOf l l.length), decide ((mapOf l l.length).length ≤ 30000)) := by unfold resM; rw [if_pos h]
theorem resM_not {l : List Ent} {i : Nat} (hi : i < l.length) (h : 1000000 < val (mapOf l (i + 1)) (nthE l i).1) : resM l = ([], false) := by
  unfold resM
  rw [if_neg fun k => by have := k i hi; omega]
attribute [go_sem] val_ent List.getElem?_cons_zero List.getElem?_cons_succ
theorem sto_upd' (l : List Ent) (a b : Str) (d : Int) : sto l (a, b) (val l (a, b) + d) = upd l ((a, b), d) := sto_upd l (a, b) d
theorem blt_eq (a b : Nat) : Nat.blt a b = decide (a < b) := by
  by_cases h : a < b
  · rw [decide_eq_true h]; simpa using h
  · rw [decide_eq_false h]; cases e : Nat.blt a b with
    | false => rfl
    | true => exact absurd (by simpa using e) h
theorem nbeq_eq (a b : Nat) : Nat.beq a b = (a == b) := by rw [beq_dec]; by_cases h : a = b <;> simp [h]
theorem refs1_map' (b : Nat) : refs1 (.map b) = [] := rfl
attribute [go_sem] refs1_map'
theorem upd_ne (l : List Ent) (x : Ent) : upd l x ≠ [] := by
  cases l with
  | nil => simp [upd]
  | cons e l => rw [upd]; split <;> simp
set_option maxHeartbeats 4000000 in
set_option maxRecDepth 100000 in
theorem merge_ok (a c : List Ent) (ha : a.length ≤ 100000) (hc : c.length ≤ 100000) (hN : ∀ e ∈ a ++ c, 1 ≤ e.2 ∧ e.2 ≤ 1000000) : PCall Tryz.prog 26 [.fs (cnts a) a.length, .fs (cnts c) c.length]
    (.ret (.tup [.fs (cnts (resM (a ++ c)).1) (resM (a ++ c)).1.length, .bool (resM (a ++ c)).2])) := by
  have hC : Δm 45 [.sl 1 0 2 1 (some 2)] ⟨[(1, .cells [.fs (cnts a) a.length, .fs (cnts c) c.length]), (0, .mp [] 0)], 2⟩ = _ := concatR_eq 1 a c _ 2 rfl ha hc rfl
  by_cases h0 : a.length + c.length = 0
  · obtain rfl : a = [] := List.eq_nil_of_length_eq_zero (by omega)
    obtain rfl : c = [] := List.eq_nil_of_length_eq_zero (by omega)
    rw [if_pos h0] at hC
    have hS : Δm 23 [.map 0] ⟨[(1, .cells [.fs [] 0, .fs [] 0]), (0, .mp [] 0)], 2⟩ = some ⟨True, .nilS, ⟨[(1, .cells [.fs [] 0, .fs [] 0]), (0, .mp [] 0)], 2⟩, [0], []⟩ := sortedR_eq 0 [] _ 2 rfl .nil (by simp) rfl
    have hC' : Δm 45 [.sl 1 0 2 1 (some 2)] ⟨[(1, .cells [.fs [] 0, .fs [] 0]), (0, .mp [] 0)], 2⟩ = some ⟨True, .nilS, ⟨[(1, .cells [.fs [] 0, .fs [] 0]), (0, .mp [] 0)], 2⟩, [1], []⟩ := hC
    have hr : resM ([] ++ []) = ([], true) := resM_ok (l := []) fun j hj => by simp at hj
    refine PCall.walk (rs := [.tmp 4, .tmp 5]) [0, 1, 4, 5, 6, 8, 13, 14, 15, 16, 38] [] mixed (noΓ_ok) (Δm_ok) call26 Tryz.func26 rfl Tryz.ntmps26 rfl (by kernel_rfl) (by simp) (by simp [pure_bool, pure_int, pure_str, pure_fs, pure_fp, pure_fn, pure_agg, pure_tup, pure_nilS, pure_nilP, pure_natsP, pure_intsP, pure_strsP, pure_list, pure_cntsP]) ?_
    simp only [go_sem, hC', hr, cnts_nil, Nat.reduceBEq, Nat.reduceSub, Nat.reduceAdd, Nat.reduceMul, Nat.reduceLT, Nat.reduceLeDiff, Nat.reduceEqDiff, Int.reduceToNat, Int.reduceAdd, Int.reduceSub, Int.reduceMul, Int.reduceLT, Int.reduceLE, Int.reduceEq]
    refine AXs.rounds mixed noΓ_ok Δm_ok [] (by kernel_rfl) ?_
    simp only [go_sem, Nat.reduceBEq, Nat.reduceSub, Nat.reduceAdd, Nat.reduceMul, Nat.reduceLT, Nat.reduceLeDiff, Nat.reduceEqDiff, Int.reduceToNat, Int.reduceAdd, Int.reduceSub, Int.reduceMul, Int.reduceLT, Int.reduceLE, Int.reduceEq]
    refine AXa.go mixed (noΓ_ok) ( Δm_ok) (by kernel_rfl) ?_
    simp only [go_sem, hS, Nat.reduceBEq, Nat.reduceSub, Nat.reduceAdd, Nat.reduceMul, Nat.reduceLT, Nat.reduceLeDiff, Nat.reduceEqDiff, Int.reduceToNat, Int.reduceAdd, Int.reduceSub, Int.reduceMul, Int.reduceLT, Int.reduceLE, Int.reduceEq]
    have hr' : resM [] = ([], true) := hr
    rw [hr']
    exact ⟨⟨rfl, rfl⟩, rfl⟩
  rw [if_neg h0] at hC
  have hll : (a ++ c).length ≤ 200000 := by simp; omega
  have hl0 : 0 < (a ++ c).length := by simp; omega
  generalize a ++ c = l at hC hN hll hl0 ⊢
  refine PCall.walk (rs := [.tmp 4, .tmp 5]) [0, 1, 4, 5, 6, 8, 13, 14, 15, 16, 38] [] mixed (noΓ_ok) (Δm_ok) call26 Tryz.func26 rfl Tryz.ntmps26 rfl (by kernel_rfl) (by simp) (by simp [pure_bool, pure_int, pure_str, pure_fs, pure_fp, pure_fn, pure_agg, pure_tup, pure_nilS, pure_nilP, pure_natsP, pure_intsP, pure_strsP, pure_list, pure_cntsP]) ?_
  simp only [go_sem, hC, Nat.reduceBEq, Nat.reduceSub, Nat.reduceAdd, Nat.reduceMul, Nat.reduceLT, Nat.reduceLeDiff, Nat.reduceEqDiff, Int.reduceToNat, Int.reduceAdd, Int.reduceSub, Int.reduceMul, Int.reduceLT, Int.reduceLE, Int.reduceEq]
  refine AXs.loop mixed (noΓ_ok) ( Δm_ok) (fun i : Nat => [(6, .map 0), (13, .sl 2 0 l.length 3 none), (14, .int .i64 l.length), (15, .int .i64 i)]) (fun i => ⟨[(2, .cells (cnts l)), (0, .mp (mpF 0 (mapOf l i)) (mapOf l i).length)], 3⟩) (fun i => i ≤ l.length ∧ okTo l i) (fun i => l.length - i) 0 (by kernel_rfl)
    ⟨Nat.zero_le _, fun j hj => by omega⟩ (Sub.of0 [] rfl rfl ?_ ?_) ?_
  · simp only [go_sem, Nat.reduceBEq, Nat.reduceSub, Nat.reduceAdd, Nat.reduceMul, Nat.reduceLT, Nat.reduceLeDiff, Nat.reduceEqDiff, Int.reduceToNat, Int.reduceAdd, Int.reduceSub, Int.reduceMul, Int.reduceLT, Int.reduceLE, Int.reduceEq]
  · simp only [go_sem, Nat.reduceBEq, Nat.reduceSub, Nat.reduceAdd, Nat.reduceMul, Nat.reduceLT, Nat.reduceLeDiff, Nat.reduceEqDiff, Int.reduceToNat, Int.reduceAdd, Int.reduceSub, Int.reduceMul, Int.reduceLT, Int.reduceLE, Int.reduceEq]
    exact rnb_mp [] [] 0 0 rfl rfl
  rintro i ⟨h1, h2⟩
  simp only [go_sem, Nat.reduceBEq, Nat.reduceSub, Nat.reduceAdd, Nat.reduceMul, Nat.reduceLT, Nat.reduceLeDiff, Nat.reduceEqDiff, Int.reduceToNat, Int.reduceAdd, Int.reduceSub, Int.reduceMul, Int.reduceLT, Int.reduceLE, Int.reduceEq]
  refine AXc.introP (fun h3 => ?_) (fun h3 => ?_)
  · have hi : i < l.length := by omega
    have a1 := cnts_at l i hi
    have vb := val_bound hN i h1 h2 (nthE l i).1
    have nb := hN _ (nthE_mem hi)
    have vb' : 0 ≤ val (mapOf l i) ((nthE l i).1.1, (nthE l i).1.2) ∧ val (mapOf l i) ((nthE l i).1.1, (nthE l i).1.2) ≤ 1000000 := vb
    simp (config := { maxSteps := 2000000 }) (disch := (first | assumption | omega | (simp only [List.length_take, List.length_drop, List.length_append, List.length_set, List.length_replicate, List.length_cons, List.length_nil, len_nats, len_ints, len_strs] <;> omega))) only [go_sem, a1, blt_eq, nbeq_eq, decide_true, decide_false, Nat.reduceBEq, Nat.reduceSub, Nat.reduceAdd, Nat.reduceMul, Nat.reduceLT, Nat.reduceLeDiff, Nat.reduceEqDiff, Int.reduceToNat, Int.reduceAdd, Int.reduceSub, Int.reduceMul, Int.reduceLT, Int.reduceLE, Int.reduceEq]
    refine ⟨by omega, by omega, by kernel_rfl, ?_⟩
    have hu : sto (mapOf l i) ((nthE l i).1.1, (nthE l i).1.2) (val (mapOf l i) ((nthE l i).1.1, (nthE l i).1.2) + (nthE l i).2) = mapOf l (i + 1) := (sto_upd (mapOf l i) (nthE l i).1 (nthE l i).2).trans (mapOf_succ l i hi).symm
    have hlen : (ent (mapOf l i) ((nthE l i).1.1, (nthE l i).1.2)).length = (mapOf l (i + 1)).length := by rw [← hu, sto_len]
    rw [hu, hlen]
    refine AXc.introP (fun h4 => ?_) (fun h4 => ?_)
    · have hr := resM_not hi h4
      simp only [go_sem, hr, cnts_nil, Nat.reduceBEq, Nat.reduceSub, Nat.reduceAdd, Nat.reduceMul, Nat.reduceLT, Nat.reduceLeDiff, Nat.reduceEqDiff, Int.reduceToNat, Int.reduceAdd, Int.reduceSub, Int.reduceMul, Int.reduceLT, Int.reduceLE, Int.reduceEq]
    · have h4' : ¬ 1000000 < val (mapOf l (i + 1)) (nthE l i).1 := h4
      simp (disch := (first | assumption | omega | (simp only [List.length_take, List.length_drop, List.length_append, List.length_set, List.length_replicate, List.length_cons, List.length_nil, len_nats, len_ints, len_strs] <;> omega))) only [go_sem, Nat.reduceBEq, Nat.reduceSub, Nat.reduceAdd, Nat.reduceMul, Nat.reduceLT, Nat.reduceLeDiff, Nat.reduceEqDiff, Int.reduceToNat, Int.reduceAdd, Int.reduceSub, Int.reduceMul, Int.reduceLT, Int.reduceLE, Int.reduceEq]
      refine loopK_norm (i + 1) ⟨by omega, fun j hj => ?_⟩ (by omega) (Sub.of0 [] rfl rfl ?_ ?_)
      · by_cases hji : j < i
        · exact h2 j hji
        · obtain rfl : j = i := by omega
          omega
      · simp only [go_sem, Nat.reduceBEq, Nat.reduceSub, Nat.reduceAdd, Nat.reduceMul, Nat.reduceLT, Nat.reduceLeDiff, Nat.reduceEqDiff, Int.reduceToNat, Int.reduceAdd, Int.reduceSub, Int.reduceMul, Int.reduceLT, Int.reduceLE, Int.reduceEq]
        simp
      · simp only [go_sem, Nat.reduceBEq, Nat.reduceSub, Nat.reduceAdd, Nat.reduceMul, Nat.reduceLT, Nat.reduceLeDiff, Nat.reduceEqDiff, Int.reduceToNat, Int.reduceAdd, Int.reduceSub, Int.reduceMul, Int.reduceLT, Int.reduceLE, Int.reduceEq]
        exact rnb_mp _ _ _ _ rfl rfl
  · have hi : i = l.length := by omega
    subst hi
    simp only [go_sem, Nat.reduceBEq, Nat.reduceSub, Nat.reduceAdd, Nat.reduceMul, Nat.reduceLT, Nat.reduceLeDiff, Nat.reduceEqDiff, Int.reduceToNat, Int.reduceAdd, Int.reduceSub, Int.reduceMul, Int.reduceLT, Int.reduceLE, Int.reduceEq]
    refine AXa.go mixed (noΓ_ok) ( Δm_ok) (by kernel_rfl) ?_
    have hml := mapOf_len l l.length (Nat.le_refl _)
    have hS : Δm 23 [.map 0] ⟨[(2, .cells (cnts l)), (0, .mp (mpF 0 (mapOf l l.length)) (mapOf l l.length).length)], 3⟩ = _ := sortedR_eq 0 (mapOf l l.length) _ 3 rfl (mapOf_dif l _) (by omega) rfl
    have hne : ¬ (mapOf l l.length).length = 0 := by
      intro e
      have e' := List.eq_nil_of_length_eq_zero e
      have hl0 : 0 < l.length := hl0
      have := mapOf_succ l (l.length - 1) (by omega)
      rw [show l.length - 1 + 1 = l.length by omega, e'] at this
      exact upd_ne _ _ this.symm
    rw [if_neg hne] at hS
    have hr := resM_ok h2
    simp only [go_sem, hS, hr, Nat.reduceBEq, Nat.reduceSub, Nat.reduceAdd, Nat.reduceMul, Nat.reduceLT, Nat.reduceLeDiff, Nat.reduceEqDiff, Int.reduceToNat, Int.reduceAdd, Int.reduceSub, Int.reduceMul, Int.reduceLT, Int.reduceLE, Int.reduceEq]
    have hsl : (srt (mapOf l l.length)).length = (mapOf l l.length).length := (srt_perm (mapOf_dif l _)).length_eq
    refine ⟨Frz.slp rfl hsl (by rw [len_cnts, hsl]; omega) ?_ (pure_cnts _), decide_eq_decide.2 (by omega)⟩
    rw [List.drop_zero, List.take_of_length_le (by rw [len_cnts, hsl]; omega)]
theorem vB_iff {q : Str → Bool} {l : List Ent} (h : vB q l = true) : l.length ≤ 30000 ∧ ∀ e ∈ l, 1 ≤ e.2 ∧ e.2 ≤ 1000000 := by
  unfold vB at h
  simp only [Bool.and_eq_true, decide_eq_true_eq] at h
  refine ⟨h.1.1, fun e he => ?_⟩
  have := List.all_eq_true.1 h.1.2 e he
  unfold goodB at this
  simp at this
  omega
theorem validC_iff {a b : List Ent} (h : validC a b = true) : (a.length ≤ 30000 ∧ ∀ e ∈ a, 1 ≤ e.2 ∧ e.2 ≤ 1000000) ∧ b.length ≤ 30000 ∧ ∀ e ∈ b, 1 ≤ e.2 ∧ e.2 ≤ 1000000 := by
  unfold validC at h
  simp only [Bool.and_eq_true] at h
  exact ⟨vB_iff h.1, vB_iff h.2⟩
noncomputable def cMerge : List V → Option PR := conOf (fun p : List Ent × List Ent => [.fs (cnts p.1) p.1.length, .fs (cnts p.2) p.2.length]) (fun p => p.1.length ≤ 100000 ∧ p.2.length ≤ 100000 ∧ ∀ e ∈ p.1 ++ p.2, 1 ≤ e.2 ∧ e.2 ≤ 1000000)
  fun p => .ret (.tup [.fs (cnts (resM (p.1 ++ p.2)).1) (resM (p.1 ++ p.2)).1.length, .bool (resM (p.1 ++ p.2)).2])
theorem cMerge_eq (a c : List Ent) (n m : Nat) (hn : n = a.length) (hm : m = c.length) (ha : a.length ≤ 100000) (hc : c.length ≤ 100000) (hN : ∀ e ∈ a ++ c, 1 ≤ e.2 ∧ e.2 ≤ 1000000) :
    cMerge [.fs (cnts a) n, .fs (cnts c) m] = some (.ret (.tup [.fs (cnts (resM (a ++ c)).1) (resM (a ++ c)).1.length, .bool (resM (a ++ c)).2])) := by
  subst hn hm
  exact conOf_eq (pat := fun p : List Ent × List Ent => [.fs (cnts p.1) p.1.length, .fs (cnts p.2) p.2.length]) (fun x y h => by
    simp only [List.cons.injEq, V.fs.injEq, and_true] at h
    exact Prod.ext (cnts_inj h.1.1) (cnts_inj h.2.1)) (a, c) ⟨ha, hc, hN⟩
theorem cMerge_ok : ∀ args r, cMerge args = some r → PCall Tryz.prog 26 args r := conOf_ok fun p hp => merge_ok p.1 p.2 hp.1 hp.2.1 hp.2.2
attribute [go_sem] cMerge_eq
theorem frz_agg2 (H : Hp) (a b a' b' : V) : Frz H (.agg [a, b]) (.agg [a', b']) ↔ Frz H a a' ∧ Frz H b b' := by
  constructor
  · intro h
    cases h with
    | pure h =>
      have := (pure_agg _).1 h
      exact ⟨.pure (this a (by simp)), .pure (this b (by simp))⟩
    | agg hl h => exact ⟨h 0 a a' rfl rfl, h 1 b b' rfl rfl⟩
  · rintro ⟨h1, h2⟩
    refine .agg rfl fun i x y hx hy => ?_
    match i with
    | 0 => cases hx; cases hy; exact h1
    | 1 => cases hx; cases hy; exact h2
    | i + 2 => simp at hx
attribute [go_sem] frz_agg2
noncomputable def resMg (a1 a2 b1 b2 : List Ent) : List Ent × List Ent × Int :=
  if (validC a1 a2 && validC b1 b2) = true then (if ((resM (a1 ++ b1)).2 && (resM (a2 ++ b2)).2) = true then ((resM (a1 ++ b1)).1, (resM (a2 ++ b2)).1, 0) else ([], [], 2)) else ([], [], 1)
set_option maxHeartbeats 4000000 in
theorem Merge_ok (a1 a2 b1 b2 : List Ent) (h1 : a1.length ≤ 1000000) (h2 : a2.length ≤ 1000000) (h3 : b1.length ≤ 1000000) (h4 : b2.length ≤ 1000000) :
    PCall Tryz.prog 12 [.agg [.fs (cnts a1) a1.length, .fs (cnts a2) a2.length], .agg [.fs (cnts b1) b1.length, .fs (cnts b2) b2.length]]
    (.ret (.tup [.agg [.fs (cnts (resMg a1 a2 b1 b2).1) (resMg a1 a2 b1 b2).1.length, .fs (cnts (resMg a1 a2 b1 b2).2.1) (resMg a1 a2 b1 b2).2.1.length], .int .i64 (resMg a1 a2 b1 b2).2.2])) := by
  by_cases hv : (validC a1 a2 && validC b1 b2) = true
  · have hv' : validC a1 a2 = true ∧ validC b1 b2 = true := by simpa using hv
    obtain ⟨⟨l1, n1⟩, l2, n2⟩ := validC_iff hv'.1
    obtain ⟨⟨l3, n3⟩, l4, n4⟩ := validC_iff hv'.2
    have m1 : ∀ e ∈ a1 ++ b1, 1 ≤ e.2 ∧ e.2 ≤ 1000000 := fun e he => (List.mem_append.1 he).elim (n1 e) (n3 e)
    have m2 : ∀ e ∈ a2 ++ b2, 1 ≤ e.2 ∧ e.2 ≤ 1000000 := fun e he => (List.mem_append.1 he).elim (n2 e) (n4 e)
    refine PCall.walk (rs := [.cell 4 27, .tmp 5]) [0, 1, 2, 3, 4, 5, 6, 7, 8, 9, 17, 40] [] mixed (extΓ_ok cValid_ok (extΓ_ok cMerge_ok noΓ_ok)) (noΔ_ok) call12 Tryz.func12 rfl Tryz.ntmps12 rfl (by kernel_rfl) (by simp) (by simp [pure_bool, pure_int, pure_str, pure_fs, pure_fp, pure_fn, pure_agg, pure_tup, pure_nilS, pure_nilP, pure_natsP, pure_intsP, pure_strsP, pure_list, pure_cntsP]) ?_
    simp (disch := (first | assumption | omega | (simp only [List.length_take, List.length_drop, List.length_append, List.length_set, List.length_replicate, List.length_cons, List.length_nil, len_nats, len_ints, len_strs] <;> omega))) only [go_sem, hv'.1, hv'.2, Nat.reduceBEq, Nat.reduceSub, Nat.reduceAdd, Nat.reduceMul, Nat.reduceLT, Nat.reduceLeDiff, Nat.reduceEqDiff, Int.reduceToNat, Int.reduceAdd, Int.reduceSub, Int.reduceMul, Int.reduceLT, Int.reduceLE, Int.reduceEq]
    by_cases hk : ((resM (a1 ++ b1)).2 && (resM (a2 ++ b2)).2) = true
    · have hr : resMg a1 a2 b1 b2 = ((resM (a1 ++ b1)).1, (resM (a2 ++ b2)).1, 0) := by unfold resMg; rw [if_pos hv, if_pos hk]
      have hb : (!(resM (a1 ++ b1)).2 || !(resM (a2 ++ b2)).2) = false := by
        cases e1 : (resM (a1 ++ b1)).2 <;> cases e2 : (resM (a2 ++ b2)).2 <;> simp_all
      rw [hb, hr]
      simp (disch := (first | assumption | omega | (simp only [List.length_take, List.length_drop, List.length_append, List.length_set, List.length_replicate, List.length_cons, List.length_nil, len_nats, len_ints, len_strs] <;> omega))) only [go_sem, Nat.reduceBEq, Nat.reduceSub, Nat.reduceAdd, Nat.reduceMul, Nat.reduceLT, Nat.reduceLeDiff, Nat.reduceEqDiff, Int.reduceToNat, Int.reduceAdd, Int.reduceSub, Int.reduceMul, Int.reduceLT, Int.reduceLE, Int.reduceEq]
    · have hr : resMg a1 a2 b1 b2 = ([], [], 2) := by unfold resMg; rw [if_pos hv, if_neg hk]
      have hb : (!(resM (a1 ++ b1)).2 || !(resM (a2 ++ b2)).2) = true := by
        cases e1 : (resM (a1 ++ b1)).2 <;> cases e2 : (resM (a2 ++ b2)).2 <;> simp_all
      rw [hb, hr]
      simp (disch := (first | assumption | omega | (simp only [List.length_take, List.length_drop, List.length_append, List.length_set, List.length_replicate, List.length_cons, List.length_nil, len_nats, len_ints, len_strs] <;> omega))) only [go_sem, cnts_nil, Nat.reduceBEq, Nat.reduceSub, Nat.reduceAdd, Nat.reduceMul, Nat.reduceLT, Nat.reduceLeDiff, Nat.reduceEqDiff, Int.reduceToNat, Int.reduceAdd, Int.reduceSub, Int.reduceMul, Int.reduceLT, Int.reduceLE, Int.reduceEq]
  · have hr : resMg a1 a2 b1 b2 = ([], [], 1) := if_neg hv
    rw [hr]
    refine PCall.walk (rs := [.cell 4 27, .tmp 5]) [0, 1, 2, 3, 4, 5, 6, 7, 8, 9, 17, 40] [] mixed (extΓ_ok cValid_ok (extΓ_ok cMerge_ok noΓ_ok)) (noΔ_ok) call12 Tryz.func12 rfl Tryz.ntmps12 rfl (by kernel_rfl) (by simp) (by simp [pure_bool, pure_int, pure_str, pure_fs, pure_fp, pure_fn, pure_agg, pure_tup, pure_nilS, pure_nilP, pure_natsP, pure_intsP, pure_strsP, pure_list, pure_cntsP]) ?_
    simp (disch := (first | assumption | omega | (simp only [List.length_take, List.length_drop, List.length_append, List.length_set, List.length_replicate, List.length_cons, List.length_nil, len_nats, len_ints, len_strs] <;> omega))) only [go_sem, cnts_nil, Nat.reduceBEq, Nat.reduceSub, Nat.reduceAdd, Nat.reduceMul, Nat.reduceLT, Nat.reduceLeDiff, Nat.reduceEqDiff, Int.reduceToNat, Int.reduceAdd, Int.reduceSub, Int.reduceMul, Int.reduceLT, Int.reduceLE, Int.reduceEq]
    have hb : (!validC a1 a2 || !validC b1 b2) = true := by
      cases e1 : validC a1 a2 <;> cases e2 : validC b1 b2 <;> simp_all
    rw [hb]
    simp (disch := (first | assumption | omega | (simp only [List.length_take, List.length_drop, List.length_append, List.length_set, List.length_replicate, List.length_cons, List.length_nil, len_nats, len_ints, len_strs] <;> omega))) only [go_sem, Nat.reduceBEq, Nat.reduceSub, Nat.reduceAdd, Nat.reduceMul, Nat.reduceLT, Nat.reduceLeDiff, Nat.reduceEqDiff, Int.reduceToNat, Int.reduceAdd, Int.reduceSub, Int.reduceMul, Int.reduceLT, Int.reduceLE, Int.reduceEq]
end Go.Proofs
