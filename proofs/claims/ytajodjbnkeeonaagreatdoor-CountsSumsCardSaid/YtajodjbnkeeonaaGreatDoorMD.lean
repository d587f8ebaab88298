/- Tagged sentences as values; counting them, as the program does. -/
import Derived.Test.YtajodjbnkeeonaaGreatDoorM7
import Derived.Test.YtajodjbnkeeonaaGreatDoorMC
set_option linter.unusedSimpArgs false
set_option linter.unusedVariables false
namespace Go.Proofs
open Go.Ab Go.Cnt
def tokR : Row Tok where
  enc t := [.str t.1, .str t.2]
  n := 2
  dflt := ([], [])
  len _ := rfl
  pos := by decide
  pure a x h := by
    simp only [List.mem_cons, List.not_mem_nil, or_false] at h
    rcases h with rfl | rfl <;> exact .str _
  one _ := rfl
  inj a b h := by simp only [List.cons.injEq, V.str.injEq, and_true] at h; exact Prod.ext h.1 h.2
def toks (s : List Tok) : List V := tokR.cells s
theorem toks_at (s : List Tok) (i : Nat) (h : i < s.length) : (toks s).drop (i * 2) = .str (nthT s i).1 :: .str (nthT s i).2 :: toks (s.drop (i + 1)) := tokR.at_ s i h
theorem pure_toks (s : List Tok) : ∀ x ∈ toks s, Pure x := tokR.pure_cells s
theorem pure_toksP (s : List Tok) : (∀ x ∈ toks s, Pure x) ↔ True := tokR.pure_cellsP s
theorem len_toks (s : List Tok) : (toks s).length = s.length * 2 := tokR.len_cells s
def sentR : Row (List Tok) where
  enc s := [.fs (toks s) s.length]
  n := 1
  dflt := []
  len _ := rfl
  pos := by decide
  pure a x h := by
    simp only [List.mem_cons, List.not_mem_nil, or_false] at h
    subst h; exact .fs (pure_toks a)
  one _ := rfl
  inj a b h := by simp only [List.cons.injEq, V.fs.injEq, and_true] at h; exact tokR.cells_inj h.1
def sents (ss : List (List Tok)) : List V := sentR.cells ss
theorem sents_at (ss : List (List Tok)) (i : Nat) (h : i < ss.length) : (sents ss).drop i = .fs (toks (nthS ss i)) (nthS ss i).length :: sents (ss.drop (i + 1)) := by
  have := sentR.at_ ss i h
  rwa [show i * sentR.n = i from Nat.mul_one i] at this
theorem pure_sents (ss : List (List Tok)) : ∀ x ∈ sents ss, Pure x := sentR.pure_cells ss
theorem pure_sentsP (ss : List (List Tok)) : (∀ x ∈ sents ss, Pure x) ↔ True := sentR.pure_cellsP ss
theorem len_sents (ss : List (List Tok)) : (sents ss).length = ss.length := (sentR.len_cells ss).trans (Nat.mul_one _)
theorem sents_inj {a b : List (List Tok)} (h : sents a = sents b) : a = b := sentR.cells_inj h
attribute [go_sem] pure_toksP len_toks pure_sentsP len_sents
def tokOK (t : Tok) : Bool := nameB t.1 && nameB t.2
def senOK (s : List Tok) : Bool := decide (s.length ≤ 200) && s.all tokOK
def senB (ss : List (List Tok)) : Bool := decide (ss.length ≤ 500) && ss.all senOK
def mapN (ss : List (List Tok)) (i j : Nat) : List Ent := (evI ss i j).foldl upd []
def mapE (ss : List (List Tok)) (i j : Nat) : List Ent := (emI ss i j).foldl upd []
noncomputable def resC (ss : List (List Tok)) : List Ent × List Ent × Int :=
  if senB ss = true then (if ((nextA ss).foldl upd []).length ≤ 30000 ∧ ((emA ss).foldl upd []).length ≤ 30000 then (srt ((nextA ss).foldl upd []), srt ((emA ss).foldl upd []), 0) else ([], [], 2)) else ([], [], 1)
theorem evN_len : ∀ (s : List Tok) (p : Str), (evN p s).length = s.length
  | [], _ => rfl
  | t :: s, p => by rw [evN, List.length_cons, evN_len s, List.length_cons]
theorem nthS_take (ss : List (List Tok)) (i : Nat) (h : i < ss.length) : nextA (ss.take (i + 1)) = nextA (ss.take i) ++ nextS (nthS ss i) ∧ emA (ss.take (i + 1)) = emA (ss.take i) ++ emS (nthS ss i) := by
  rw [takeS ss i h]
  unfold nextA emA
  rw [List.flatMap_append, List.flatMap_append]
  simp
theorem ev_len (ss : List (List Tok)) : ∀ i, i ≤ ss.length → (∀ k, k < i → (nthS ss k).length ≤ 200) → (nextA (ss.take i)).length ≤ 201 * i ∧ (emA (ss.take i)).length ≤ 200 * i
  | 0, _, _ => by simp [nextA, emA]
  | i + 1, hi, h => by
    obtain ⟨h1, h2⟩ := nthS_take ss i (by omega)
    obtain ⟨h3, h4⟩ := ev_len ss i (by omega) fun k hk => h k (by omega)
    have h5 := h i (by omega)
    rw [h1, h2, List.length_append, List.length_append]
    have h6 : (nextS (nthS ss i)).length = (nthS ss i).length + 1 := by unfold nextS; rw [List.length_append, evN_len]; rfl
    have h7 : (emS (nthS ss i)).length = (nthS ss i).length := by simp [emS]
    omega
theorem senOK_iff {s : List Tok} (h : senOK s = true) : s.length ≤ 200 ∧ ∀ t ∈ s, nameB t.1 = true ∧ nameB t.2 = true := by
  unfold senOK at h
  simp only [Bool.and_eq_true, decide_eq_true_eq] at h
  refine ⟨h.1, fun t ht => ?_⟩
  have := List.all_eq_true.1 h.2 t ht
  simpa [tokOK] using this
theorem map_bnd (ss : List (List Tok)) (i j : Nat) (hn : ss.length ≤ 500) (hi : i ≤ ss.length) (h : ∀ k, k < i → senOK (nthS ss k) = true) (hj : j ≤ 200) :
    (∀ k, 0 ≤ val (mapN ss i j) k ∧ val (mapN ss i j) k ≤ 200000) ∧ (mapN ss i j).length ≤ 200000 ∧ (∀ k, 0 ≤ val (mapE ss i j) k ∧ val (mapE ss i j) k ≤ 200000) ∧ (mapE ss i j).length ≤ 200000 := by
  obtain ⟨h1, h2⟩ := ev_len ss i hi fun k hk => (senOK_iff (h k hk)).1
  have h3 : (evN [] ((nthS ss i).take j)).length ≤ j := by rw [evN_len]; simp; omega
  have h4 : (emS ((nthS ss i).take j)).length ≤ j := by simp [emS]; omega
  have h5 : (evI ss i j).length ≤ 200000 := by unfold evI; rw [List.length_append]; omega
  have h6 : (emI ss i j).length ≤ 200000 := by unfold emI; rw [List.length_append]; omega
  have o1 : Ones (evI ss i j) := fun e he => by
    rcases List.mem_append.1 he with he | he
    · exact nextA_ones _ e he
    · exact evN_ones _ _ e he
  have o2 : Ones (emI ss i j) := fun e he => by
    rcases List.mem_append.1 he with he | he
    · exact emA_ones _ e he
    · obtain ⟨t, _, rfl⟩ := List.mem_map.1 he; rfl
  have f1 := fold_upd_len (evI ss i j) []
  have f2 := fold_upd_len (emI ss i j) []
  simp only [List.length_nil] at f1 f2
  refine ⟨fun k => ?_, by unfold mapN; omega, fun k => ?_, by unfold mapE; omega⟩
  · have := o1.val k; unfold mapN; omega
  · have := o2.val k; unfold mapE; omega
theorem mapN_step (ss : List (List Tok)) (i j : Nat) (h : j < (nthS ss i).length) : mapN ss i (j + 1) = upd (mapN ss i j) ((lastT [] ((nthS ss i).take j), (nthT (nthS ss i) j).2), 1) := by unfold mapN; rw [evI_step ss i j h, foldl_snoc]
theorem mapN_end (ss : List (List Tok)) (i : Nat) (h : i < ss.length) : mapN ss (i + 1) 0 = upd (mapN ss i (nthS ss i).length) ((lastT [] (nthS ss i), []), 1) := by unfold mapN; rw [evI_end ss i h, foldl_snoc]
theorem mapE_step (ss : List (List Tok)) (i j : Nat) (h : j < (nthS ss i).length) : mapE ss i (j + 1) = upd (mapE ss i j) (((nthT (nthS ss i) j).2, (nthT (nthS ss i) j).1), 1) := by unfold mapE; rw [emI_step ss i j h, foldl_snoc]
theorem mapE_end (ss : List (List Tok)) (i : Nat) (h : i < ss.length) : mapE ss (i + 1) 0 = mapE ss i (nthS ss i).length := by unfold mapE; rw [emI_end ss i h]
noncomputable def Δo : FuncId → List V → Hp → Option AR := extΔ 23 (conD SortedR) noΔ
theorem Δo_ok : GoodΔ Tryz.prog Δo := extΔ_ok (conD_ok sortedR_ok) noΔ_ok
theorem resC_bad {ss : List (List Tok)} {i : Nat} (hi : i < ss.length) (h : senOK (nthS ss i) = false) : resC ss = ([], [], 1) := by
  unfold resC
  rw [if_neg]
  unfold senB
  rw [sentR.all_f (p := senOK) hi h, Bool.and_false]
  exact Bool.false_ne_true
set_option maxHeartbeats 4000000 in
set_option maxRecDepth 100000 in
theorem count_ok (ss : List (List Tok)) : PCall Tryz.prog 8 [.fs (sents ss) ss.length]
    (.ret (.tup [.agg [.fs (cnts (resC ss).1) (resC ss).1.length, .fs (cnts (resC ss).2.1) (resC ss).2.1.length], .int .i64 (resC ss).2.2])) := by
  by_cases h0 : ss.length ≤ 500
  rotate_left
  · have hr : resC ss = ([], [], 1) := by unfold resC; rw [if_neg]; simp [senB, h0]
    rw [hr]
    have e1 : decide (500 < (ss.length : Int)) = true := decide_eq_true (by omega)
    refine PCall.walk (rs := [.cell 2 27, .tmp 3]) [0, 2, 3, 4, 5, 7, 8, 10, 13, 17, 18, 19, 20, 25, 27, 28, 29, 30, 42, 81] [] mixed (extΓ_ok cName_ok noΓ_ok) (Δo_ok) call8 Tryz.func8 rfl Tryz.ntmps8 rfl (by kernel_rfl) (by simp) (by simp [pure_bool, pure_int, pure_str, pure_fs, pure_fp, pure_fn, pure_agg, pure_tup, pure_nilS, pure_nilP, pure_natsP, pure_intsP, pure_strsP, pure_list, pure_cntsP, pure_sentsP]) ?_
    simp (disch := (first | assumption | omega | (simp only [List.length_take, List.length_drop, List.length_append, List.length_set, List.length_replicate, List.length_cons, List.length_nil, len_nats, len_ints, len_strs] <;> omega))) only [go_sem, e1, cnts_nil, Nat.reduceBEq, Nat.reduceSub, Nat.reduceAdd, Nat.reduceMul, Nat.reduceLT, Nat.reduceLeDiff, Nat.reduceEqDiff, Int.reduceToNat, Int.reduceAdd, Int.reduceSub, Int.reduceMul, Int.reduceLT, Int.reduceLE, Int.reduceEq]
  have e1 : decide (500 < (ss.length : Int)) = false := decide_eq_false (by omega)
  refine PCall.walk (rs := [.cell 2 27, .tmp 3]) [0, 2, 3, 4, 5, 7, 8, 10, 13, 17, 18, 19, 20, 25, 27, 28, 29, 30, 42, 81] [] mixed (extΓ_ok cName_ok noΓ_ok) (Δo_ok) call8 Tryz.func8 rfl Tryz.ntmps8 rfl (by kernel_rfl) (by simp) (by simp [pure_bool, pure_int, pure_str, pure_fs, pure_fp, pure_fn, pure_agg, pure_tup, pure_nilS, pure_nilP, pure_natsP, pure_intsP, pure_strsP, pure_list, pure_cntsP, pure_sentsP]) ?_
  simp (disch := (first | assumption | omega | (simp only [List.length_take, List.length_drop, List.length_append, List.length_set, List.length_replicate, List.length_cons, List.length_nil, len_nats, len_ints, len_strs] <;> omega))) only [go_sem, e1, Nat.reduceBEq, Nat.reduceSub, Nat.reduceAdd, Nat.reduceMul, Nat.reduceLT, Nat.reduceLeDiff, Nat.reduceEqDiff, Int.reduceToNat, Int.reduceAdd, Int.reduceSub, Int.reduceMul, Int.reduceLT, Int.reduceLE, Int.reduceEq]
  refine AXs.loop mixed (extΓ_ok cName_ok noΓ_ok) ( Δo_ok) (fun i : Nat => [(2, .ptr 0 0), (4, .map 1), (5, .map 2), (17, .fs (sents ss) ss.length), (18, .int .i64 ss.length), (19, .int .i64 i)])
    (fun i => ⟨[(2, .mp (mpF 0 (mapE ss i 0)) (mapE ss i 0).length), (1, .mp (mpF 0 (mapN ss i 0)) (mapN ss i 0).length), (0, .cells [.nilS, .nilS])], 3⟩)
    (fun i => i ≤ ss.length ∧ ∀ k, k < i → senOK (nthS ss k) = true) (fun i => ss.length - i) 0 (by kernel_rfl) ⟨Nat.zero_le _, fun k hk => by omega⟩ (Sub.of0 [] rfl rfl ?_ ?_) ?_
  · simp only [go_sem, Nat.reduceBEq, Nat.reduceSub, Nat.reduceAdd, Nat.reduceMul, Nat.reduceLT, Nat.reduceLeDiff, Nat.reduceEqDiff, Int.reduceToNat, Int.reduceAdd, Int.reduceSub, Int.reduceMul, Int.reduceLT, Int.reduceLE, Int.reduceEq]
  · simp only [go_sem, Nat.reduceBEq, Nat.reduceSub, Nat.reduceAdd, Nat.reduceMul, Nat.reduceLT, Nat.reduceLeDiff, Nat.reduceEqDiff, Int.reduceToNat, Int.reduceAdd, Int.reduceSub, Int.reduceMul, Int.reduceLT, Int.reduceLE, Int.reduceEq]
    exact ⟨rnb_mp [] [] 0 0 rfl rfl, rnb_mp [] [] 0 0 rfl rfl⟩
  rintro i ⟨h1, h2⟩
  simp only [go_sem, Nat.reduceBEq, Nat.reduceSub, Nat.reduceAdd, Nat.reduceMul, Nat.reduceLT, Nat.reduceLeDiff, Nat.reduceEqDiff, Int.reduceToNat, Int.reduceAdd, Int.reduceSub, Int.reduceMul, Int.reduceLT, Int.reduceLE, Int.reduceEq]
  refine AXc.introP (fun h3 => ?_) (fun h3 => ?_)
  · have hi : i < ss.length := by omega
    have at1 := sents_at ss i hi
    simp (disch := (first | assumption | omega | (simp only [List.length_take, List.length_drop, List.length_append, List.length_set, List.length_replicate, List.length_cons, List.length_nil, len_nats, len_ints, len_strs] <;> omega))) only [go_sem, at1, Nat.reduceBEq, Nat.reduceSub, Nat.reduceAdd, Nat.reduceMul, Nat.reduceLT, Nat.reduceLeDiff, Nat.reduceEqDiff, Int.reduceToNat, Int.reduceAdd, Int.reduceSub, Int.reduceMul, Int.reduceLT, Int.reduceLE, Int.reduceEq]
    refine ⟨⟨by omega, by omega⟩, by omega, ?_⟩
    refine AXc.introP (fun h4 => ?_) (fun h4 => ?_)
    · have hb : senOK (nthS ss i) = false := by
        unfold senOK
        rw [decide_eq_false (by omega)]; rfl
      rw [resC_bad hi hb]
      simp (disch := (first | assumption | omega | (simp only [List.length_take, List.length_drop, List.length_append, List.length_set, List.length_replicate, List.length_cons, List.length_nil, len_nats, len_ints, len_strs] <;> omega))) only [go_sem, cnts_nil, Nat.reduceBEq, Nat.reduceSub, Nat.reduceAdd, Nat.reduceMul, Nat.reduceLT, Nat.reduceLeDiff, Nat.reduceEqDiff, Int.reduceToNat, Int.reduceAdd, Int.reduceSub, Int.reduceMul, Int.reduceLT, Int.reduceLE, Int.reduceEq]
    have h4' : (nthS ss i).length ≤ 200 := by omega
    simp (disch := (first | assumption | omega | (simp only [List.length_take, List.length_drop, List.length_append, List.length_set, List.length_replicate, List.length_cons, List.length_nil, len_nats, len_ints, len_strs] <;> omega))) only [go_sem, Nat.reduceBEq, Nat.reduceSub, Nat.reduceAdd, Nat.reduceMul, Nat.reduceLT, Nat.reduceLeDiff, Nat.reduceEqDiff, Int.reduceToNat, Int.reduceAdd, Int.reduceSub, Int.reduceMul, Int.reduceLT, Int.reduceLE, Int.reduceEq]
    refine AXs.loop mixed (extΓ_ok cName_ok noΓ_ok) ( Δo_ok) (fun j : Nat => [(2, .ptr 0 0), (4, .map 1), (5, .map 2), (17, .fs (sents ss) ss.length), (18, .int .i64 ss.length), (19, .int .i64 i), (8, .str (lastT [] ((nthS ss i).take j))), (27, .fs (toks (nthS ss i)) (nthS ss i).length), (28, .int .i64 (nthS ss i).length), (29, .int .i64 j)])
      (fun j => ⟨[(2, .mp (mpF 0 (mapE ss i j)) (mapE ss i j).length), (1, .mp (mpF 0 (mapN ss i j)) (mapN ss i j).length), (0, .cells [.nilS, .nilS])], 3⟩)
      (fun j => j ≤ (nthS ss i).length ∧ ∀ k, k < j → tokOK (nthT (nthS ss i) k) = true) (fun j => (nthS ss i).length - j) 0 (by kernel_rfl) ⟨Nat.zero_le _, fun k hk => by omega⟩ (Sub.of0 [] rfl rfl ?_ ?_) ?_
    · simp only [go_sem, Nat.reduceBEq, Nat.reduceSub, Nat.reduceAdd, Nat.reduceMul, Nat.reduceLT, Nat.reduceLeDiff, Nat.reduceEqDiff, Int.reduceToNat, Int.reduceAdd, Int.reduceSub, Int.reduceMul, Int.reduceLT, Int.reduceLE, Int.reduceEq]
      rfl
    · simp only [go_sem, Nat.reduceBEq, Nat.reduceSub, Nat.reduceAdd, Nat.reduceMul, Nat.reduceLT, Nat.reduceLeDiff, Nat.reduceEqDiff, Int.reduceToNat, Int.reduceAdd, Int.reduceSub, Int.reduceMul, Int.reduceLT, Int.reduceLE, Int.reduceEq]
      exact ⟨rnb_mp _ _ _ _ rfl rfl, rnb_mp _ _ _ _ rfl rfl⟩
    rintro j ⟨h5, h6⟩
    simp only [go_sem, Nat.reduceBEq, Nat.reduceSub, Nat.reduceAdd, Nat.reduceMul, Nat.reduceLT, Nat.reduceLeDiff, Nat.reduceEqDiff, Int.reduceToNat, Int.reduceAdd, Int.reduceSub, Int.reduceMul, Int.reduceLT, Int.reduceLE, Int.reduceEq]
    refine AXc.introP (fun h7 => ?_) (fun h7 => ?_)
    · have hj : j < (nthS ss i).length := by omega
      have at2 := toks_at (nthS ss i) j hj
      have hbn := map_bnd ss i j h0 h1 h2 (by omega)
      have hu1 : sto (mapN ss i j) (lastT [] ((nthS ss i).take j), (nthT (nthS ss i) j).2) (val (mapN ss i j) (lastT [] ((nthS ss i).take j), (nthT (nthS ss i) j).2) + 1) = mapN ss i (j + 1) := (sto_upd _ _ 1).trans (mapN_step ss i j hj).symm
      have hl1 : (ent (mapN ss i j) (lastT [] ((nthS ss i).take j), (nthT (nthS ss i) j).2)).length = (mapN ss i (j + 1)).length := by rw [← hu1, sto_len]
      have hu2 : sto (mapE ss i j) ((nthT (nthS ss i) j).2, (nthT (nthS ss i) j).1) (val (mapE ss i j) ((nthT (nthS ss i) j).2, (nthT (nthS ss i) j).1) + 1) = mapE ss i (j + 1) := (sto_upd _ _ 1).trans (mapE_step ss i j hj).symm
      have hl2 : (ent (mapE ss i j) ((nthT (nthS ss i) j).2, (nthT (nthS ss i) j).1)).length = (mapE ss i (j + 1)).length := by rw [← hu2, sto_len]
      have v1 := hbn.1 (lastT [] ((nthS ss i).take j), (nthT (nthS ss i) j).2)
      have v2 := hbn.2.2.1 ((nthT (nthS ss i) j).2, (nthT (nthS ss i) j).1)
      simp (disch := (first | assumption | omega | (simp only [List.length_take, List.length_drop, List.length_append, List.length_set, List.length_replicate, List.length_cons, List.length_nil, len_nats, len_ints, len_strs] <;> omega))) only [go_sem, at2, Nat.reduceBEq, Nat.reduceSub, Nat.reduceAdd, Nat.reduceMul, Nat.reduceLT, Nat.reduceLeDiff, Nat.reduceEqDiff, Int.reduceToNat, Int.reduceAdd, Int.reduceSub, Int.reduceMul, Int.reduceLT, Int.reduceLE, Int.reduceEq]
      refine ⟨⟨by omega, by omega⟩, ?_⟩
      have hb : (!nameB (nthT (nthS ss i) j).1 || !nameB (nthT (nthS ss i) j).2) = !tokOK (nthT (nthS ss i) j) := by unfold tokOK; rw [Bool.not_and]
      rw [hb]
      cases hg : tokOK (nthT (nthS ss i) j) with
      | false =>
        have hb : senOK (nthS ss i) = false := by
          unfold senOK
          rw [tokR.all_f (p := tokOK) hj hg, Bool.and_false]
        rw [resC_bad hi hb]
        simp (disch := (first | assumption | omega | (simp only [List.length_take, List.length_drop, List.length_append, List.length_set, List.length_replicate, List.length_cons, List.length_nil, len_nats, len_ints, len_strs] <;> omega))) only [go_sem, cnts_nil, Nat.reduceBEq, Nat.reduceSub, Nat.reduceAdd, Nat.reduceMul, Nat.reduceLT, Nat.reduceLeDiff, Nat.reduceEqDiff, Int.reduceToNat, Int.reduceAdd, Int.reduceSub, Int.reduceMul, Int.reduceLT, Int.reduceLE, Int.reduceEq]
      | true =>
        simp (config := { maxSteps := 2000000 }) (disch := (first | assumption | omega | (simp only [List.length_take, List.length_drop, List.length_append, List.length_set, List.length_replicate, List.length_cons, List.length_nil, len_nats, len_ints, len_strs] <;> omega))) only [go_sem, blt_eq, nbeq_eq, decide_true, decide_false, Nat.reduceBEq, Nat.reduceSub, Nat.reduceAdd, Nat.reduceMul, Nat.reduceLT, Nat.reduceLeDiff, Nat.reduceEqDiff, Int.reduceToNat, Int.reduceAdd, Int.reduceSub, Int.reduceMul, Int.reduceLT, Int.reduceLE, Int.reduceEq]
        refine ⟨by kernel_rfl, by kernel_rfl, ?_⟩
        rw [hu1, hl1, hu2, hl2]
        refine loopK_norm (j + 1) ⟨by omega, fun k hk => ?_⟩ (by omega) (Sub.of0 [] rfl rfl ?_ ?_)
        · by_cases hkj : k < j
          · exact h6 k hkj
          · obtain rfl : k = j := by omega
            exact hg
        · simp only [go_sem, lastT_step (nthS ss i) j hj, Nat.reduceBEq, Nat.reduceSub, Nat.reduceAdd, Nat.reduceMul, Nat.reduceLT, Nat.reduceLeDiff, Nat.reduceEqDiff, Int.reduceToNat, Int.reduceAdd, Int.reduceSub, Int.reduceMul, Int.reduceLT, Int.reduceLE, Int.reduceEq]
          simp
        · simp only [go_sem, Nat.reduceBEq, Nat.reduceSub, Nat.reduceAdd, Nat.reduceMul, Nat.reduceLT, Nat.reduceLeDiff, Nat.reduceEqDiff, Int.reduceToNat, Int.reduceAdd, Int.reduceSub, Int.reduceMul, Int.reduceLT, Int.reduceLE, Int.reduceEq]
          exact ⟨rnb_mp _ _ _ _ rfl rfl, rnb_mp _ _ _ _ rfl rfl⟩
    · have hj : j = (nthS ss i).length := by omega
      subst hj
      simp only [go_sem, Nat.reduceBEq, Nat.reduceSub, Nat.reduceAdd, Nat.reduceMul, Nat.reduceLT, Nat.reduceLeDiff, Nat.reduceEqDiff, Int.reduceToNat, Int.reduceAdd, Int.reduceSub, Int.reduceMul, Int.reduceLT, Int.reduceLE, Int.reduceEq]
      refine AXa.go mixed (extΓ_ok cName_ok noΓ_ok) ( Δo_ok) (by kernel_rfl) ?_
      have hbn := map_bnd ss i (nthS ss i).length h0 h1 h2 h4'
      rw [List.take_length]
      have hu1 : sto (mapN ss i (nthS ss i).length) (lastT [] (nthS ss i), []) (val (mapN ss i (nthS ss i).length) (lastT [] (nthS ss i), []) + 1) = mapN ss (i + 1) 0 := (sto_upd _ _ 1).trans (mapN_end ss i hi).symm
      have hl1 : (ent (mapN ss i (nthS ss i).length) (lastT [] (nthS ss i), [])).length = (mapN ss (i + 1) 0).length := by rw [← hu1, sto_len]
      have v1 := hbn.1 (lastT [] (nthS ss i), [])
      simp (config := { maxSteps := 2000000 }) (disch := (first | assumption | omega | (simp only [List.length_take, List.length_drop, List.length_append, List.length_set, List.length_replicate, List.length_cons, List.length_nil, len_nats, len_ints, len_strs] <;> omega))) only [go_sem, blt_eq, nbeq_eq, decide_true, decide_false, Nat.reduceBEq, Nat.reduceSub, Nat.reduceAdd, Nat.reduceMul, Nat.reduceLT, Nat.reduceLeDiff, Nat.reduceEqDiff, Int.reduceToNat, Int.reduceAdd, Int.reduceSub, Int.reduceMul, Int.reduceLT, Int.reduceLE, Int.reduceEq]
      refine ⟨by kernel_rfl, ?_⟩
      rw [hu1, hl1, ← mapE_end ss i hi]
      refine loopK_norm (i + 1) ⟨by omega, fun k hk => ?_⟩ (by omega) (Sub.of0 [] rfl rfl ?_ ?_)
      · by_cases hki : k < i
        · exact h2 k hki
        · obtain rfl : k = i := by omega
          unfold senOK
          rw [decide_eq_true h4', tokR.all_t (p := tokOK) fun m hm => h6 m hm]; rfl
      · simp only [go_sem, Nat.reduceBEq, Nat.reduceSub, Nat.reduceAdd, Nat.reduceMul, Nat.reduceLT, Nat.reduceLeDiff, Nat.reduceEqDiff, Int.reduceToNat, Int.reduceAdd, Int.reduceSub, Int.reduceMul, Int.reduceLT, Int.reduceLE, Int.reduceEq]
        simp
      · simp only [go_sem, Nat.reduceBEq, Nat.reduceSub, Nat.reduceAdd, Nat.reduceMul, Nat.reduceLT, Nat.reduceLeDiff, Nat.reduceEqDiff, Int.reduceToNat, Int.reduceAdd, Int.reduceSub, Int.reduceMul, Int.reduceLT, Int.reduceLE, Int.reduceEq]
        exact ⟨rnb_mp _ _ _ _ rfl rfl, rnb_mp _ _ _ _ rfl rfl⟩
  · have hi : i = ss.length := by omega
    subst hi
    have hbn := map_bnd ss ss.length 0 h0 h1 h2 (by omega)
    have hm1 : mapN ss ss.length 0 = (nextA ss).foldl upd [] := by unfold mapN; rw [evI_all]
    have hm2 : mapE ss ss.length 0 = (emA ss).foldl upd [] := by unfold mapE; rw [emI_all]
    have hB : senB ss = true := by
      unfold senB
      rw [decide_eq_true h0, sentR.all_t (p := senOK) fun m hm => h2 m hm]; rfl
    have d1 : Dif (mapN ss ss.length 0) := fold_upd_dif _
    have d2 : Dif (mapE ss ss.length 0) := fold_upd_dif _
    have hr : resC ss = if (mapN ss ss.length 0).length ≤ 30000 ∧ (mapE ss ss.length 0).length ≤ 30000 then (srt (mapN ss ss.length 0), srt (mapE ss ss.length 0), 0) else ([], [], 2) := by
      unfold resC; rw [if_pos hB, hm1, hm2]
    rw [hr]
    obtain ⟨-, n1, -, n2⟩ := hbn
    generalize mapN ss ss.length 0 = M at d1 n1 ⊢
    generalize mapE ss ss.length 0 = E at d2 n2 ⊢
    clear hm1 hm2 hr
    simp only [go_sem, Nat.reduceBEq, Nat.reduceSub, Nat.reduceAdd, Nat.reduceMul, Nat.reduceLT, Nat.reduceLeDiff, Nat.reduceEqDiff, Int.reduceToNat, Int.reduceAdd, Int.reduceSub, Int.reduceMul, Int.reduceLT, Int.reduceLE, Int.reduceEq]
    refine AXa.go mixed (extΓ_ok cName_ok noΓ_ok) ( Δo_ok) (by kernel_rfl) ?_
    simp (disch := (first | assumption | omega | (simp only [List.length_take, List.length_drop, List.length_append, List.length_set, List.length_replicate, List.length_cons, List.length_nil, len_nats, len_ints, len_strs] <;> omega))) only [go_sem, Nat.reduceBEq, Nat.reduceSub, Nat.reduceAdd, Nat.reduceMul, Nat.reduceLT, Nat.reduceLeDiff, Nat.reduceEqDiff, Int.reduceToNat, Int.reduceAdd, Int.reduceSub, Int.reduceMul, Int.reduceLT, Int.reduceLE, Int.reduceEq]
    by_cases hle : M.length ≤ 30000 ∧ E.length ≤ 30000
    rotate_left
    · rw [if_neg hle]
      have hb : (decide (30000 < (M.length : Int)) || decide (30000 < (E.length : Int))) = true := by
        simp only [Bool.or_eq_true, decide_eq_true_eq]; omega
      rw [hb]
      simp (disch := (first | assumption | omega | (simp only [List.length_take, List.length_drop, List.length_append, List.length_set, List.length_replicate, List.length_cons, List.length_nil, len_nats, len_ints, len_strs] <;> omega))) only [go_sem, cnts_nil, Nat.reduceBEq, Nat.reduceSub, Nat.reduceAdd, Nat.reduceMul, Nat.reduceLT, Nat.reduceLeDiff, Nat.reduceEqDiff, Int.reduceToNat, Int.reduceAdd, Int.reduceSub, Int.reduceMul, Int.reduceLT, Int.reduceLE, Int.reduceEq]
    rw [if_pos hle]
    have hb : (decide (30000 < (M.length : Int)) || decide (30000 < (E.length : Int))) = false := by
      simp only [Bool.or_eq_false_iff, decide_eq_false_iff_not]; omega
    rw [hb]
    have s1 : (srt M).length = M.length := (srt_perm d1).length_eq
    have s2 : (srt E).length = E.length := (srt_perm d2).length_eq
    have hM : Δo 23 [.map 1] ⟨[(2, .mp (mpF 0 E) E.length), (1, .mp (mpF 0 M) M.length), (0, .cells [.nilS, .nilS])], 3⟩ = _ := sortedR_eq 1 M _ 3 rfl d1 (by omega) rfl
    by_cases m0 : M.length = 0
    · rw [if_pos m0] at hM
      have hE : Δo 23 [.map 2] ⟨[(2, .mp (mpF 0 E) E.length), (1, .mp (mpF 0 M) M.length), (0, .cells [.nilS, .nilS])], 3⟩ = _ := sortedR_eq 2 E _ 3 rfl d2 (by omega) rfl
      have q1 : srt M = [] := List.eq_nil_of_length_eq_zero (by omega)
      by_cases z0 : E.length = 0
      · rw [if_pos z0] at hE
        have q2 : srt E = [] := List.eq_nil_of_length_eq_zero (by omega)
        simp (disch := (first | assumption | omega | (simp only [List.length_take, List.length_drop, List.length_append, List.length_set, List.length_replicate, List.length_cons, List.length_nil, len_nats, len_ints, len_strs] <;> omega))) only [go_sem, hM, hE, q1, q2, cnts_nil, Nat.reduceBEq, Nat.reduceSub, Nat.reduceAdd, Nat.reduceMul, Nat.reduceLT, Nat.reduceLeDiff, Nat.reduceEqDiff, Int.reduceToNat, Int.reduceAdd, Int.reduceSub, Int.reduceMul, Int.reduceLT, Int.reduceLE, Int.reduceEq]
      · rw [if_neg z0] at hE
        simp (disch := (first | assumption | omega | (simp only [List.length_take, List.length_drop, List.length_append, List.length_set, List.length_replicate, List.length_cons, List.length_nil, len_nats, len_ints, len_strs] <;> omega))) only [go_sem, hM, hE, q1, cnts_nil, Nat.reduceBEq, Nat.reduceSub, Nat.reduceAdd, Nat.reduceMul, Nat.reduceLT, Nat.reduceLeDiff, Nat.reduceEqDiff, Int.reduceToNat, Int.reduceAdd, Int.reduceSub, Int.reduceMul, Int.reduceLT, Int.reduceLE, Int.reduceEq]
        exact Frz.slp rfl s2 (by rw [len_cnts, s2]; omega) (by rw [List.drop_zero, List.take_of_length_le (by rw [len_cnts, s2]; omega)]) (pure_cnts _)
    · rw [if_neg m0] at hM
      have hE : Δo 23 [.map 2] ⟨[(3, .cells (cnts (srt M))), (2, .mp (mpF 0 E) E.length), (1, .mp (mpF 0 M) M.length), (0, .cells [.nilS, .nilS])], 4⟩ = _ := sortedR_eq 2 E _ 4 rfl d2 (by omega) rfl
      by_cases z0 : E.length = 0
      · rw [if_pos z0] at hE
        have q2 : srt E = [] := List.eq_nil_of_length_eq_zero (by omega)
        simp (disch := (first | assumption | omega | (simp only [List.length_take, List.length_drop, List.length_append, List.length_set, List.length_replicate, List.length_cons, List.length_nil, len_nats, len_ints, len_strs] <;> omega))) only [go_sem, hM, hE, q2, cnts_nil, Nat.reduceBEq, Nat.reduceSub, Nat.reduceAdd, Nat.reduceMul, Nat.reduceLT, Nat.reduceLeDiff, Nat.reduceEqDiff, Int.reduceToNat, Int.reduceAdd, Int.reduceSub, Int.reduceMul, Int.reduceLT, Int.reduceLE, Int.reduceEq]
        exact Frz.slp rfl s1 (by rw [len_cnts, s1]; omega) (by rw [List.drop_zero, List.take_of_length_le (by rw [len_cnts, s1]; omega)]) (pure_cnts _)
      · rw [if_neg z0] at hE
        simp (disch := (first | assumption | omega | (simp only [List.length_take, List.length_drop, List.length_append, List.length_set, List.length_replicate, List.length_cons, List.length_nil, len_nats, len_ints, len_strs] <;> omega))) only [go_sem, hM, hE, Nat.reduceBEq, Nat.reduceSub, Nat.reduceAdd, Nat.reduceMul, Nat.reduceLT, Nat.reduceLeDiff, Nat.reduceEqDiff, Int.reduceToNat, Int.reduceAdd, Int.reduceSub, Int.reduceMul, Int.reduceLT, Int.reduceLE, Int.reduceEq]
        exact ⟨Frz.slp rfl s1 (by rw [len_cnts, s1]; omega) (by rw [List.drop_zero, List.take_of_length_le (by rw [len_cnts, s1]; omega)]) (pure_cnts _),
          Frz.slp rfl s2 (by rw [len_cnts, s2]; omega) (by rw [List.drop_zero, List.take_of_length_le (by rw [len_cnts, s2]; omega)]) (pure_cnts _)⟩
def cntV (r : List Ent × List Ent × Int) : PR := .ret (.tup [.agg [.fs (cnts r.1) r.1.length, .fs (cnts r.2.1) r.2.1.length], .int .i64 r.2.2])
noncomputable def cCount : List V → Option PR := conOf (fun ss : List (List Tok) => [.fs (sents ss) ss.length]) (fun _ => True) fun ss => cntV (resC ss)
theorem cCount_eq (ss : List (List Tok)) : cCount [.fs (sents ss) ss.length] = some (cntV (resC ss)) := conOf_eq (pat := fun ss : List (List Tok) => [.fs (sents ss) ss.length]) (fun x y h => by simp only [List.cons.injEq, V.fs.injEq, and_true] at h; exact sents_inj h.1) ss trivial
theorem cCount_ok : ∀ args r, cCount args = some r → PCall Tryz.prog 8 args r := conOf_ok fun ss _ => count_ok ss
attribute [go_sem] cCount_eq
end Go.Proofs
