/- Counting tagged sentences, as the reference does. -/
import Derived.Test.YtajodjbnkeeonaaGreatDoorMC
import Derived.Test.YtajodjbnkeeonaaGreatDoorMD
set_option linter.unusedSimpArgs false
set_option linter.unusedVariables false
namespace Go.Proofs
open Go.Ab Go.Cnt
set_option maxHeartbeats 4000000 in
theorem rsent_ok (ss : List (List Tok)) : PCall Tryz.prog 24 [.fs (sents ss) ss.length] (.ret (.bool (senB ss))) := by
  refine PCall.walk (rs := [.tmp 2]) [0, 2, 3, 4, 7, 11, 19, 26, 50] [] mixed (extΓ_ok cRName_ok noΓ_ok) (noΔ_ok) call24 Tryz.func24 rfl Tryz.ntmps24 rfl (by kernel_rfl) (by simp) (by simp [pure_bool, pure_int, pure_str, pure_fs, pure_fp, pure_fn, pure_agg, pure_tup, pure_nilS, pure_nilP, pure_natsP, pure_intsP, pure_strsP, pure_list, pure_cntsP, pure_sentsP]) ?_
  simp only [go_sem, Nat.reduceBEq, Nat.reduceSub, Nat.reduceAdd, Nat.reduceMul, Nat.reduceLT, Nat.reduceLeDiff, Nat.reduceEqDiff, Int.reduceToNat, Int.reduceAdd, Int.reduceSub, Int.reduceMul, Int.reduceLT, Int.reduceLE, Int.reduceEq]
  refine AXc.introP (fun h0 => ?_) (fun h0 => ?_)
  · simp only [go_sem, Nat.reduceBEq, Nat.reduceSub, Nat.reduceAdd, Nat.reduceMul, Nat.reduceLT, Nat.reduceLeDiff, Nat.reduceEqDiff, Int.reduceToNat, Int.reduceAdd, Int.reduceSub, Int.reduceMul, Int.reduceLT, Int.reduceLE, Int.reduceEq]
    unfold senB
    rw [decide_eq_false (by omega)]; rfl
  have h0' : ss.length ≤ 500 := by omega
  simp only [go_sem, Nat.reduceBEq, Nat.reduceSub, Nat.reduceAdd, Nat.reduceMul, Nat.reduceLT, Nat.reduceLeDiff, Nat.reduceEqDiff, Int.reduceToNat, Int.reduceAdd, Int.reduceSub, Int.reduceMul, Int.reduceLT, Int.reduceLE, Int.reduceEq]
  refine AXs.loop mixed (extΓ_ok cRName_ok noΓ_ok) (noΔ_ok) (fun i : Nat => [(0, .fs (sents ss) ss.length), (3, .int .i64 i)]) (fun _ => ⟨[], 0⟩) (fun i => i ≤ ss.length ∧ ∀ k, k < i → senOK (nthS ss k) = true) (fun i => ss.length - i) 0 (by kernel_rfl) ⟨Nat.zero_le _, fun k hk => by omega⟩ (Sub.of0 [] rfl rfl ?_ ?_) ?_
  · simp only [go_sem, Nat.reduceBEq, Nat.reduceSub, Nat.reduceAdd, Nat.reduceMul, Nat.reduceLT, Nat.reduceLeDiff, Nat.reduceEqDiff, Int.reduceToNat, Int.reduceAdd, Int.reduceSub, Int.reduceMul, Int.reduceLT, Int.reduceLE, Int.reduceEq]
  · simp only [go_sem, Nat.reduceBEq, Nat.reduceSub, Nat.reduceAdd, Nat.reduceMul, Nat.reduceLT, Nat.reduceLeDiff, Nat.reduceEqDiff, Int.reduceToNat, Int.reduceAdd, Int.reduceSub, Int.reduceMul, Int.reduceLT, Int.reduceLE, Int.reduceEq]
  rintro i ⟨h1, h2⟩
  simp only [go_sem, Nat.reduceBEq, Nat.reduceSub, Nat.reduceAdd, Nat.reduceMul, Nat.reduceLT, Nat.reduceLeDiff, Nat.reduceEqDiff, Int.reduceToNat, Int.reduceAdd, Int.reduceSub, Int.reduceMul, Int.reduceLT, Int.reduceLE, Int.reduceEq]
  refine AXc.introP (fun h3 => ?_) (fun h3 => ?_)
  · have hi : i < ss.length := by omega
    have at1 := sents_at ss i hi
    simp (disch := (first | assumption | omega | (simp only [List.length_take, List.length_drop, List.length_append, List.length_set, List.length_replicate, List.length_cons, List.length_nil, len_nats, len_ints, len_strs] <;> omega))) only [go_sem, at1, Nat.reduceBEq, Nat.reduceSub, Nat.reduceAdd, Nat.reduceMul, Nat.reduceLT, Nat.reduceLeDiff, Nat.reduceEqDiff, Int.reduceToNat, Int.reduceAdd, Int.reduceSub, Int.reduceMul, Int.reduceLT, Int.reduceLE, Int.reduceEq]
    refine ⟨⟨by omega, by omega⟩, by omega, ?_⟩
    refine AXc.introP (fun h4 => ?_) (fun h4 => ?_)
    · have hb : senOK (nthS ss i) = false := by
        unfold senOK
        rw [decide_eq_false (by omega)]; rfl
      simp (disch := (first | assumption | omega | (simp only [List.length_take, List.length_drop, List.length_append, List.length_set, List.length_replicate, List.length_cons, List.length_nil, len_nats, len_ints, len_strs] <;> omega))) only [go_sem, Nat.reduceBEq, Nat.reduceSub, Nat.reduceAdd, Nat.reduceMul, Nat.reduceLT, Nat.reduceLeDiff, Nat.reduceEqDiff, Int.reduceToNat, Int.reduceAdd, Int.reduceSub, Int.reduceMul, Int.reduceLT, Int.reduceLE, Int.reduceEq]
      unfold senB
      rw [sentR.all_f (p := senOK) hi hb, Bool.and_false]
    have h4' : (nthS ss i).length ≤ 200 := by omega
    simp (disch := (first | assumption | omega | (simp only [List.length_take, List.length_drop, List.length_append, List.length_set, List.length_replicate, List.length_cons, List.length_nil, len_nats, len_ints, len_strs] <;> omega))) only [go_sem, Nat.reduceBEq, Nat.reduceSub, Nat.reduceAdd, Nat.reduceMul, Nat.reduceLT, Nat.reduceLeDiff, Nat.reduceEqDiff, Int.reduceToNat, Int.reduceAdd, Int.reduceSub, Int.reduceMul, Int.reduceLT, Int.reduceLE, Int.reduceEq]
    refine AXs.loop mixed (extΓ_ok cRName_ok noΓ_ok) (noΔ_ok) (fun j : Nat => [(0, .fs (sents ss) ss.length), (3, .int .i64 i), (4, .int .i64 j)]) (fun _ => ⟨[], 0⟩) (fun j => j ≤ (nthS ss i).length ∧ ∀ k, k < j → tokOK (nthT (nthS ss i) k) = true) (fun j => (nthS ss i).length - j) 0 (by kernel_rfl) ⟨Nat.zero_le _, fun k hk => by omega⟩ (Sub.of0 [] rfl rfl ?_ ?_) ?_
    · simp only [go_sem, Nat.reduceBEq, Nat.reduceSub, Nat.reduceAdd, Nat.reduceMul, Nat.reduceLT, Nat.reduceLeDiff, Nat.reduceEqDiff, Int.reduceToNat, Int.reduceAdd, Int.reduceSub, Int.reduceMul, Int.reduceLT, Int.reduceLE, Int.reduceEq]
    · simp only [go_sem, Nat.reduceBEq, Nat.reduceSub, Nat.reduceAdd, Nat.reduceMul, Nat.reduceLT, Nat.reduceLeDiff, Nat.reduceEqDiff, Int.reduceToNat, Int.reduceAdd, Int.reduceSub, Int.reduceMul, Int.reduceLT, Int.reduceLE, Int.reduceEq]
    rintro j ⟨h5, h6⟩
    simp (disch := (first | assumption | omega | (simp only [List.length_take, List.length_drop, List.length_append, List.length_set, List.length_replicate, List.length_cons, List.length_nil, len_nats, len_ints, len_strs] <;> omega))) only [go_sem, at1, Nat.reduceBEq, Nat.reduceSub, Nat.reduceAdd, Nat.reduceMul, Nat.reduceLT, Nat.reduceLeDiff, Nat.reduceEqDiff, Int.reduceToNat, Int.reduceAdd, Int.reduceSub, Int.reduceMul, Int.reduceLT, Int.reduceLE, Int.reduceEq]
    refine ⟨⟨by omega, by omega⟩, by omega, ?_⟩
    refine AXc.introP (fun h7 => ?_) (fun h7 => ?_)
    · have hj : j < (nthS ss i).length := by omega
      have at2 := toks_at (nthS ss i) j hj
      simp (disch := (first | assumption | omega | (simp only [List.length_take, List.length_drop, List.length_append, List.length_set, List.length_replicate, List.length_cons, List.length_nil, len_nats, len_ints, len_strs] <;> omega))) only [go_sem, at1, at2, Nat.reduceBEq, Nat.reduceSub, Nat.reduceAdd, Nat.reduceMul, Nat.reduceLT, Nat.reduceLeDiff, Nat.reduceEqDiff, Int.reduceToNat, Int.reduceAdd, Int.reduceSub, Int.reduceMul, Int.reduceLT, Int.reduceLE, Int.reduceEq]
      refine ⟨⟨by omega, by omega⟩, by omega, ⟨by omega, by omega⟩, fun h => ⟨h, by omega, by omega⟩, fun h => ⟨h, by omega⟩, fun h => ⟨h, by omega, by omega⟩, fun h => ⟨h, by omega⟩, ?_⟩
      have hb : (!nameB (nthT (nthS ss i) j).1 || !nameB (nthT (nthS ss i) j).2) = !tokOK (nthT (nthS ss i) j) := by unfold tokOK; rw [Bool.not_and]
      rw [hb]
      cases hg : tokOK (nthT (nthS ss i) j) with
      | false =>
        have hb : senOK (nthS ss i) = false := by
          unfold senOK
          rw [tokR.all_f (p := tokOK) hj hg, Bool.and_false]
        simp (disch := (first | assumption | omega | (simp only [List.length_take, List.length_drop, List.length_append, List.length_set, List.length_replicate, List.length_cons, List.length_nil, len_nats, len_ints, len_strs] <;> omega))) only [go_sem, Nat.reduceBEq, Nat.reduceSub, Nat.reduceAdd, Nat.reduceMul, Nat.reduceLT, Nat.reduceLeDiff, Nat.reduceEqDiff, Int.reduceToNat, Int.reduceAdd, Int.reduceSub, Int.reduceMul, Int.reduceLT, Int.reduceLE, Int.reduceEq]
        unfold senB
        rw [sentR.all_f (p := senOK) hi hb, Bool.and_false]
      | true =>
        simp (disch := (first | assumption | omega | (simp only [List.length_take, List.length_drop, List.length_append, List.length_set, List.length_replicate, List.length_cons, List.length_nil, len_nats, len_ints, len_strs] <;> omega))) only [go_sem, Nat.reduceBEq, Nat.reduceSub, Nat.reduceAdd, Nat.reduceMul, Nat.reduceLT, Nat.reduceLeDiff, Nat.reduceEqDiff, Int.reduceToNat, Int.reduceAdd, Int.reduceSub, Int.reduceMul, Int.reduceLT, Int.reduceLE, Int.reduceEq]
        refine loopK_norm (j + 1) ⟨by omega, fun k hk => ?_⟩ (by omega) (Sub.of0 [] rfl rfl ?_ ?_)
        · by_cases hkj : k < j
          · exact h6 k hkj
          · obtain rfl : k = j := by omega
            exact hg
        · simp only [go_sem, Nat.reduceBEq, Nat.reduceSub, Nat.reduceAdd, Nat.reduceMul, Nat.reduceLT, Nat.reduceLeDiff, Nat.reduceEqDiff, Int.reduceToNat, Int.reduceAdd, Int.reduceSub, Int.reduceMul, Int.reduceLT, Int.reduceLE, Int.reduceEq]
          simp
        · simp only [go_sem, Nat.reduceBEq, Nat.reduceSub, Nat.reduceAdd, Nat.reduceMul, Nat.reduceLT, Nat.reduceLeDiff, Nat.reduceEqDiff, Int.reduceToNat, Int.reduceAdd, Int.reduceSub, Int.reduceMul, Int.reduceLT, Int.reduceLE, Int.reduceEq]
    · have hj : j = (nthS ss i).length := by omega
      subst hj
      simp only [go_sem, Nat.reduceBEq, Nat.reduceSub, Nat.reduceAdd, Nat.reduceMul, Nat.reduceLT, Nat.reduceLeDiff, Nat.reduceEqDiff, Int.reduceToNat, Int.reduceAdd, Int.reduceSub, Int.reduceMul, Int.reduceLT, Int.reduceLE, Int.reduceEq]
      refine AXa.go mixed (extΓ_ok cRName_ok noΓ_ok) (noΔ_ok) (by kernel_rfl) ?_
      simp (disch := (first | assumption | omega | (simp only [List.length_take, List.length_drop, List.length_append, List.length_set, List.length_replicate, List.length_cons, List.length_nil, len_nats, len_ints, len_strs] <;> omega))) only [go_sem, Nat.reduceBEq, Nat.reduceSub, Nat.reduceAdd, Nat.reduceMul, Nat.reduceLT, Nat.reduceLeDiff, Nat.reduceEqDiff, Int.reduceToNat, Int.reduceAdd, Int.reduceSub, Int.reduceMul, Int.reduceLT, Int.reduceLE, Int.reduceEq]
      refine loopK_norm (i + 1) ⟨by omega, fun k hk => ?_⟩ (by omega) (Sub.of0 [] rfl rfl ?_ ?_)
      · by_cases hki : k < i
        · exact h2 k hki
        · obtain rfl : k = i := by omega
          unfold senOK
          rw [decide_eq_true h4', tokR.all_t (p := tokOK) fun m hm => h6 m hm]; rfl
      · simp only [go_sem, Nat.reduceBEq, Nat.reduceSub, Nat.reduceAdd, Nat.reduceMul, Nat.reduceLT, Nat.reduceLeDiff, Nat.reduceEqDiff, Int.reduceToNat, Int.reduceAdd, Int.reduceSub, Int.reduceMul, Int.reduceLT, Int.reduceLE, Int.reduceEq]
        simp
      · simp only [go_sem, Nat.reduceBEq, Nat.reduceSub, Nat.reduceAdd, Nat.reduceMul, Nat.reduceLT, Nat.reduceLeDiff, Nat.reduceEqDiff, Int.reduceToNat, Int.reduceAdd, Int.reduceSub, Int.reduceMul, Int.reduceLT, Int.reduceLE, Int.reduceEq]
  · have hi : i = ss.length := by omega
    subst hi
    simp only [go_sem, Nat.reduceBEq, Nat.reduceSub, Nat.reduceAdd, Nat.reduceMul, Nat.reduceLT, Nat.reduceLeDiff, Nat.reduceEqDiff, Int.reduceToNat, Int.reduceAdd, Int.reduceSub, Int.reduceMul, Int.reduceLT, Int.reduceLE, Int.reduceEq]
    refine AXa.go mixed (extΓ_ok cRName_ok noΓ_ok) (noΔ_ok) (by kernel_rfl) ?_
    simp (disch := (first | assumption | omega | (simp only [List.length_take, List.length_drop, List.length_append, List.length_set, List.length_replicate, List.length_cons, List.length_nil, len_nats, len_ints, len_strs] <;> omega))) only [go_sem, Nat.reduceBEq, Nat.reduceSub, Nat.reduceAdd, Nat.reduceMul, Nat.reduceLT, Nat.reduceLeDiff, Nat.reduceEqDiff, Int.reduceToNat, Int.reduceAdd, Int.reduceSub, Int.reduceMul, Int.reduceLT, Int.reduceLE, Int.reduceEq]
    unfold senB
    rw [decide_eq_true h0', sentR.all_t (p := senOK) fun m hm => h2 m hm]; rfl
noncomputable def cRSent : List V → Option PR := conOf (fun ss : List (List Tok) => [.fs (sents ss) ss.length]) (fun _ => True) fun ss => .ret (.bool (senB ss))
theorem cRSent_eq (ss : List (List Tok)) : cRSent [.fs (sents ss) ss.length] = some (.ret (.bool (senB ss))) := conOf_eq (pat := fun ss : List (List Tok) => [.fs (sents ss) ss.length]) (fun x y h => by simp only [List.cons.injEq, V.fs.injEq, and_true] at h; exact sents_inj h.1) ss trivial
theorem cRSent_ok : ∀ args r, cRSent args = some r → PCall Tryz.prog 24 args r := conOf_ok fun ss _ => rsent_ok ss
attribute [go_sem] cRSent_eq
def slV (b : Nat) (l : List Ent) : V := match l with | [] => .nilS | _ => .sl b 0 l.length 3 none
def blkL (b : Nat) (l : List Ent) (bs : List (Nat × Blk)) : List (Nat × Blk) := match l with | [] => bs | _ => (b, .cells (cnts l)) :: bs
theorem slV_nil (b : Nat) : slV b [] = .nilS := rfl
theorem blkL_nil (b : Nat) (bs : List (Nat × Blk)) : blkL b [] bs = bs := rfl
theorem slV_cons (b : Nat) (e : Ent) (l : List Ent) : slV b (e :: l) = .sl b 0 (l.length + 1) 3 none := rfl
theorem blkL_cons (b : Nat) (e : Ent) (l : List Ent) (bs : List (Nat × Blk)) : blkL b (e :: l) bs = (b, .cells (cnts (e :: l))) :: bs := rfl
theorem slV_ne (b : Nat) {l : List Ent} (h : l ≠ []) : slV b l = .sl b 0 l.length 3 none := by cases l with | nil => exact absurd rfl h | cons e l => rfl
theorem blkL_ne (b : Nat) {l : List Ent} (h : l ≠ []) (bs : List (Nat × Blk)) : blkL b l bs = (b, .cells (cnts l)) :: bs := by cases l with | nil => exact absurd rfl h | cons e l => rfl
theorem ins_ne (l : List Ent) (x : Ent) : ins l x ≠ [] := by
  cases l with
  | nil => simp [ins]
  | cons e l => rw [ins]; split; · simp
                split <;> simp
def insN2 (ss : List (List Tok)) (i j : Nat) : List Ent := (evI ss i j).foldl ins []
def insE2 (ss : List (List Tok)) (i j : Nat) : List Ent := (emI ss i j).foldl ins []
def insK (p : List Ent × List Ent) : Hp := ⟨blkL 3 p.2 (blkL 2 p.1 [(1, .cells [slV 2 p.1, slV 3 p.2]), (0, .cells [.nilS, .nilS])]), 4⟩
theorem insN2_zero (ss : List (List Tok)) : insN2 ss 0 0 = [] := by unfold insN2; rw [evI_zero]; rfl
theorem insE2_zero (ss : List (List Tok)) : insE2 ss 0 0 = [] := by unfold insE2; rw [emI_zero]; rfl
theorem sub_insK {C : Cfg} (h0 : C.nx = 0) (p : List Ent × List Ent) {env env' : Env} (he : subE (piL []) (· < 4) env env') : Sub C ⟨env, insK p⟩ ⟨env', insK p⟩ := by
  obtain ⟨N, E⟩ := p
  by_cases n0 : N = [] <;> by_cases z0 : E = []
  · simp only [insK, n0, z0, slV_nil, blkL_nil]; refine Sub.of0 [] h0 rfl he ?_
    simp only [go_sem, Nat.reduceBEq, Nat.reduceSub, Nat.reduceAdd, Nat.reduceMul, Nat.reduceLT, Nat.reduceLeDiff, Nat.reduceEqDiff, Int.reduceToNat, Int.reduceAdd, Int.reduceSub, Int.reduceMul, Int.reduceLT, Int.reduceLE, Int.reduceEq]
  · simp only [insK, n0, slV_nil, slV_ne 3 z0, blkL_nil, blkL_ne 3 z0]; refine Sub.of0 [] h0 rfl he ?_
    simp only [go_sem, Nat.reduceBEq, Nat.reduceSub, Nat.reduceAdd, Nat.reduceMul, Nat.reduceLT, Nat.reduceLeDiff, Nat.reduceEqDiff, Int.reduceToNat, Int.reduceAdd, Int.reduceSub, Int.reduceMul, Int.reduceLT, Int.reduceLE, Int.reduceEq]
  · simp only [insK, z0, slV_nil, slV_ne 2 n0, blkL_nil, blkL_ne 2 n0]; refine Sub.of0 [] h0 rfl he ?_
    simp only [go_sem, Nat.reduceBEq, Nat.reduceSub, Nat.reduceAdd, Nat.reduceMul, Nat.reduceLT, Nat.reduceLeDiff, Nat.reduceEqDiff, Int.reduceToNat, Int.reduceAdd, Int.reduceSub, Int.reduceMul, Int.reduceLT, Int.reduceLE, Int.reduceEq]
  · simp only [insK, slV_ne 2 n0, slV_ne 3 z0, blkL_ne 2 n0, blkL_ne 3 z0]; refine Sub.of0 [] h0 rfl he ?_
    simp only [go_sem, Nat.reduceBEq, Nat.reduceSub, Nat.reduceAdd, Nat.reduceMul, Nat.reduceLT, Nat.reduceLeDiff, Nat.reduceEqDiff, Int.reduceToNat, Int.reduceAdd, Int.reduceSub, Int.reduceMul, Int.reduceLT, Int.reduceLE, Int.reduceEq]
theorem ins_nil (x : Ent) : ins [] x = [x] := rfl
theorem insN2_step (ss : List (List Tok)) (i j : Nat) (h : j < (nthS ss i).length) : insN2 ss i (j + 1) = ins (insN2 ss i j) ((lastT [] ((nthS ss i).take j), (nthT (nthS ss i) j).2), 1) := by unfold insN2; rw [evI_step ss i j h, foldl_snoc]
theorem insN2_end (ss : List (List Tok)) (i : Nat) (h : i < ss.length) : insN2 ss (i + 1) 0 = ins (insN2 ss i (nthS ss i).length) ((lastT [] (nthS ss i), []), 1) := by unfold insN2; rw [evI_end ss i h, foldl_snoc]
theorem insE2_step (ss : List (List Tok)) (i j : Nat) (h : j < (nthS ss i).length) : insE2 ss i (j + 1) = ins (insE2 ss i j) (((nthT (nthS ss i) j).2, (nthT (nthS ss i) j).1), 1) := by unfold insE2; rw [emI_step ss i j h, foldl_snoc]
theorem insE2_end (ss : List (List Tok)) (i : Nat) (h : i < ss.length) : insE2 ss (i + 1) 0 = insE2 ss i (nthS ss i).length := by unfold insE2; rw [emI_end ss i h]
theorem nameB_short {s : Str} (h : nameB s = true) : s.length ≤ 1000000 := by
  unfold nameB at h
  simp only [Bool.and_eq_true, decide_eq_true_eq] at h
  omega
def shortS (s : List Tok) : Prop := ∀ t ∈ s, nameB t.1 = true ∧ nameB t.2 = true
theorem lastT_short : ∀ (s : List Tok) (p : Str), p.length ≤ 1000000 → shortS s → (lastT p s).length ≤ 1000000
  | [], _, h, _ => h
  | t :: s, p, h, hs => lastT_short s t.2 (nameB_short (hs t (List.mem_cons_self ..)).2) fun x hx => hs x (List.mem_cons_of_mem _ hx)
theorem evN_short : ∀ (s : List Tok) (p : Str), p.length ≤ 1000000 → shortS s → shortL (evN p s)
  | [], _, _, _, _, h => by cases h
  | t :: s, p, h, hs, e, he => by
    have ht := nameB_short (hs t (List.mem_cons_self ..)).2
    rcases List.mem_cons.1 he with rfl | he
    · exact ⟨h, ht⟩
    · exact evN_short s t.2 ht (fun x hx => hs x (List.mem_cons_of_mem _ hx)) e he
theorem senOK_short {s : List Tok} (h : senOK s = true) : shortS s := (senOK_iff h).2
theorem shortS_take {s : List Tok} (h : shortS s) (j : Nat) : shortS (s.take j) := fun t ht => h t (List.mem_of_mem_take ht)
theorem nextA_short {ss : List (List Tok)} (h : ∀ s ∈ ss, senOK s = true) : shortL (nextA ss) := fun e he => by
  obtain ⟨s, hs, he⟩ := List.mem_flatMap.1 he
  have := senOK_short (h s hs)
  rcases List.mem_append.1 he with he | he
  · exact evN_short s [] (by simp) this e he
  · simp only [List.mem_cons, List.not_mem_nil, or_false] at he
    subst he
    exact ⟨lastT_short s [] (by simp) this, by simp⟩
theorem emS_short {s : List Tok} (h : shortS s) : shortL (emS s) := fun e he => by
  obtain ⟨t, ht, rfl⟩ := List.mem_map.1 he
  exact ⟨nameB_short (h t ht).2, nameB_short (h t ht).1⟩
theorem emA_short {ss : List (List Tok)} (h : ∀ s ∈ ss, senOK s = true) : shortL (emA ss) := fun e he => by
  obtain ⟨s, hs, he⟩ := List.mem_flatMap.1 he
  exact emS_short (senOK_short (h s hs)) e he
theorem addOK_of {l : List Ent} {x : Ent} (o : Ones l) (s : shortL l) (n : l.length ≤ 200000) (hx : shortK x.1) (h1 : x.2 = 1) : AddOK (l.foldl ins []) x := by
  have p := fold_perm l (l := []) (m := []) .nil .nil (.refl _)
  have hl : (l.foldl ins []).length ≤ 200000 := by rw [p.1.length_eq]; have := fold_upd_len l []; simp at this; omega
  refine ⟨by omega, p.2.1, ?_, hx, fun e he => ?_, by omega⟩
  · exact mem_fold_ins (p := shortK) l (fun e he => by cases he) s
  · have := mem_foldN (lo := 0) (hi := 1000000000) (l := []) .nil he fun k => ?_
    · exact this
    · have := o.tot k
      have e : val [] k = 0 := rfl
      rw [e]; omega
theorem add_bnd (ss : List (List Tok)) (i j : Nat) (hn : ss.length ≤ 500) (hi : i < ss.length) (hs : ∀ s ∈ ss, senOK s = true) (hj : j ≤ (nthS ss i).length) :
    (∀ x : Ent, shortK x.1 → x.2 = 1 → AddOK (insN2 ss i j) x ∧ AddOK (insE2 ss i j) x) := by
  have hn' : ∀ k, k < ss.length → senOK (nthS ss k) = true := fun k hk => hs _ (sentR.nth_mem hk)
  have h2 := (senOK_iff (hn' i hi)).1
  obtain ⟨k1, k2⟩ := ev_len ss i (by omega) fun k hk => (senOK_iff (hn' k (by omega))).1
  have h3 : (evN [] ((nthS ss i).take j)).length ≤ j := by rw [evN_len]; simp; omega
  have h4 : (emS ((nthS ss i).take j)).length ≤ j := by simp [emS]; omega
  have sh := shortS_take (senOK_short (hn' i hi)) j
  have st : ∀ s ∈ ss.take i, senOK s = true := fun s h => hs s (List.mem_of_mem_take h)
  intro x hx h1
  refine ⟨addOK_of (fun e he => ?_) (fun e he => ?_) (by unfold evI; rw [List.length_append]; omega) hx h1, addOK_of (fun e he => ?_) (fun e he => ?_) (by unfold emI; rw [List.length_append]; omega) hx h1⟩
  · rcases List.mem_append.1 he with he | he
    · exact nextA_ones _ e he
    · exact evN_ones _ _ e he
  · rcases List.mem_append.1 he with he | he
    · exact nextA_short st e he
    · exact evN_short _ [] (by simp) sh e he
  · rcases List.mem_append.1 he with he | he
    · exact emA_ones _ e he
    · obtain ⟨t, _, rfl⟩ := List.mem_map.1 he; rfl
  · rcases List.mem_append.1 he with he | he
    · exact emA_short st e he
    · exact emS_short sh e he
theorem three (N : List Ent) (k : Key) : N = [] ∨ (N ≠ [] ∧ has N k = true) ∨ (N ≠ [] ∧ has N k = false) := by
  by_cases h : N = []
  · exact .inl h
  · cases e : has N k with
    | true => exact .inr (.inl ⟨h, rfl⟩)
    | false => exact .inr (.inr ⟨h, rfl⟩)
set_option maxHeartbeats 8000000 in
set_option maxRecDepth 100000 in
theorem rcount_ok (ss : List (List Tok)) : PCall Tryz.prog 9 [.fs (sents ss) ss.length] (cntV (resC ss)) := by
  unfold cntV
  refine PCall.walk (rs := [.cell 2 27, .tmp 3]) [0, 2, 3, 4, 5, 6, 7, 10, 15, 24, 85] [] mixed (extΓ_ok cRSent_ok noΓ_ok) (Δq_ok) call9 Tryz.func9 rfl Tryz.ntmps9 rfl (by kernel_rfl) (by simp) (by simp [pure_bool, pure_int, pure_str, pure_fs, pure_fp, pure_fn, pure_agg, pure_tup, pure_nilS, pure_nilP, pure_natsP, pure_intsP, pure_strsP, pure_list, pure_cntsP, pure_sentsP]) ?_
  simp (disch := (first | assumption | omega | (simp only [List.length_take, List.length_drop, List.length_append, List.length_set, List.length_replicate, List.length_cons, List.length_nil, len_nats, len_ints, len_strs] <;> omega))) only [go_sem, Nat.reduceBEq, Nat.reduceSub, Nat.reduceAdd, Nat.reduceMul, Nat.reduceLT, Nat.reduceLeDiff, Nat.reduceEqDiff, Int.reduceToNat, Int.reduceAdd, Int.reduceSub, Int.reduceMul, Int.reduceLT, Int.reduceLE, Int.reduceEq]
  cases hB : senB ss with
  | false =>
    have hr : resC ss = ([], [], 1) := by unfold resC; rw [hB]; rfl
    rw [hr]
    simp (disch := (first | assumption | omega | (simp only [List.length_take, List.length_drop, List.length_append, List.length_set, List.length_replicate, List.length_cons, List.length_nil, len_nats, len_ints, len_strs] <;> omega))) only [go_sem, cnts_nil, Nat.reduceBEq, Nat.reduceSub, Nat.reduceAdd, Nat.reduceMul, Nat.reduceLT, Nat.reduceLeDiff, Nat.reduceEqDiff, Int.reduceToNat, Int.reduceAdd, Int.reduceSub, Int.reduceMul, Int.reduceLT, Int.reduceLE, Int.reduceEq]
  | true =>
  have hB' : ss.length ≤ 500 ∧ ∀ s ∈ ss, senOK s = true := by
    unfold senB at hB
    simp only [Bool.and_eq_true, decide_eq_true_eq] at hB
    exact ⟨hB.1, List.all_eq_true.1 hB.2⟩
  simp (disch := (first | assumption | omega | (simp only [List.length_take, List.length_drop, List.length_append, List.length_set, List.length_replicate, List.length_cons, List.length_nil, len_nats, len_ints, len_strs] <;> omega))) only [go_sem, Nat.reduceBEq, Nat.reduceSub, Nat.reduceAdd, Nat.reduceMul, Nat.reduceLT, Nat.reduceLeDiff, Nat.reduceEqDiff, Int.reduceToNat, Int.reduceAdd, Int.reduceSub, Int.reduceMul, Int.reduceLT, Int.reduceLE, Int.reduceEq]
  refine AXs.loop mixed (extΓ_ok cRSent_ok noΓ_ok) ( Δq_ok) (fun i : Nat => [(0, .fs (sents ss) ss.length), (2, .ptr 0 0), (4, .ptr 1 0), (5, .int .i64 i)])
    (fun i => insK (insN2 ss i 0, insE2 ss i 0)) (fun i => i ≤ ss.length) (fun i => ss.length - i) 0 (by kernel_rfl) (Nat.zero_le _) (Sub.of0 [] rfl rfl ?_ ?_) ?_
  · simp only [go_sem, Nat.reduceBEq, Nat.reduceSub, Nat.reduceAdd, Nat.reduceMul, Nat.reduceLT, Nat.reduceLeDiff, Nat.reduceEqDiff, Int.reduceToNat, Int.reduceAdd, Int.reduceSub, Int.reduceMul, Int.reduceLT, Int.reduceLE, Int.reduceEq]
  · simp only [go_sem, insK, insN2_zero, insE2_zero, slV_nil, blkL_nil, Nat.reduceBEq, Nat.reduceSub, Nat.reduceAdd, Nat.reduceMul, Nat.reduceLT, Nat.reduceLeDiff, Nat.reduceEqDiff, Int.reduceToNat, Int.reduceAdd, Int.reduceSub, Int.reduceMul, Int.reduceLT, Int.reduceLE, Int.reduceEq]
  intro i h1
  simp only [go_sem, Nat.reduceBEq, Nat.reduceSub, Nat.reduceAdd, Nat.reduceMul, Nat.reduceLT, Nat.reduceLeDiff, Nat.reduceEqDiff, Int.reduceToNat, Int.reduceAdd, Int.reduceSub, Int.reduceMul, Int.reduceLT, Int.reduceLE, Int.reduceEq]
  refine AXc.introP (fun h3 => ?_) (fun h3 => ?_)
  · have hi : i < ss.length := by omega
    have at1 := sents_at ss i hi
    simp (disch := (first | assumption | omega | (simp only [List.length_take, List.length_drop, List.length_append, List.length_set, List.length_replicate, List.length_cons, List.length_nil, len_nats, len_ints, len_strs] <;> omega))) only [go_sem, Nat.reduceBEq, Nat.reduceSub, Nat.reduceAdd, Nat.reduceMul, Nat.reduceLT, Nat.reduceLeDiff, Nat.reduceEqDiff, Int.reduceToNat, Int.reduceAdd, Int.reduceSub, Int.reduceMul, Int.reduceLT, Int.reduceLE, Int.reduceEq]
    refine AXs.loop mixed (extΓ_ok cRSent_ok noΓ_ok) ( Δq_ok) (fun j : Nat => [(0, .fs (sents ss) ss.length), (2, .ptr 0 0), (4, .ptr 1 0), (5, .int .i64 i), (6, .str (lastT [] ((nthS ss i).take j))), (7, .int .i64 j)])
      (fun j => insK (insN2 ss i j, insE2 ss i j)) (fun j => j ≤ (nthS ss i).length) (fun j => (nthS ss i).length - j) 0 (by kernel_rfl) (Nat.zero_le _) (sub_insK rfl (insN2 ss i 0, insE2 ss i 0) ?_) ?_
    · simp only [go_sem, Nat.reduceBEq, Nat.reduceSub, Nat.reduceAdd, Nat.reduceMul, Nat.reduceLT, Nat.reduceLeDiff, Nat.reduceEqDiff, Int.reduceToNat, Int.reduceAdd, Int.reduceSub, Int.reduceMul, Int.reduceLT, Int.reduceLE, Int.reduceEq]
      rfl
    intro j h5
    simp (disch := (first | assumption | omega | (simp only [List.length_take, List.length_drop, List.length_append, List.length_set, List.length_replicate, List.length_cons, List.length_nil, len_nats, len_ints, len_strs] <;> omega))) only [go_sem, at1, Nat.reduceBEq, Nat.reduceSub, Nat.reduceAdd, Nat.reduceMul, Nat.reduceLT, Nat.reduceLeDiff, Nat.reduceEqDiff, Int.reduceToNat, Int.reduceAdd, Int.reduceSub, Int.reduceMul, Int.reduceLT, Int.reduceLE, Int.reduceEq]
    refine ⟨⟨by omega, by omega⟩, by omega, ?_⟩
    refine AXc.introP (fun h7 => ?_) (fun h7 => ?_)
    · have hj : j < (nthS ss i).length := by omega
      have at2 := toks_at (nthS ss i) j hj
      have hs1 := insN2_step ss i j hj
      have hs2 := insE2_step ss i j hj
      have hlt := lastT_step (nthS ss i) j hj
      have sh := senOK_short (hB'.2 _ (sentR.nth_mem hi))
      have sk := sh _ (tokR.nth_mem hj)
      have hw := (senOK_iff (hB'.2 _ (sentR.nth_mem hi))).1
      have hw' : (nthS ss i).length ≤ 200 := hw
      have hn5 := hB'.1
      have ls := lastT_short ((nthS ss i).take j) [] (by simp) (shortS_take sh j)
      obtain ⟨ad1, _⟩ := add_bnd ss i j hB'.1 hi hB'.2 h5 ((lastT [] ((nthS ss i).take j), (nthT (nthS ss i) j).2), 1) ⟨ls, nameB_short sk.2⟩ rfl
      obtain ⟨_, ad2⟩ := add_bnd ss i j hB'.1 hi hB'.2 h5 (((nthT (nthS ss i) j).2, (nthT (nthS ss i) j).1), 1) ⟨nameB_short sk.2, nameB_short sk.1⟩ rfl
      have fin : ∀ {s : St} {C : Cfg} {K : Out → St → Prop}, Sub C s ⟨[(0, .fs (sents ss) ss.length), (2, .ptr 0 0), (4, .ptr 1 0), (5, .int .i64 i), (6, .str (nthT (nthS ss i) j).2), (7, .int .i64 (j + 1))], insK (insN2 ss i (j + 1), insE2 ss i (j + 1))⟩ →
          LoopK C Nat (fun j : Nat => ⟨[(0, .fs (sents ss) ss.length), (2, .ptr 0 0), (4, .ptr 1 0), (5, .int .i64 i), (6, .str (lastT [] ((nthS ss i).take j))), (7, .int .i64 j)], insK (insN2 ss i j, insE2 ss i j)⟩) (fun j => j ≤ (nthS ss i).length) (fun j => (nthS ss i).length - j) j K .norm s :=
        fun hs => loopK_norm (j + 1) (by omega) (by omega) (by rw [hlt]; exact hs)
      rw [hs1, hs2] at fin
      generalize insN2 ss i j = N at ad1 fin ⊢
      generalize insE2 ss i j = E at ad2 fin ⊢
      clear hs1 hs2 hlt sh sk ls
      rcases three N (lastT [] ((nthS ss i).take j), (nthT (nthS ss i) j).2) with n0 | ⟨n0, nh⟩ | ⟨n0, nh⟩ <;> rcases three E ((nthT (nthS ss i) j).2, (nthT (nthS ss i) j).1) with z0 | ⟨z0, zh⟩ | ⟨z0, zh⟩
      · -- nil nil
        subst n0
        subst z0
        simp (config := { maxSteps := 2000000 }) (disch := (first | assumption | omega | (with_unfolding_all exact id rfl) | (simp only [List.length_take, List.length_drop, List.length_append, List.length_set, List.length_replicate, List.length_cons, List.length_nil, len_nats, len_ints, len_strs] <;> omega))) only [go_sem, at1, at2, insK, slV_nil, blkL_nil, slV_nil, blkL_nil, Δq_has, Δq_new, Δq_nil, Nat.reduceBEq, Nat.reduceSub, Nat.reduceAdd, Nat.reduceMul, Nat.reduceLT, Nat.reduceLeDiff, Nat.reduceEqDiff, Int.reduceToNat, Int.reduceAdd, Int.reduceSub, Int.reduceMul, Int.reduceLT, Int.reduceLE, Int.reduceEq]
        refine ⟨⟨by omega, by omega⟩, by omega, ⟨by omega, by omega⟩, by omega, AXk.intro (by kernel_rfl) ?_⟩
        simp (config := { maxSteps := 2000000 }) (disch := (first | assumption | omega | (with_unfolding_all exact id rfl) | (simp only [List.length_take, List.length_drop, List.length_append, List.length_set, List.length_replicate, List.length_cons, List.length_nil, len_nats, len_ints, len_strs] <;> omega))) only [go_sem, at1, at2, slV_nil, blkL_nil, Δq_has, Δq_new, Δq_nil, Nat.reduceBEq, Nat.reduceSub, Nat.reduceAdd, Nat.reduceMul, Nat.reduceLT, Nat.reduceLeDiff, Nat.reduceEqDiff, Int.reduceToNat, Int.reduceAdd, Int.reduceSub, Int.reduceMul, Int.reduceLT, Int.reduceLE, Int.reduceEq]
        (repeat refine And.intro (by first | omega | exact ⟨by omega, by omega⟩ | kernel_rfl | rfl | assumption | (intro h; exact ⟨h, by omega, by omega⟩) | (intro h; exact ⟨h, by omega⟩)) ?_)
        simp (config := { maxSteps := 2000000 }) (disch := (first | assumption | omega | (with_unfolding_all exact id rfl) | (simp only [List.length_take, List.length_drop, List.length_append, List.length_set, List.length_replicate, List.length_cons, List.length_nil, len_nats, len_ints, len_strs] <;> omega))) only [go_sem, at1, at2, Nat.reduceBEq, Nat.reduceSub, Nat.reduceAdd, Nat.reduceMul, Nat.reduceLT, Nat.reduceLeDiff, Nat.reduceEqDiff, Int.reduceToNat, Int.reduceAdd, Int.reduceSub, Int.reduceMul, Int.reduceLT, Int.reduceLE, Int.reduceEq]
        (repeat refine And.intro (by first | omega | exact ⟨by omega, by omega⟩ | kernel_rfl | rfl | assumption | (intro h; exact ⟨h, by omega, by omega⟩) | (intro h; exact ⟨h, by omega⟩)) ?_)
        refine fin ?_
        simp only [insK, slV_ne 2 (ins_ne _ _), slV_ne 3 (ins_ne _ _), blkL_ne 2 (ins_ne _ _), blkL_ne 3 (ins_ne _ _), ins_nil, slV_cons, blkL_cons]
        refine Sub.of0 [(2, 4), (3, 5)] rfl rfl ?_ ?_
        · simp (disch := (first | assumption | omega | (simp only [List.length_take, List.length_drop, List.length_append, List.length_set, List.length_replicate, List.length_cons, List.length_nil, len_nats, len_ints, len_strs] <;> omega))) only [go_sem, Nat.reduceBEq, Nat.reduceSub, Nat.reduceAdd, Nat.reduceMul, Nat.reduceLT, Nat.reduceLeDiff, Nat.reduceEqDiff, Int.reduceToNat, Int.reduceAdd, Int.reduceSub, Int.reduceMul, Int.reduceLT, Int.reduceLE, Int.reduceEq]
        · simp only [go_sem, cnts_cons, cnts_nil, Nat.reduceBEq, Nat.reduceSub, Nat.reduceAdd, Nat.reduceMul, Nat.reduceLT, Nat.reduceLeDiff, Nat.reduceEqDiff, Int.reduceToNat, Int.reduceAdd, Int.reduceSub, Int.reduceMul, Int.reduceLT, Int.reduceLE, Int.reduceEq]
      · -- nil has
        subst n0
        skip
        simp (config := { maxSteps := 2000000 }) (disch := (first | assumption | omega | (with_unfolding_all exact id rfl) | (simp only [List.length_take, List.length_drop, List.length_append, List.length_set, List.length_replicate, List.length_cons, List.length_nil, len_nats, len_ints, len_strs] <;> omega))) only [go_sem, at1, at2, insK, slV_nil, blkL_nil, slV_ne 3 z0, blkL_ne 3 z0, Δq_has, Δq_new, Δq_nil, Nat.reduceBEq, Nat.reduceSub, Nat.reduceAdd, Nat.reduceMul, Nat.reduceLT, Nat.reduceLeDiff, Nat.reduceEqDiff, Int.reduceToNat, Int.reduceAdd, Int.reduceSub, Int.reduceMul, Int.reduceLT, Int.reduceLE, Int.reduceEq]
        refine ⟨⟨by omega, by omega⟩, by omega, ⟨by omega, by omega⟩, by omega, AXk.intro (by kernel_rfl) ?_⟩
        simp (config := { maxSteps := 2000000 }) (disch := (first | assumption | omega | (with_unfolding_all exact id rfl) | (simp only [List.length_take, List.length_drop, List.length_append, List.length_set, List.length_replicate, List.length_cons, List.length_nil, len_nats, len_ints, len_strs] <;> omega))) only [go_sem, at1, at2, slV_ne 3 z0, blkL_ne 3 z0, Δq_has, Δq_new, Δq_nil, Nat.reduceBEq, Nat.reduceSub, Nat.reduceAdd, Nat.reduceMul, Nat.reduceLT, Nat.reduceLeDiff, Nat.reduceEqDiff, Int.reduceToNat, Int.reduceAdd, Int.reduceSub, Int.reduceMul, Int.reduceLT, Int.reduceLE, Int.reduceEq]
        (repeat refine And.intro (by first | omega | exact ⟨by omega, by omega⟩ | kernel_rfl | rfl | assumption | (intro h; exact ⟨h, by omega, by omega⟩) | (intro h; exact ⟨h, by omega⟩)) ?_)
        simp (config := { maxSteps := 2000000 }) (disch := (first | assumption | omega | (with_unfolding_all exact id rfl) | (simp only [List.length_take, List.length_drop, List.length_append, List.length_set, List.length_replicate, List.length_cons, List.length_nil, len_nats, len_ints, len_strs] <;> omega))) only [go_sem, at1, at2, Nat.reduceBEq, Nat.reduceSub, Nat.reduceAdd, Nat.reduceMul, Nat.reduceLT, Nat.reduceLeDiff, Nat.reduceEqDiff, Int.reduceToNat, Int.reduceAdd, Int.reduceSub, Int.reduceMul, Int.reduceLT, Int.reduceLE, Int.reduceEq]
        (repeat refine And.intro (by first | omega | exact ⟨by omega, by omega⟩ | kernel_rfl | rfl | assumption | (intro h; exact ⟨h, by omega, by omega⟩) | (intro h; exact ⟨h, by omega⟩)) ?_)
        refine fin ?_
        simp only [insK, slV_ne 2 (ins_ne _ _), slV_ne 3 (ins_ne _ _), blkL_ne 2 (ins_ne _ _), blkL_ne 3 (ins_ne _ _), ins_nil, slV_cons, blkL_cons]
        refine Sub.of0 [(2, 4)] rfl rfl ?_ ?_
        · simp (disch := (first | assumption | omega | (simp only [List.length_take, List.length_drop, List.length_append, List.length_set, List.length_replicate, List.length_cons, List.length_nil, len_nats, len_ints, len_strs] <;> omega))) only [go_sem, Nat.reduceBEq, Nat.reduceSub, Nat.reduceAdd, Nat.reduceMul, Nat.reduceLT, Nat.reduceLeDiff, Nat.reduceEqDiff, Int.reduceToNat, Int.reduceAdd, Int.reduceSub, Int.reduceMul, Int.reduceLT, Int.reduceLE, Int.reduceEq]
        · simp only [go_sem, cnts_cons, cnts_nil, Nat.reduceBEq, Nat.reduceSub, Nat.reduceAdd, Nat.reduceMul, Nat.reduceLT, Nat.reduceLeDiff, Nat.reduceEqDiff, Int.reduceToNat, Int.reduceAdd, Int.reduceSub, Int.reduceMul, Int.reduceLT, Int.reduceLE, Int.reduceEq]
      · -- nil new
        subst n0
        skip
        simp (config := { maxSteps := 2000000 }) (disch := (first | assumption | omega | (with_unfolding_all exact id rfl) | (simp only [List.length_take, List.length_drop, List.length_append, List.length_set, List.length_replicate, List.length_cons, List.length_nil, len_nats, len_ints, len_strs] <;> omega))) only [go_sem, at1, at2, insK, slV_nil, blkL_nil, slV_ne 3 z0, blkL_ne 3 z0, Δq_has, Δq_new, Δq_nil, Nat.reduceBEq, Nat.reduceSub, Nat.reduceAdd, Nat.reduceMul, Nat.reduceLT, Nat.reduceLeDiff, Nat.reduceEqDiff, Int.reduceToNat, Int.reduceAdd, Int.reduceSub, Int.reduceMul, Int.reduceLT, Int.reduceLE, Int.reduceEq]
        refine ⟨⟨by omega, by omega⟩, by omega, ⟨by omega, by omega⟩, by omega, AXk.intro (by kernel_rfl) ?_⟩
        simp (config := { maxSteps := 2000000 }) (disch := (first | assumption | omega | (with_unfolding_all exact id rfl) | (simp only [List.length_take, List.length_drop, List.length_append, List.length_set, List.length_replicate, List.length_cons, List.length_nil, len_nats, len_ints, len_strs] <;> omega))) only [go_sem, at1, at2, slV_ne 3 z0, blkL_ne 3 z0, Δq_has, Δq_new, Δq_nil, Nat.reduceBEq, Nat.reduceSub, Nat.reduceAdd, Nat.reduceMul, Nat.reduceLT, Nat.reduceLeDiff, Nat.reduceEqDiff, Int.reduceToNat, Int.reduceAdd, Int.reduceSub, Int.reduceMul, Int.reduceLT, Int.reduceLE, Int.reduceEq]
        (repeat refine And.intro (by first | omega | exact ⟨by omega, by omega⟩ | kernel_rfl | rfl | assumption | (intro h; exact ⟨h, by omega, by omega⟩) | (intro h; exact ⟨h, by omega⟩)) ?_)
        simp (config := { maxSteps := 2000000 }) (disch := (first | assumption | omega | (with_unfolding_all exact id rfl) | (simp only [List.length_take, List.length_drop, List.length_append, List.length_set, List.length_replicate, List.length_cons, List.length_nil, len_nats, len_ints, len_strs] <;> omega))) only [go_sem, at1, at2, Nat.reduceBEq, Nat.reduceSub, Nat.reduceAdd, Nat.reduceMul, Nat.reduceLT, Nat.reduceLeDiff, Nat.reduceEqDiff, Int.reduceToNat, Int.reduceAdd, Int.reduceSub, Int.reduceMul, Int.reduceLT, Int.reduceLE, Int.reduceEq]
        (repeat refine And.intro (by first | omega | exact ⟨by omega, by omega⟩ | kernel_rfl | rfl | assumption | (intro h; exact ⟨h, by omega, by omega⟩) | (intro h; exact ⟨h, by omega⟩)) ?_)
        refine fin ?_
        simp only [insK, slV_ne 2 (ins_ne _ _), slV_ne 3 (ins_ne _ _), blkL_ne 2 (ins_ne _ _), blkL_ne 3 (ins_ne _ _), ins_nil, slV_cons, blkL_cons]
        refine Sub.of0 [(2, 4), (3, 5)] rfl rfl ?_ ?_
        · simp (disch := (first | assumption | omega | (simp only [List.length_take, List.length_drop, List.length_append, List.length_set, List.length_replicate, List.length_cons, List.length_nil, len_nats, len_ints, len_strs] <;> omega))) only [go_sem, Nat.reduceBEq, Nat.reduceSub, Nat.reduceAdd, Nat.reduceMul, Nat.reduceLT, Nat.reduceLeDiff, Nat.reduceEqDiff, Int.reduceToNat, Int.reduceAdd, Int.reduceSub, Int.reduceMul, Int.reduceLT, Int.reduceLE, Int.reduceEq]
        · simp only [go_sem, cnts_cons, cnts_nil, Nat.reduceBEq, Nat.reduceSub, Nat.reduceAdd, Nat.reduceMul, Nat.reduceLT, Nat.reduceLeDiff, Nat.reduceEqDiff, Int.reduceToNat, Int.reduceAdd, Int.reduceSub, Int.reduceMul, Int.reduceLT, Int.reduceLE, Int.reduceEq]
      · -- has nil
        skip
        subst z0
        simp (config := { maxSteps := 2000000 }) (disch := (first | assumption | omega | (with_unfolding_all exact id rfl) | (simp only [List.length_take, List.length_drop, List.length_append, List.length_set, List.length_replicate, List.length_cons, List.length_nil, len_nats, len_ints, len_strs] <;> omega))) only [go_sem, at1, at2, insK, slV_ne 2 n0, blkL_ne 2 n0, slV_nil, blkL_nil, Δq_has, Δq_new, Δq_nil, Nat.reduceBEq, Nat.reduceSub, Nat.reduceAdd, Nat.reduceMul, Nat.reduceLT, Nat.reduceLeDiff, Nat.reduceEqDiff, Int.reduceToNat, Int.reduceAdd, Int.reduceSub, Int.reduceMul, Int.reduceLT, Int.reduceLE, Int.reduceEq]
        refine ⟨⟨by omega, by omega⟩, by omega, ⟨by omega, by omega⟩, by omega, AXk.intro (by kernel_rfl) ?_⟩
        simp (config := { maxSteps := 2000000 }) (disch := (first | assumption | omega | (with_unfolding_all exact id rfl) | (simp only [List.length_take, List.length_drop, List.length_append, List.length_set, List.length_replicate, List.length_cons, List.length_nil, len_nats, len_ints, len_strs] <;> omega))) only [go_sem, at1, at2, slV_nil, blkL_nil, Δq_has, Δq_new, Δq_nil, Nat.reduceBEq, Nat.reduceSub, Nat.reduceAdd, Nat.reduceMul, Nat.reduceLT, Nat.reduceLeDiff, Nat.reduceEqDiff, Int.reduceToNat, Int.reduceAdd, Int.reduceSub, Int.reduceMul, Int.reduceLT, Int.reduceLE, Int.reduceEq]
        (repeat refine And.intro (by first | omega | exact ⟨by omega, by omega⟩ | kernel_rfl | rfl | assumption | (intro h; exact ⟨h, by omega, by omega⟩) | (intro h; exact ⟨h, by omega⟩)) ?_)
        simp (config := { maxSteps := 2000000 }) (disch := (first | assumption | omega | (with_unfolding_all exact id rfl) | (simp only [List.length_take, List.length_drop, List.length_append, List.length_set, List.length_replicate, List.length_cons, List.length_nil, len_nats, len_ints, len_strs] <;> omega))) only [go_sem, at1, at2, Nat.reduceBEq, Nat.reduceSub, Nat.reduceAdd, Nat.reduceMul, Nat.reduceLT, Nat.reduceLeDiff, Nat.reduceEqDiff, Int.reduceToNat, Int.reduceAdd, Int.reduceSub, Int.reduceMul, Int.reduceLT, Int.reduceLE, Int.reduceEq]
        (repeat refine And.intro (by first | omega | exact ⟨by omega, by omega⟩ | kernel_rfl | rfl | assumption | (intro h; exact ⟨h, by omega, by omega⟩) | (intro h; exact ⟨h, by omega⟩)) ?_)
        refine fin ?_
        simp only [insK, slV_ne 2 (ins_ne _ _), slV_ne 3 (ins_ne _ _), blkL_ne 2 (ins_ne _ _), blkL_ne 3 (ins_ne _ _), ins_nil, slV_cons, blkL_cons]
        refine Sub.of0 [(3, 4)] rfl rfl ?_ ?_
        · simp (disch := (first | assumption | omega | (simp only [List.length_take, List.length_drop, List.length_append, List.length_set, List.length_replicate, List.length_cons, List.length_nil, len_nats, len_ints, len_strs] <;> omega))) only [go_sem, Nat.reduceBEq, Nat.reduceSub, Nat.reduceAdd, Nat.reduceMul, Nat.reduceLT, Nat.reduceLeDiff, Nat.reduceEqDiff, Int.reduceToNat, Int.reduceAdd, Int.reduceSub, Int.reduceMul, Int.reduceLT, Int.reduceLE, Int.reduceEq]
        · simp only [go_sem, cnts_cons, cnts_nil, Nat.reduceBEq, Nat.reduceSub, Nat.reduceAdd, Nat.reduceMul, Nat.reduceLT, Nat.reduceLeDiff, Nat.reduceEqDiff, Int.reduceToNat, Int.reduceAdd, Int.reduceSub, Int.reduceMul, Int.reduceLT, Int.reduceLE, Int.reduceEq]
      · -- has has
        skip
        skip
        simp (config := { maxSteps := 2000000 }) (disch := (first | assumption | omega | (with_unfolding_all exact id rfl) | (simp only [List.length_take, List.length_drop, List.length_append, List.length_set, List.length_replicate, List.length_cons, List.length_nil, len_nats, len_ints, len_strs] <;> omega))) only [go_sem, at1, at2, insK, slV_ne 2 n0, blkL_ne 2 n0, slV_ne 3 z0, blkL_ne 3 z0, Δq_has, Δq_new, Δq_nil, Nat.reduceBEq, Nat.reduceSub, Nat.reduceAdd, Nat.reduceMul, Nat.reduceLT, Nat.reduceLeDiff, Nat.reduceEqDiff, Int.reduceToNat, Int.reduceAdd, Int.reduceSub, Int.reduceMul, Int.reduceLT, Int.reduceLE, Int.reduceEq]
        refine ⟨⟨by omega, by omega⟩, by omega, ⟨by omega, by omega⟩, by omega, AXk.intro (by kernel_rfl) ?_⟩
        simp (config := { maxSteps := 2000000 }) (disch := (first | assumption | omega | (with_unfolding_all exact id rfl) | (simp only [List.length_take, List.length_drop, List.length_append, List.length_set, List.length_replicate, List.length_cons, List.length_nil, len_nats, len_ints, len_strs] <;> omega))) only [go_sem, at1, at2, slV_ne 3 z0, blkL_ne 3 z0, Δq_has, Δq_new, Δq_nil, Nat.reduceBEq, Nat.reduceSub, Nat.reduceAdd, Nat.reduceMul, Nat.reduceLT, Nat.reduceLeDiff, Nat.reduceEqDiff, Int.reduceToNat, Int.reduceAdd, Int.reduceSub, Int.reduceMul, Int.reduceLT, Int.reduceLE, Int.reduceEq]
        (repeat refine And.intro (by first | omega | exact ⟨by omega, by omega⟩ | kernel_rfl | rfl | assumption | (intro h; exact ⟨h, by omega, by omega⟩) | (intro h; exact ⟨h, by omega⟩)) ?_)
        simp (config := { maxSteps := 2000000 }) (disch := (first | assumption | omega | (with_unfolding_all exact id rfl) | (simp only [List.length_take, List.length_drop, List.length_append, List.length_set, List.length_replicate, List.length_cons, List.length_nil, len_nats, len_ints, len_strs] <;> omega))) only [go_sem, at1, at2, Nat.reduceBEq, Nat.reduceSub, Nat.reduceAdd, Nat.reduceMul, Nat.reduceLT, Nat.reduceLeDiff, Nat.reduceEqDiff, Int.reduceToNat, Int.reduceAdd, Int.reduceSub, Int.reduceMul, Int.reduceLT, Int.reduceLE, Int.reduceEq]
        (repeat refine And.intro (by first | omega | exact ⟨by omega, by omega⟩ | kernel_rfl | rfl | assumption | (intro h; exact ⟨h, by omega, by omega⟩) | (intro h; exact ⟨h, by omega⟩)) ?_)
        refine fin ?_
        simp only [insK, slV_ne 2 (ins_ne _ _), slV_ne 3 (ins_ne _ _), blkL_ne 2 (ins_ne _ _), blkL_ne 3 (ins_ne _ _), ins_nil, slV_cons, blkL_cons]
        refine Sub.of0 [] rfl rfl ?_ ?_
        · simp (disch := (first | assumption | omega | (simp only [List.length_take, List.length_drop, List.length_append, List.length_set, List.length_replicate, List.length_cons, List.length_nil, len_nats, len_ints, len_strs] <;> omega))) only [go_sem, Nat.reduceBEq, Nat.reduceSub, Nat.reduceAdd, Nat.reduceMul, Nat.reduceLT, Nat.reduceLeDiff, Nat.reduceEqDiff, Int.reduceToNat, Int.reduceAdd, Int.reduceSub, Int.reduceMul, Int.reduceLT, Int.reduceLE, Int.reduceEq]
        · simp only [go_sem, cnts_cons, cnts_nil, Nat.reduceBEq, Nat.reduceSub, Nat.reduceAdd, Nat.reduceMul, Nat.reduceLT, Nat.reduceLeDiff, Nat.reduceEqDiff, Int.reduceToNat, Int.reduceAdd, Int.reduceSub, Int.reduceMul, Int.reduceLT, Int.reduceLE, Int.reduceEq]
      · -- has new
        skip
        skip
        simp (config := { maxSteps := 2000000 }) (disch := (first | assumption | omega | (with_unfolding_all exact id rfl) | (simp only [List.length_take, List.length_drop, List.length_append, List.length_set, List.length_replicate, List.length_cons, List.length_nil, len_nats, len_ints, len_strs] <;> omega))) only [go_sem, at1, at2, insK, slV_ne 2 n0, blkL_ne 2 n0, slV_ne 3 z0, blkL_ne 3 z0, Δq_has, Δq_new, Δq_nil, Nat.reduceBEq, Nat.reduceSub, Nat.reduceAdd, Nat.reduceMul, Nat.reduceLT, Nat.reduceLeDiff, Nat.reduceEqDiff, Int.reduceToNat, Int.reduceAdd, Int.reduceSub, Int.reduceMul, Int.reduceLT, Int.reduceLE, Int.reduceEq]
        refine ⟨⟨by omega, by omega⟩, by omega, ⟨by omega, by omega⟩, by omega, AXk.intro (by kernel_rfl) ?_⟩
        simp (config := { maxSteps := 2000000 }) (disch := (first | assumption | omega | (with_unfolding_all exact id rfl) | (simp only [List.length_take, List.length_drop, List.length_append, List.length_set, List.length_replicate, List.length_cons, List.length_nil, len_nats, len_ints, len_strs] <;> omega))) only [go_sem, at1, at2, slV_ne 3 z0, blkL_ne 3 z0, Δq_has, Δq_new, Δq_nil, Nat.reduceBEq, Nat.reduceSub, Nat.reduceAdd, Nat.reduceMul, Nat.reduceLT, Nat.reduceLeDiff, Nat.reduceEqDiff, Int.reduceToNat, Int.reduceAdd, Int.reduceSub, Int.reduceMul, Int.reduceLT, Int.reduceLE, Int.reduceEq]
        (repeat refine And.intro (by first | omega | exact ⟨by omega, by omega⟩ | kernel_rfl | rfl | assumption | (intro h; exact ⟨h, by omega, by omega⟩) | (intro h; exact ⟨h, by omega⟩)) ?_)
        simp (config := { maxSteps := 2000000 }) (disch := (first | assumption | omega | (with_unfolding_all exact id rfl) | (simp only [List.length_take, List.length_drop, List.length_append, List.length_set, List.length_replicate, List.length_cons, List.length_nil, len_nats, len_ints, len_strs] <;> omega))) only [go_sem, at1, at2, Nat.reduceBEq, Nat.reduceSub, Nat.reduceAdd, Nat.reduceMul, Nat.reduceLT, Nat.reduceLeDiff, Nat.reduceEqDiff, Int.reduceToNat, Int.reduceAdd, Int.reduceSub, Int.reduceMul, Int.reduceLT, Int.reduceLE, Int.reduceEq]
        (repeat refine And.intro (by first | omega | exact ⟨by omega, by omega⟩ | kernel_rfl | rfl | assumption | (intro h; exact ⟨h, by omega, by omega⟩) | (intro h; exact ⟨h, by omega⟩)) ?_)
        refine fin ?_
        simp only [insK, slV_ne 2 (ins_ne _ _), slV_ne 3 (ins_ne _ _), blkL_ne 2 (ins_ne _ _), blkL_ne 3 (ins_ne _ _), ins_nil, slV_cons, blkL_cons]
        refine Sub.of0 [(3, 4)] rfl rfl ?_ ?_
        · simp (disch := (first | assumption | omega | (simp only [List.length_take, List.length_drop, List.length_append, List.length_set, List.length_replicate, List.length_cons, List.length_nil, len_nats, len_ints, len_strs] <;> omega))) only [go_sem, Nat.reduceBEq, Nat.reduceSub, Nat.reduceAdd, Nat.reduceMul, Nat.reduceLT, Nat.reduceLeDiff, Nat.reduceEqDiff, Int.reduceToNat, Int.reduceAdd, Int.reduceSub, Int.reduceMul, Int.reduceLT, Int.reduceLE, Int.reduceEq]
        · simp only [go_sem, cnts_cons, cnts_nil, Nat.reduceBEq, Nat.reduceSub, Nat.reduceAdd, Nat.reduceMul, Nat.reduceLT, Nat.reduceLeDiff, Nat.reduceEqDiff, Int.reduceToNat, Int.reduceAdd, Int.reduceSub, Int.reduceMul, Int.reduceLT, Int.reduceLE, Int.reduceEq]
      · -- new nil
        skip
        subst z0
        simp (config := { maxSteps := 2000000 }) (disch := (first | assumption | omega | (with_unfolding_all exact id rfl) | (simp only [List.length_take, List.length_drop, List.length_append, List.length_set, List.length_replicate, List.length_cons, List.length_nil, len_nats, len_ints, len_strs] <;> omega))) only [go_sem, at1, at2, insK, slV_ne 2 n0, blkL_ne 2 n0, slV_nil, blkL_nil, Δq_has, Δq_new, Δq_nil, Nat.reduceBEq, Nat.reduceSub, Nat.reduceAdd, Nat.reduceMul, Nat.reduceLT, Nat.reduceLeDiff, Nat.reduceEqDiff, Int.reduceToNat, Int.reduceAdd, Int.reduceSub, Int.reduceMul, Int.reduceLT, Int.reduceLE, Int.reduceEq]
        refine ⟨⟨by omega, by omega⟩, by omega, ⟨by omega, by omega⟩, by omega, AXk.intro (by kernel_rfl) ?_⟩
        simp (config := { maxSteps := 2000000 }) (disch := (first | assumption | omega | (with_unfolding_all exact id rfl) | (simp only [List.length_take, List.length_drop, List.length_append, List.length_set, List.length_replicate, List.length_cons, List.length_nil, len_nats, len_ints, len_strs] <;> omega))) only [go_sem, at1, at2, slV_nil, blkL_nil, Δq_has, Δq_new, Δq_nil, Nat.reduceBEq, Nat.reduceSub, Nat.reduceAdd, Nat.reduceMul, Nat.reduceLT, Nat.reduceLeDiff, Nat.reduceEqDiff, Int.reduceToNat, Int.reduceAdd, Int.reduceSub, Int.reduceMul, Int.reduceLT, Int.reduceLE, Int.reduceEq]
        (repeat refine And.intro (by first | omega | exact ⟨by omega, by omega⟩ | kernel_rfl | rfl | assumption | (intro h; exact ⟨h, by omega, by omega⟩) | (intro h; exact ⟨h, by omega⟩)) ?_)
        simp (config := { maxSteps := 2000000 }) (disch := (first | assumption | omega | (with_unfolding_all exact id rfl) | (simp only [List.length_take, List.length_drop, List.length_append, List.length_set, List.length_replicate, List.length_cons, List.length_nil, len_nats, len_ints, len_strs] <;> omega))) only [go_sem, at1, at2, Nat.reduceBEq, Nat.reduceSub, Nat.reduceAdd, Nat.reduceMul, Nat.reduceLT, Nat.reduceLeDiff, Nat.reduceEqDiff, Int.reduceToNat, Int.reduceAdd, Int.reduceSub, Int.reduceMul, Int.reduceLT, Int.reduceLE, Int.reduceEq]
        (repeat refine And.intro (by first | omega | exact ⟨by omega, by omega⟩ | kernel_rfl | rfl | assumption | (intro h; exact ⟨h, by omega, by omega⟩) | (intro h; exact ⟨h, by omega⟩)) ?_)
        refine fin ?_
        simp only [insK, slV_ne 2 (ins_ne _ _), slV_ne 3 (ins_ne _ _), blkL_ne 2 (ins_ne _ _), blkL_ne 3 (ins_ne _ _), ins_nil, slV_cons, blkL_cons]
        refine Sub.of0 [(2, 4), (3, 5)] rfl rfl ?_ ?_
        · simp (disch := (first | assumption | omega | (simp only [List.length_take, List.length_drop, List.length_append, List.length_set, List.length_replicate, List.length_cons, List.length_nil, len_nats, len_ints, len_strs] <;> omega))) only [go_sem, Nat.reduceBEq, Nat.reduceSub, Nat.reduceAdd, Nat.reduceMul, Nat.reduceLT, Nat.reduceLeDiff, Nat.reduceEqDiff, Int.reduceToNat, Int.reduceAdd, Int.reduceSub, Int.reduceMul, Int.reduceLT, Int.reduceLE, Int.reduceEq]
        · simp only [go_sem, cnts_cons, cnts_nil, Nat.reduceBEq, Nat.reduceSub, Nat.reduceAdd, Nat.reduceMul, Nat.reduceLT, Nat.reduceLeDiff, Nat.reduceEqDiff, Int.reduceToNat, Int.reduceAdd, Int.reduceSub, Int.reduceMul, Int.reduceLT, Int.reduceLE, Int.reduceEq]
      · -- new has
        skip
        skip
        simp (config := { maxSteps := 2000000 }) (disch := (first | assumption | omega | (with_unfolding_all exact id rfl) | (simp only [List.length_take, List.length_drop, List.length_append, List.length_set, List.length_replicate, List.length_cons, List.length_nil, len_nats, len_ints, len_strs] <;> omega))) only [go_sem, at1, at2, insK, slV_ne 2 n0, blkL_ne 2 n0, slV_ne 3 z0, blkL_ne 3 z0, Δq_has, Δq_new, Δq_nil, Nat.reduceBEq, Nat.reduceSub, Nat.reduceAdd, Nat.reduceMul, Nat.reduceLT, Nat.reduceLeDiff, Nat.reduceEqDiff, Int.reduceToNat, Int.reduceAdd, Int.reduceSub, Int.reduceMul, Int.reduceLT, Int.reduceLE, Int.reduceEq]
        refine ⟨⟨by omega, by omega⟩, by omega, ⟨by omega, by omega⟩, by omega, AXk.intro (by kernel_rfl) ?_⟩
        simp (config := { maxSteps := 2000000 }) (disch := (first | assumption | omega | (with_unfolding_all exact id rfl) | (simp only [List.length_take, List.length_drop, List.length_append, List.length_set, List.length_replicate, List.length_cons, List.length_nil, len_nats, len_ints, len_strs] <;> omega))) only [go_sem, at1, at2, slV_ne 3 z0, blkL_ne 3 z0, Δq_has, Δq_new, Δq_nil, Nat.reduceBEq, Nat.reduceSub, Nat.reduceAdd, Nat.reduceMul, Nat.reduceLT, Nat.reduceLeDiff, Nat.reduceEqDiff, Int.reduceToNat, Int.reduceAdd, Int.reduceSub, Int.reduceMul, Int.reduceLT, Int.reduceLE, Int.reduceEq]
        (repeat refine And.intro (by first | omega | exact ⟨by omega, by omega⟩ | kernel_rfl | rfl | assumption | (intro h; exact ⟨h, by omega, by omega⟩) | (intro h; exact ⟨h, by omega⟩)) ?_)
        simp (config := { maxSteps := 2000000 }) (disch := (first | assumption | omega | (with_unfolding_all exact id rfl) | (simp only [List.length_take, List.length_drop, List.length_append, List.length_set, List.length_replicate, List.length_cons, List.length_nil, len_nats, len_ints, len_strs] <;> omega))) only [go_sem, at1, at2, Nat.reduceBEq, Nat.reduceSub, Nat.reduceAdd, Nat.reduceMul, Nat.reduceLT, Nat.reduceLeDiff, Nat.reduceEqDiff, Int.reduceToNat, Int.reduceAdd, Int.reduceSub, Int.reduceMul, Int.reduceLT, Int.reduceLE, Int.reduceEq]
        (repeat refine And.intro (by first | omega | exact ⟨by omega, by omega⟩ | kernel_rfl | rfl | assumption | (intro h; exact ⟨h, by omega, by omega⟩) | (intro h; exact ⟨h, by omega⟩)) ?_)
        refine fin ?_
        simp only [insK, slV_ne 2 (ins_ne _ _), slV_ne 3 (ins_ne _ _), blkL_ne 2 (ins_ne _ _), blkL_ne 3 (ins_ne _ _), ins_nil, slV_cons, blkL_cons]
        refine Sub.of0 [(2, 4)] rfl rfl ?_ ?_
        · simp (disch := (first | assumption | omega | (simp only [List.length_take, List.length_drop, List.length_append, List.length_set, List.length_replicate, List.length_cons, List.length_nil, len_nats, len_ints, len_strs] <;> omega))) only [go_sem, Nat.reduceBEq, Nat.reduceSub, Nat.reduceAdd, Nat.reduceMul, Nat.reduceLT, Nat.reduceLeDiff, Nat.reduceEqDiff, Int.reduceToNat, Int.reduceAdd, Int.reduceSub, Int.reduceMul, Int.reduceLT, Int.reduceLE, Int.reduceEq]
        · simp only [go_sem, cnts_cons, cnts_nil, Nat.reduceBEq, Nat.reduceSub, Nat.reduceAdd, Nat.reduceMul, Nat.reduceLT, Nat.reduceLeDiff, Nat.reduceEqDiff, Int.reduceToNat, Int.reduceAdd, Int.reduceSub, Int.reduceMul, Int.reduceLT, Int.reduceLE, Int.reduceEq]
      · -- new new
        skip
        skip
        simp (config := { maxSteps := 2000000 }) (disch := (first | assumption | omega | (with_unfolding_all exact id rfl) | (simp only [List.length_take, List.length_drop, List.length_append, List.length_set, List.length_replicate, List.length_cons, List.length_nil, len_nats, len_ints, len_strs] <;> omega))) only [go_sem, at1, at2, insK, slV_ne 2 n0, blkL_ne 2 n0, slV_ne 3 z0, blkL_ne 3 z0, Δq_has, Δq_new, Δq_nil, Nat.reduceBEq, Nat.reduceSub, Nat.reduceAdd, Nat.reduceMul, Nat.reduceLT, Nat.reduceLeDiff, Nat.reduceEqDiff, Int.reduceToNat, Int.reduceAdd, Int.reduceSub, Int.reduceMul, Int.reduceLT, Int.reduceLE, Int.reduceEq]
        refine ⟨⟨by omega, by omega⟩, by omega, ⟨by omega, by omega⟩, by omega, AXk.intro (by kernel_rfl) ?_⟩
        simp (config := { maxSteps := 2000000 }) (disch := (first | assumption | omega | (with_unfolding_all exact id rfl) | (simp only [List.length_take, List.length_drop, List.length_append, List.length_set, List.length_replicate, List.length_cons, List.length_nil, len_nats, len_ints, len_strs] <;> omega))) only [go_sem, at1, at2, slV_ne 3 z0, blkL_ne 3 z0, Δq_has, Δq_new, Δq_nil, Nat.reduceBEq, Nat.reduceSub, Nat.reduceAdd, Nat.reduceMul, Nat.reduceLT, Nat.reduceLeDiff, Nat.reduceEqDiff, Int.reduceToNat, Int.reduceAdd, Int.reduceSub, Int.reduceMul, Int.reduceLT, Int.reduceLE, Int.reduceEq]
        (repeat refine And.intro (by first | omega | exact ⟨by omega, by omega⟩ | kernel_rfl | rfl | assumption | (intro h; exact ⟨h, by omega, by omega⟩) | (intro h; exact ⟨h, by omega⟩)) ?_)
        simp (config := { maxSteps := 2000000 }) (disch := (first | assumption | omega | (with_unfolding_all exact id rfl) | (simp only [List.length_take, List.length_drop, List.length_append, List.length_set, List.length_replicate, List.length_cons, List.length_nil, len_nats, len_ints, len_strs] <;> omega))) only [go_sem, at1, at2, Nat.reduceBEq, Nat.reduceSub, Nat.reduceAdd, Nat.reduceMul, Nat.reduceLT, Nat.reduceLeDiff, Nat.reduceEqDiff, Int.reduceToNat, Int.reduceAdd, Int.reduceSub, Int.reduceMul, Int.reduceLT, Int.reduceLE, Int.reduceEq]
        (repeat refine And.intro (by first | omega | exact ⟨by omega, by omega⟩ | kernel_rfl | rfl | assumption | (intro h; exact ⟨h, by omega, by omega⟩) | (intro h; exact ⟨h, by omega⟩)) ?_)
        refine fin ?_
        simp only [insK, slV_ne 2 (ins_ne _ _), slV_ne 3 (ins_ne _ _), blkL_ne 2 (ins_ne _ _), blkL_ne 3 (ins_ne _ _), ins_nil, slV_cons, blkL_cons]
        refine Sub.of0 [(2, 4), (3, 5)] rfl rfl ?_ ?_
        · simp (disch := (first | assumption | omega | (simp only [List.length_take, List.length_drop, List.length_append, List.length_set, List.length_replicate, List.length_cons, List.length_nil, len_nats, len_ints, len_strs] <;> omega))) only [go_sem, Nat.reduceBEq, Nat.reduceSub, Nat.reduceAdd, Nat.reduceMul, Nat.reduceLT, Nat.reduceLeDiff, Nat.reduceEqDiff, Int.reduceToNat, Int.reduceAdd, Int.reduceSub, Int.reduceMul, Int.reduceLT, Int.reduceLE, Int.reduceEq]
        · simp only [go_sem, cnts_cons, cnts_nil, Nat.reduceBEq, Nat.reduceSub, Nat.reduceAdd, Nat.reduceMul, Nat.reduceLT, Nat.reduceLeDiff, Nat.reduceEqDiff, Int.reduceToNat, Int.reduceAdd, Int.reduceSub, Int.reduceMul, Int.reduceLT, Int.reduceLE, Int.reduceEq]
    · have hj : j = (nthS ss i).length := by omega
      subst hj
      simp only [go_sem, Nat.reduceBEq, Nat.reduceSub, Nat.reduceAdd, Nat.reduceMul, Nat.reduceLT, Nat.reduceLeDiff, Nat.reduceEqDiff, Int.reduceToNat, Int.reduceAdd, Int.reduceSub, Int.reduceMul, Int.reduceLT, Int.reduceLE, Int.reduceEq]
      refine AXa.go mixed (extΓ_ok cRSent_ok noΓ_ok) ( Δq_ok) (by kernel_rfl) ?_
      rw [List.take_length]
      have hs1 := insN2_end ss i hi
      have hn5 := hB'.1
      have hs2 := insE2_end ss i hi
      have sh := senOK_short (hB'.2 _ (sentR.nth_mem hi))
      have ls := lastT_short (nthS ss i) [] (by simp) sh
      obtain ⟨ad1, _⟩ := add_bnd ss i (nthS ss i).length hB'.1 hi hB'.2 h5 ((lastT [] (nthS ss i), []), 1) ⟨ls, by simp⟩ rfl
      have fin : ∀ {s : St} {C : Cfg} {K : Out → St → Prop}, Sub C s ⟨[(0, .fs (sents ss) ss.length), (2, .ptr 0 0), (4, .ptr 1 0), (5, .int .i64 (i + 1))], insK (insN2 ss (i + 1) 0, insE2 ss (i + 1) 0)⟩ →
          LoopK C Nat (fun i : Nat => ⟨[(0, .fs (sents ss) ss.length), (2, .ptr 0 0), (4, .ptr 1 0), (5, .int .i64 i)], insK (insN2 ss i 0, insE2 ss i 0)⟩) (fun i => i ≤ ss.length) (fun i => ss.length - i) i K .norm s :=
        fun hs => loopK_norm (i + 1) (by omega) (by omega) hs
      rw [hs1, hs2] at fin
      generalize insN2 ss i (nthS ss i).length = N at ad1 fin ⊢
      generalize insE2 ss i (nthS ss i).length = E at fin ⊢
      clear hs1 hs2 sh ls
      rcases three N (lastT [] (nthS ss i), []) with n0 | ⟨n0, nh⟩ | ⟨n0, nh⟩ <;> by_cases z0 : E = []
      · -- nil nil
        subst n0
        subst z0
        simp (config := { maxSteps := 2000000 }) (disch := (first | assumption | omega | (with_unfolding_all exact id rfl) | (simp only [List.length_take, List.length_drop, List.length_append, List.length_set, List.length_replicate, List.length_cons, List.length_nil, len_nats, len_ints, len_strs] <;> omega))) only [go_sem, insK, slV_nil, blkL_nil, slV_nil, blkL_nil, Δq_has, Δq_new, Δq_nil, Nat.reduceBEq, Nat.reduceSub, Nat.reduceAdd, Nat.reduceMul, Nat.reduceLT, Nat.reduceLeDiff, Nat.reduceEqDiff, Int.reduceToNat, Int.reduceAdd, Int.reduceSub, Int.reduceMul, Int.reduceLT, Int.reduceLE, Int.reduceEq]
        refine fin ?_
        simp only [insK, slV_ne 2 (ins_ne _ _), blkL_ne 2 (ins_ne _ _), ins_nil, slV_cons, blkL_cons, slV_nil, blkL_nil]
        refine Sub.of0 [(2, 4)] rfl rfl ?_ ?_
        · simp (disch := (first | assumption | omega | (simp only [List.length_take, List.length_drop, List.length_append, List.length_set, List.length_replicate, List.length_cons, List.length_nil, len_nats, len_ints, len_strs] <;> omega))) only [go_sem, Nat.reduceBEq, Nat.reduceSub, Nat.reduceAdd, Nat.reduceMul, Nat.reduceLT, Nat.reduceLeDiff, Nat.reduceEqDiff, Int.reduceToNat, Int.reduceAdd, Int.reduceSub, Int.reduceMul, Int.reduceLT, Int.reduceLE, Int.reduceEq]
        · simp only [go_sem, cnts_cons, cnts_nil, Nat.reduceBEq, Nat.reduceSub, Nat.reduceAdd, Nat.reduceMul, Nat.reduceLT, Nat.reduceLeDiff, Nat.reduceEqDiff, Int.reduceToNat, Int.reduceAdd, Int.reduceSub, Int.reduceMul, Int.reduceLT, Int.reduceLE, Int.reduceEq]
      · -- nil non
        subst n0
        skip
        simp (config := { maxSteps := 2000000 }) (disch := (first | assumption | omega | (with_unfolding_all exact id rfl) | (simp only [List.length_take, List.length_drop, List.length_append, List.length_set, List.length_replicate, List.length_cons, List.length_nil, len_nats, len_ints, len_strs] <;> omega))) only [go_sem, insK, slV_nil, blkL_nil, slV_ne 3 z0, blkL_ne 3 z0, Δq_has, Δq_new, Δq_nil, Nat.reduceBEq, Nat.reduceSub, Nat.reduceAdd, Nat.reduceMul, Nat.reduceLT, Nat.reduceLeDiff, Nat.reduceEqDiff, Int.reduceToNat, Int.reduceAdd, Int.reduceSub, Int.reduceMul, Int.reduceLT, Int.reduceLE, Int.reduceEq]
        refine fin ?_
        simp only [insK, slV_ne 2 (ins_ne _ _), blkL_ne 2 (ins_ne _ _), ins_nil, slV_cons, blkL_cons, slV_ne 3 z0, blkL_ne 3 z0]
        refine Sub.of0 [(2, 4)] rfl rfl ?_ ?_
        · simp (disch := (first | assumption | omega | (simp only [List.length_take, List.length_drop, List.length_append, List.length_set, List.length_replicate, List.length_cons, List.length_nil, len_nats, len_ints, len_strs] <;> omega))) only [go_sem, Nat.reduceBEq, Nat.reduceSub, Nat.reduceAdd, Nat.reduceMul, Nat.reduceLT, Nat.reduceLeDiff, Nat.reduceEqDiff, Int.reduceToNat, Int.reduceAdd, Int.reduceSub, Int.reduceMul, Int.reduceLT, Int.reduceLE, Int.reduceEq]
        · simp only [go_sem, cnts_cons, cnts_nil, Nat.reduceBEq, Nat.reduceSub, Nat.reduceAdd, Nat.reduceMul, Nat.reduceLT, Nat.reduceLeDiff, Nat.reduceEqDiff, Int.reduceToNat, Int.reduceAdd, Int.reduceSub, Int.reduceMul, Int.reduceLT, Int.reduceLE, Int.reduceEq]
      · -- has nil
        skip
        subst z0
        simp (config := { maxSteps := 2000000 }) (disch := (first | assumption | omega | (with_unfolding_all exact id rfl) | (simp only [List.length_take, List.length_drop, List.length_append, List.length_set, List.length_replicate, List.length_cons, List.length_nil, len_nats, len_ints, len_strs] <;> omega))) only [go_sem, insK, slV_ne 2 n0, blkL_ne 2 n0, slV_nil, blkL_nil, Δq_has, Δq_new, Δq_nil, Nat.reduceBEq, Nat.reduceSub, Nat.reduceAdd, Nat.reduceMul, Nat.reduceLT, Nat.reduceLeDiff, Nat.reduceEqDiff, Int.reduceToNat, Int.reduceAdd, Int.reduceSub, Int.reduceMul, Int.reduceLT, Int.reduceLE, Int.reduceEq]
        refine fin ?_
        simp only [insK, slV_ne 2 (ins_ne _ _), blkL_ne 2 (ins_ne _ _), ins_nil, slV_cons, blkL_cons, slV_nil, blkL_nil]
        refine Sub.of0 [] rfl rfl ?_ ?_
        · simp (disch := (first | assumption | omega | (simp only [List.length_take, List.length_drop, List.length_append, List.length_set, List.length_replicate, List.length_cons, List.length_nil, len_nats, len_ints, len_strs] <;> omega))) only [go_sem, Nat.reduceBEq, Nat.reduceSub, Nat.reduceAdd, Nat.reduceMul, Nat.reduceLT, Nat.reduceLeDiff, Nat.reduceEqDiff, Int.reduceToNat, Int.reduceAdd, Int.reduceSub, Int.reduceMul, Int.reduceLT, Int.reduceLE, Int.reduceEq]
        · simp only [go_sem, cnts_cons, cnts_nil, Nat.reduceBEq, Nat.reduceSub, Nat.reduceAdd, Nat.reduceMul, Nat.reduceLT, Nat.reduceLeDiff, Nat.reduceEqDiff, Int.reduceToNat, Int.reduceAdd, Int.reduceSub, Int.reduceMul, Int.reduceLT, Int.reduceLE, Int.reduceEq]
      · -- has non
        skip
        skip
        simp (config := { maxSteps := 2000000 }) (disch := (first | assumption | omega | (with_unfolding_all exact id rfl) | (simp only [List.length_take, List.length_drop, List.length_append, List.length_set, List.length_replicate, List.length_cons, List.length_nil, len_nats, len_ints, len_strs] <;> omega))) only [go_sem, insK, slV_ne 2 n0, blkL_ne 2 n0, slV_ne 3 z0, blkL_ne 3 z0, Δq_has, Δq_new, Δq_nil, Nat.reduceBEq, Nat.reduceSub, Nat.reduceAdd, Nat.reduceMul, Nat.reduceLT, Nat.reduceLeDiff, Nat.reduceEqDiff, Int.reduceToNat, Int.reduceAdd, Int.reduceSub, Int.reduceMul, Int.reduceLT, Int.reduceLE, Int.reduceEq]
        refine fin ?_
        simp only [insK, slV_ne 2 (ins_ne _ _), blkL_ne 2 (ins_ne _ _), ins_nil, slV_cons, blkL_cons, slV_ne 3 z0, blkL_ne 3 z0]
        refine Sub.of0 [] rfl rfl ?_ ?_
        · simp (disch := (first | assumption | omega | (simp only [List.length_take, List.length_drop, List.length_append, List.length_set, List.length_replicate, List.length_cons, List.length_nil, len_nats, len_ints, len_strs] <;> omega))) only [go_sem, Nat.reduceBEq, Nat.reduceSub, Nat.reduceAdd, Nat.reduceMul, Nat.reduceLT, Nat.reduceLeDiff, Nat.reduceEqDiff, Int.reduceToNat, Int.reduceAdd, Int.reduceSub, Int.reduceMul, Int.reduceLT, Int.reduceLE, Int.reduceEq]
        · simp only [go_sem, cnts_cons, cnts_nil, Nat.reduceBEq, Nat.reduceSub, Nat.reduceAdd, Nat.reduceMul, Nat.reduceLT, Nat.reduceLeDiff, Nat.reduceEqDiff, Int.reduceToNat, Int.reduceAdd, Int.reduceSub, Int.reduceMul, Int.reduceLT, Int.reduceLE, Int.reduceEq]
      · -- new nil
        skip
        subst z0
        simp (config := { maxSteps := 2000000 }) (disch := (first | assumption | omega | (with_unfolding_all exact id rfl) | (simp only [List.length_take, List.length_drop, List.length_append, List.length_set, List.length_replicate, List.length_cons, List.length_nil, len_nats, len_ints, len_strs] <;> omega))) only [go_sem, insK, slV_ne 2 n0, blkL_ne 2 n0, slV_nil, blkL_nil, Δq_has, Δq_new, Δq_nil, Nat.reduceBEq, Nat.reduceSub, Nat.reduceAdd, Nat.reduceMul, Nat.reduceLT, Nat.reduceLeDiff, Nat.reduceEqDiff, Int.reduceToNat, Int.reduceAdd, Int.reduceSub, Int.reduceMul, Int.reduceLT, Int.reduceLE, Int.reduceEq]
        refine fin ?_
        simp only [insK, slV_ne 2 (ins_ne _ _), blkL_ne 2 (ins_ne _ _), ins_nil, slV_cons, blkL_cons, slV_nil, blkL_nil]
        refine Sub.of0 [(2, 4)] rfl rfl ?_ ?_
        · simp (disch := (first | assumption | omega | (simp only [List.length_take, List.length_drop, List.length_append, List.length_set, List.length_replicate, List.length_cons, List.length_nil, len_nats, len_ints, len_strs] <;> omega))) only [go_sem, Nat.reduceBEq, Nat.reduceSub, Nat.reduceAdd, Nat.reduceMul, Nat.reduceLT, Nat.reduceLeDiff, Nat.reduceEqDiff, Int.reduceToNat, Int.reduceAdd, Int.reduceSub, Int.reduceMul, Int.reduceLT, Int.reduceLE, Int.reduceEq]
        · simp only [go_sem, cnts_cons, cnts_nil, Nat.reduceBEq, Nat.reduceSub, Nat.reduceAdd, Nat.reduceMul, Nat.reduceLT, Nat.reduceLeDiff, Nat.reduceEqDiff, Int.reduceToNat, Int.reduceAdd, Int.reduceSub, Int.reduceMul, Int.reduceLT, Int.reduceLE, Int.reduceEq]
      · -- new non
        skip
        skip
        simp (config := { maxSteps := 2000000 }) (disch := (first | assumption | omega | (with_unfolding_all exact id rfl) | (simp only [List.length_take, List.length_drop, List.length_append, List.length_set, List.length_replicate, List.length_cons, List.length_nil, len_nats, len_ints, len_strs] <;> omega))) only [go_sem, insK, slV_ne 2 n0, blkL_ne 2 n0, slV_ne 3 z0, blkL_ne 3 z0, Δq_has, Δq_new, Δq_nil, Nat.reduceBEq, Nat.reduceSub, Nat.reduceAdd, Nat.reduceMul, Nat.reduceLT, Nat.reduceLeDiff, Nat.reduceEqDiff, Int.reduceToNat, Int.reduceAdd, Int.reduceSub, Int.reduceMul, Int.reduceLT, Int.reduceLE, Int.reduceEq]
        refine fin ?_
        simp only [insK, slV_ne 2 (ins_ne _ _), blkL_ne 2 (ins_ne _ _), ins_nil, slV_cons, blkL_cons, slV_ne 3 z0, blkL_ne 3 z0]
        refine Sub.of0 [(2, 4)] rfl rfl ?_ ?_
        · simp (disch := (first | assumption | omega | (simp only [List.length_take, List.length_drop, List.length_append, List.length_set, List.length_replicate, List.length_cons, List.length_nil, len_nats, len_ints, len_strs] <;> omega))) only [go_sem, Nat.reduceBEq, Nat.reduceSub, Nat.reduceAdd, Nat.reduceMul, Nat.reduceLT, Nat.reduceLeDiff, Nat.reduceEqDiff, Int.reduceToNat, Int.reduceAdd, Int.reduceSub, Int.reduceMul, Int.reduceLT, Int.reduceLE, Int.reduceEq]
        · simp only [go_sem, cnts_cons, cnts_nil, Nat.reduceBEq, Nat.reduceSub, Nat.reduceAdd, Nat.reduceMul, Nat.reduceLT, Nat.reduceLeDiff, Nat.reduceEqDiff, Int.reduceToNat, Int.reduceAdd, Int.reduceSub, Int.reduceMul, Int.reduceLT, Int.reduceLE, Int.reduceEq]
  · have hi : i = ss.length := by omega
    subst hi
    simp only [go_sem, Nat.reduceBEq, Nat.reduceSub, Nat.reduceAdd, Nat.reduceMul, Nat.reduceLT, Nat.reduceLeDiff, Nat.reduceEqDiff, Int.reduceToNat, Int.reduceAdd, Int.reduceSub, Int.reduceMul, Int.reduceLT, Int.reduceLE, Int.reduceEq]
    refine AXa.go mixed (extΓ_ok cRSent_ok noΓ_ok) ( Δq_ok) (by kernel_rfl) ?_
    have hm1 : insN2 ss ss.length 0 = srt ((nextA ss).foldl upd []) := by
      have p := fold_perm (nextA ss) (l := []) (m := []) .nil .nil (.refl _)
      unfold insN2; rw [evI_all]; exact fold_srt _ _ (srt_inc _) (srt_perm p.2.2).symm
    have hm2 : insE2 ss ss.length 0 = srt ((emA ss).foldl upd []) := by
      have p := fold_perm (emA ss) (l := []) (m := []) .nil .nil (.refl _)
      unfold insE2; rw [emI_all]; exact fold_srt _ _ (srt_inc _) (srt_perm p.2.2).symm
    have d1 : Dif ((nextA ss).foldl upd []) := fold_upd_dif _
    have d2 : Dif ((emA ss).foldl upd []) := fold_upd_dif _
    have q1 := (srt_perm d1).length_eq
    have q2 := (srt_perm d2).length_eq
    have hr : resC ss = if (srt ((nextA ss).foldl upd [])).length ≤ 30000 ∧ (srt ((emA ss).foldl upd [])).length ≤ 30000 then (srt ((nextA ss).foldl upd []), srt ((emA ss).foldl upd []), 0) else ([], [], 2) := by
      unfold resC; rw [if_pos hB, q1, q2]
    have hlen : (srt ((nextA ss).foldl upd [])).length ≤ 200000 ∧ (srt ((emA ss).foldl upd [])).length ≤ 200000 := by
      have hb := map_bnd ss ss.length 0 hB'.1 (Nat.le_refl _) (fun k hk => hB'.2 _ (sentR.nth_mem hk)) (by omega)
      have e1 : mapN ss ss.length 0 = (nextA ss).foldl upd [] := by unfold mapN; rw [evI_all]
      have e2 : mapE ss ss.length 0 = (emA ss).foldl upd [] := by unfold mapE; rw [emI_all]
      rw [e1, e2] at hb
      omega
    rw [hr, hm1, hm2]
    generalize srt ((nextA ss).foldl upd []) = M at hlen ⊢
    generalize srt ((emA ss).foldl upd []) = E at hlen ⊢
    clear hm1 hm2 hr d1 d2 q1 q2
    obtain ⟨l1, l2⟩ := hlen
    by_cases n0 : M = [] <;> by_cases z0 : E = []
    · subst n0 z0
      simp (disch := (first | assumption | omega | (simp only [List.length_take, List.length_drop, List.length_append, List.length_set, List.length_replicate, List.length_cons, List.length_nil, len_nats, len_ints, len_strs] <;> omega))) only [go_sem, insK, slV_nil, blkL_nil, cnts_nil, Nat.reduceBEq, Nat.reduceSub, Nat.reduceAdd, Nat.reduceMul, Nat.reduceLT, Nat.reduceLeDiff, Nat.reduceEqDiff, Int.reduceToNat, Int.reduceAdd, Int.reduceSub, Int.reduceMul, Int.reduceLT, Int.reduceLE, Int.reduceEq]
    · subst n0
      simp (disch := (first | assumption | omega | (simp only [List.length_take, List.length_drop, List.length_append, List.length_set, List.length_replicate, List.length_cons, List.length_nil, len_nats, len_ints, len_strs] <;> omega))) only [go_sem, insK, slV_nil, blkL_nil, slV_ne 3 z0, blkL_ne 3 z0, cnts_nil, Nat.reduceBEq, Nat.reduceSub, Nat.reduceAdd, Nat.reduceMul, Nat.reduceLT, Nat.reduceLeDiff, Nat.reduceEqDiff, Int.reduceToNat, Int.reduceAdd, Int.reduceSub, Int.reduceMul, Int.reduceLT, Int.reduceLE, Int.reduceEq]
      refine AXc.introP (fun h4 => ?_) (fun h4 => ?_)
      · have hle : ¬ E.length ≤ 30000 := by omega
        simp (disch := (first | assumption | omega | (simp only [List.length_take, List.length_drop, List.length_append, List.length_set, List.length_replicate, List.length_cons, List.length_nil, len_nats, len_ints, len_strs] <;> omega))) only [go_sem, hle, cnts_nil, Nat.reduceBEq, Nat.reduceSub, Nat.reduceAdd, Nat.reduceMul, Nat.reduceLT, Nat.reduceLeDiff, Nat.reduceEqDiff, Int.reduceToNat, Int.reduceAdd, Int.reduceSub, Int.reduceMul, Int.reduceLT, Int.reduceLE, Int.reduceEq]
      · have hle : E.length ≤ 30000 := by omega
        simp (disch := (first | assumption | omega | (simp only [List.length_take, List.length_drop, List.length_append, List.length_set, List.length_replicate, List.length_cons, List.length_nil, len_nats, len_ints, len_strs] <;> omega))) only [go_sem, hle, cnts_nil, Nat.reduceBEq, Nat.reduceSub, Nat.reduceAdd, Nat.reduceMul, Nat.reduceLT, Nat.reduceLeDiff, Nat.reduceEqDiff, Int.reduceToNat, Int.reduceAdd, Int.reduceSub, Int.reduceMul, Int.reduceLT, Int.reduceLE, Int.reduceEq]
        exact Frz.slp rfl rfl (by rw [len_cnts]; omega) (by rw [List.drop_zero, List.take_of_length_le (by rw [len_cnts]; omega)]) (pure_cnts _)
    · subst z0
      simp (disch := (first | assumption | omega | (simp only [List.length_take, List.length_drop, List.length_append, List.length_set, List.length_replicate, List.length_cons, List.length_nil, len_nats, len_ints, len_strs] <;> omega))) only [go_sem, insK, slV_nil, blkL_nil, slV_ne 2 n0, blkL_ne 2 n0, cnts_nil, Nat.reduceBEq, Nat.reduceSub, Nat.reduceAdd, Nat.reduceMul, Nat.reduceLT, Nat.reduceLeDiff, Nat.reduceEqDiff, Int.reduceToNat, Int.reduceAdd, Int.reduceSub, Int.reduceMul, Int.reduceLT, Int.reduceLE, Int.reduceEq]
      refine AXc.introP (fun h4 => ?_) (fun h4 => ?_)
      · have hle : ¬ M.length ≤ 30000 := by omega
        simp (disch := (first | assumption | omega | (simp only [List.length_take, List.length_drop, List.length_append, List.length_set, List.length_replicate, List.length_cons, List.length_nil, len_nats, len_ints, len_strs] <;> omega))) only [go_sem, hle, cnts_nil, Nat.reduceBEq, Nat.reduceSub, Nat.reduceAdd, Nat.reduceMul, Nat.reduceLT, Nat.reduceLeDiff, Nat.reduceEqDiff, Int.reduceToNat, Int.reduceAdd, Int.reduceSub, Int.reduceMul, Int.reduceLT, Int.reduceLE, Int.reduceEq]
      · have hle : M.length ≤ 30000 := by omega
        simp (disch := (first | assumption | omega | (simp only [List.length_take, List.length_drop, List.length_append, List.length_set, List.length_replicate, List.length_cons, List.length_nil, len_nats, len_ints, len_strs] <;> omega))) only [go_sem, hle, cnts_nil, Nat.reduceBEq, Nat.reduceSub, Nat.reduceAdd, Nat.reduceMul, Nat.reduceLT, Nat.reduceLeDiff, Nat.reduceEqDiff, Int.reduceToNat, Int.reduceAdd, Int.reduceSub, Int.reduceMul, Int.reduceLT, Int.reduceLE, Int.reduceEq]
        exact Frz.slp rfl rfl (by rw [len_cnts]; omega) (by rw [List.drop_zero, List.take_of_length_le (by rw [len_cnts]; omega)]) (pure_cnts _)
    · simp (disch := (first | assumption | omega | (simp only [List.length_take, List.length_drop, List.length_append, List.length_set, List.length_replicate, List.length_cons, List.length_nil, len_nats, len_ints, len_strs] <;> omega))) only [go_sem, insK, slV_ne 3 z0, blkL_ne 3 z0, slV_ne 2 n0, blkL_ne 2 n0, cnts_nil, Nat.reduceBEq, Nat.reduceSub, Nat.reduceAdd, Nat.reduceMul, Nat.reduceLT, Nat.reduceLeDiff, Nat.reduceEqDiff, Int.reduceToNat, Int.reduceAdd, Int.reduceSub, Int.reduceMul, Int.reduceLT, Int.reduceLE, Int.reduceEq]
      by_cases hle : M.length ≤ 30000 ∧ E.length ≤ 30000
      · have hb : (decide (30000 < (M.length : Int)) || decide (30000 < (E.length : Int))) = false := by
          simp only [Bool.or_eq_false_iff, decide_eq_false_iff_not]; omega
        rw [hb, if_pos hle]
        simp (disch := (first | assumption | omega | (simp only [List.length_take, List.length_drop, List.length_append, List.length_set, List.length_replicate, List.length_cons, List.length_nil, len_nats, len_ints, len_strs] <;> omega))) only [go_sem, Nat.reduceBEq, Nat.reduceSub, Nat.reduceAdd, Nat.reduceMul, Nat.reduceLT, Nat.reduceLeDiff, Nat.reduceEqDiff, Int.reduceToNat, Int.reduceAdd, Int.reduceSub, Int.reduceMul, Int.reduceLT, Int.reduceLE, Int.reduceEq]
        exact ⟨Frz.slp rfl rfl (by rw [len_cnts]; omega) (by rw [List.drop_zero, List.take_of_length_le (by rw [len_cnts]; omega)]) (pure_cnts _), Frz.slp rfl rfl (by rw [len_cnts]; omega) (by rw [List.drop_zero, List.take_of_length_le (by rw [len_cnts]; omega)]) (pure_cnts _)⟩
      · have hb : (decide (30000 < (M.length : Int)) || decide (30000 < (E.length : Int))) = true := by
          simp only [Bool.or_eq_true, decide_eq_true_eq]; omega
        rw [hb, if_neg hle]
        simp (disch := (first | assumption | omega | (simp only [List.length_take, List.length_drop, List.length_append, List.length_set, List.length_replicate, List.length_cons, List.length_nil, len_nats, len_ints, len_strs] <;> omega))) only [go_sem, cnts_nil, Nat.reduceBEq, Nat.reduceSub, Nat.reduceAdd, Nat.reduceMul, Nat.reduceLT, Nat.reduceLeDiff, Nat.reduceEqDiff, Int.reduceToNat, Int.reduceAdd, Int.reduceSub, Int.reduceMul, Int.reduceLT, Int.reduceLE, Int.reduceEq]
noncomputable def cRCount : List V → Option PR := conOf (fun ss : List (List Tok) => [.fs (sents ss) ss.length]) (fun _ => True) fun ss => cntV (resC ss)
theorem cRCount_eq (ss : List (List Tok)) : cRCount [.fs (sents ss) ss.length] = some (cntV (resC ss)) := conOf_eq (pat := fun ss : List (List Tok) => [.fs (sents ss) ss.length]) (fun x y h => by simp only [List.cons.injEq, V.fs.injEq, and_true] at h; exact sents_inj h.1) ss trivial
theorem cRCount_ok : ∀ args r, cRCount args = some r → PCall Tryz.prog 9 args r := conOf_ok fun ss _ => rcount_ok ss
attribute [go_sem] cRCount_eq
end Go.Proofs
