/- The statement's own function: counting two lists of sentences together. -/
import Derived.Test.YtajodjbnkeeonaaGreatDoorMF
set_option linter.unusedSimpArgs false
set_option linter.unusedVariables false
namespace Go.Proofs
open Go.Ab Go.Cnt
def selK (b : Bool) (a : Str) : Key → Bool := match b with | true => isA a | false => isB a
set_option maxHeartbeats 4000000 in
theorem sums_ok (l : List Ent) (a : Str) (b : Bool) (hl : l.length ≤ 1000000) (hn : ∀ e ∈ l, 0 ≤ e.2 ∧ e.2 ≤ 1000000) : PCall Tryz.prog 15 [.fs (cnts l) l.length, .str a, .bool b] (.ret (.int .i64 (wsum (selK b a) l))) := by
  refine PCall.walk (rs := [.tmp 6]) [0, 1, 2, 6, 7, 8, 12, 37] [] mixed (noΓ_ok) (noΔ_ok) call15 Tryz.func15 rfl Tryz.ntmps15 rfl (by kernel_rfl) (by simp) (by simp [pure_bool, pure_int, pure_str, pure_fs, pure_fp, pure_fn, pure_agg, pure_tup, pure_nilS, pure_nilP, pure_natsP, pure_intsP, pure_strsP, pure_list, pure_cntsP]) ?_
  simp only [go_sem, Nat.reduceBEq, Nat.reduceSub, Nat.reduceAdd, Nat.reduceMul, Nat.reduceLT, Nat.reduceLeDiff, Nat.reduceEqDiff, Int.reduceToNat, Int.reduceAdd, Int.reduceSub, Int.reduceMul, Int.reduceLT, Int.reduceLE, Int.reduceEq]
  refine AXs.loop mixed (noΓ_ok) (noΔ_ok) (fun i : Nat => [(0, .fs (cnts l) l.length), (1, .str a), (2, .bool b), (7, .int .i64 (wsum (selK b a) (l.take i))), (8, .int .i64 i)]) (fun _ => ⟨[], 0⟩) (fun i => i ≤ l.length) (fun i => l.length - i) 0 (by kernel_rfl) (Nat.zero_le _) (Sub.of0 [] rfl rfl ?_ ?_) ?_
  · simp only [go_sem, Nat.reduceBEq, Nat.reduceSub, Nat.reduceAdd, Nat.reduceMul, Nat.reduceLT, Nat.reduceLeDiff, Nat.reduceEqDiff, Int.reduceToNat, Int.reduceAdd, Int.reduceSub, Int.reduceMul, Int.reduceLT, Int.reduceLE, Int.reduceEq]
    rfl
  · simp only [go_sem, Nat.reduceBEq, Nat.reduceSub, Nat.reduceAdd, Nat.reduceMul, Nat.reduceLT, Nat.reduceLeDiff, Nat.reduceEqDiff, Int.reduceToNat, Int.reduceAdd, Int.reduceSub, Int.reduceMul, Int.reduceLT, Int.reduceLE, Int.reduceEq]
  intro i h1
  simp only [go_sem, Nat.reduceBEq, Nat.reduceSub, Nat.reduceAdd, Nat.reduceMul, Nat.reduceLT, Nat.reduceLeDiff, Nat.reduceEqDiff, Int.reduceToNat, Int.reduceAdd, Int.reduceSub, Int.reduceMul, Int.reduceLT, Int.reduceLE, Int.reduceEq]
  refine AXc.introP (fun h2 => ?_) (fun h2 => ?_)
  · have hi : i < l.length := by omega
    have a1 := cnts_at l i hi
    have hs : wsum (selK b a) (l.take (i + 1)) = wsum (selK b a) (l.take i) + (if selK b a (nthE l i).1 = true then (nthE l i).2 else 0) := by
      have : l.take (i + 1) = l.take i ++ [nthE l i] := by
        rw [List.take_add_one, nthE, List.getD_eq_getElem?_getD, List.getElem?_eq_getElem hi]; rfl
      rw [this, wsum_app]; simp [wsum]
    have hb := wsum_mono (p := selK b a) (l := l.take i) fun e he => hn e (List.mem_of_mem_take he)
    have hlt : (l.take i).length ≤ 1000000 := by simp; omega
    have hne := hn _ (nthE_mem hi)
    cases b with
    | true =>
      simp (disch := (first | assumption | omega | (simp only [List.length_take, List.length_drop, List.length_append, List.length_set, List.length_replicate, List.length_cons, List.length_nil, len_nats, len_ints, len_strs] <;> omega))) only [go_sem, a1, Nat.reduceBEq, Nat.reduceSub, Nat.reduceAdd, Nat.reduceMul, Nat.reduceLT, Nat.reduceLeDiff, Nat.reduceEqDiff, Int.reduceToNat, Int.reduceAdd, Int.reduceSub, Int.reduceMul, Int.reduceLT, Int.reduceLE, Int.reduceEq]
      (repeat refine And.intro (by first | omega | exact ⟨by omega, by omega⟩ | kernel_rfl | rfl | assumption | (intro h; exact ⟨h, by omega, by omega⟩) | (intro h; exact ⟨h, by omega⟩)) ?_)
      have hk : selK true a (nthE l i).1 = true ↔ (nthE l i).1.1 = a := ⟨fun h => of_decide_eq_true h, fun h => decide_eq_true h⟩
      refine AXc.introP (fun h3 => ?_) (fun h3 => ?_)
      · rw [if_pos (hk.2 h3)] at hs
        simp (disch := (first | assumption | omega | (simp only [List.length_take, List.length_drop, List.length_append, List.length_set, List.length_replicate, List.length_cons, List.length_nil, len_nats, len_ints, len_strs] <;> omega))) only [go_sem, a1, Nat.reduceBEq, Nat.reduceSub, Nat.reduceAdd, Nat.reduceMul, Nat.reduceLT, Nat.reduceLeDiff, Nat.reduceEqDiff, Int.reduceToNat, Int.reduceAdd, Int.reduceSub, Int.reduceMul, Int.reduceLT, Int.reduceLE, Int.reduceEq]
        (repeat refine And.intro (by first | omega | exact ⟨by omega, by omega⟩ | kernel_rfl | rfl | assumption | (intro h; exact ⟨h, by omega, by omega⟩) | (intro h; exact ⟨h, by omega⟩)) ?_)
        refine loopK_norm (i + 1) (by omega) (by omega) (Sub.of0 [] rfl rfl ?_ ?_)
        · simp (disch := (first | assumption | omega | (simp only [List.length_take, List.length_drop, List.length_append, List.length_set, List.length_replicate, List.length_cons, List.length_nil, len_nats, len_ints, len_strs] <;> omega))) only [go_sem, hs, Nat.reduceBEq, Nat.reduceSub, Nat.reduceAdd, Nat.reduceMul, Nat.reduceLT, Nat.reduceLeDiff, Nat.reduceEqDiff, Int.reduceToNat, Int.reduceAdd, Int.reduceSub, Int.reduceMul, Int.reduceLT, Int.reduceLE, Int.reduceEq]
          first | rfl | simp
        · simp only [go_sem, Nat.reduceBEq, Nat.reduceSub, Nat.reduceAdd, Nat.reduceMul, Nat.reduceLT, Nat.reduceLeDiff, Nat.reduceEqDiff, Int.reduceToNat, Int.reduceAdd, Int.reduceSub, Int.reduceMul, Int.reduceLT, Int.reduceLE, Int.reduceEq]
      · rw [if_neg fun h => h3 (hk.1 h)] at hs
        simp (disch := (first | assumption | omega | (simp only [List.length_take, List.length_drop, List.length_append, List.length_set, List.length_replicate, List.length_cons, List.length_nil, len_nats, len_ints, len_strs] <;> omega))) only [go_sem, Nat.reduceBEq, Nat.reduceSub, Nat.reduceAdd, Nat.reduceMul, Nat.reduceLT, Nat.reduceLeDiff, Nat.reduceEqDiff, Int.reduceToNat, Int.reduceAdd, Int.reduceSub, Int.reduceMul, Int.reduceLT, Int.reduceLE, Int.reduceEq]
        refine loopK_norm (i + 1) (by omega) (by omega) (Sub.of0 [] rfl rfl ?_ ?_)
        · simp (disch := (first | assumption | omega | (simp only [List.length_take, List.length_drop, List.length_append, List.length_set, List.length_replicate, List.length_cons, List.length_nil, len_nats, len_ints, len_strs] <;> omega))) only [go_sem, hs, Nat.reduceBEq, Nat.reduceSub, Nat.reduceAdd, Nat.reduceMul, Nat.reduceLT, Nat.reduceLeDiff, Nat.reduceEqDiff, Int.reduceToNat, Int.reduceAdd, Int.reduceSub, Int.reduceMul, Int.reduceLT, Int.reduceLE, Int.reduceEq]
          first | rfl | simp
        · simp only [go_sem, Nat.reduceBEq, Nat.reduceSub, Nat.reduceAdd, Nat.reduceMul, Nat.reduceLT, Nat.reduceLeDiff, Nat.reduceEqDiff, Int.reduceToNat, Int.reduceAdd, Int.reduceSub, Int.reduceMul, Int.reduceLT, Int.reduceLE, Int.reduceEq]
    | false =>
      simp (disch := (first | assumption | omega | (simp only [List.length_take, List.length_drop, List.length_append, List.length_set, List.length_replicate, List.length_cons, List.length_nil, len_nats, len_ints, len_strs] <;> omega))) only [go_sem, a1, Nat.reduceBEq, Nat.reduceSub, Nat.reduceAdd, Nat.reduceMul, Nat.reduceLT, Nat.reduceLeDiff, Nat.reduceEqDiff, Int.reduceToNat, Int.reduceAdd, Int.reduceSub, Int.reduceMul, Int.reduceLT, Int.reduceLE, Int.reduceEq]
      (repeat refine And.intro (by first | omega | exact ⟨by omega, by omega⟩ | kernel_rfl | rfl | assumption | (intro h; exact ⟨h, by omega, by omega⟩) | (intro h; exact ⟨h, by omega⟩)) ?_)
      have hk : selK false a (nthE l i).1 = true ↔ (nthE l i).1.2 = a := ⟨fun h => of_decide_eq_true h, fun h => decide_eq_true h⟩
      refine AXc.introP (fun h3 => ?_) (fun h3 => ?_)
      · rw [if_pos (hk.2 h3)] at hs
        simp (disch := (first | assumption | omega | (simp only [List.length_take, List.length_drop, List.length_append, List.length_set, List.length_replicate, List.length_cons, List.length_nil, len_nats, len_ints, len_strs] <;> omega))) only [go_sem, a1, Nat.reduceBEq, Nat.reduceSub, Nat.reduceAdd, Nat.reduceMul, Nat.reduceLT, Nat.reduceLeDiff, Nat.reduceEqDiff, Int.reduceToNat, Int.reduceAdd, Int.reduceSub, Int.reduceMul, Int.reduceLT, Int.reduceLE, Int.reduceEq]
        (repeat refine And.intro (by first | omega | exact ⟨by omega, by omega⟩ | kernel_rfl | rfl | assumption | (intro h; exact ⟨h, by omega, by omega⟩) | (intro h; exact ⟨h, by omega⟩)) ?_)
        refine loopK_norm (i + 1) (by omega) (by omega) (Sub.of0 [] rfl rfl ?_ ?_)
        · simp (disch := (first | assumption | omega | (simp only [List.length_take, List.length_drop, List.length_append, List.length_set, List.length_replicate, List.length_cons, List.length_nil, len_nats, len_ints, len_strs] <;> omega))) only [go_sem, hs, Nat.reduceBEq, Nat.reduceSub, Nat.reduceAdd, Nat.reduceMul, Nat.reduceLT, Nat.reduceLeDiff, Nat.reduceEqDiff, Int.reduceToNat, Int.reduceAdd, Int.reduceSub, Int.reduceMul, Int.reduceLT, Int.reduceLE, Int.reduceEq]
          first | rfl | simp
        · simp only [go_sem, Nat.reduceBEq, Nat.reduceSub, Nat.reduceAdd, Nat.reduceMul, Nat.reduceLT, Nat.reduceLeDiff, Nat.reduceEqDiff, Int.reduceToNat, Int.reduceAdd, Int.reduceSub, Int.reduceMul, Int.reduceLT, Int.reduceLE, Int.reduceEq]
      · rw [if_neg fun h => h3 (hk.1 h)] at hs
        simp (disch := (first | assumption | omega | (simp only [List.length_take, List.length_drop, List.length_append, List.length_set, List.length_replicate, List.length_cons, List.length_nil, len_nats, len_ints, len_strs] <;> omega))) only [go_sem, Nat.reduceBEq, Nat.reduceSub, Nat.reduceAdd, Nat.reduceMul, Nat.reduceLT, Nat.reduceLeDiff, Nat.reduceEqDiff, Int.reduceToNat, Int.reduceAdd, Int.reduceSub, Int.reduceMul, Int.reduceLT, Int.reduceLE, Int.reduceEq]
        refine loopK_norm (i + 1) (by omega) (by omega) (Sub.of0 [] rfl rfl ?_ ?_)
        · simp (disch := (first | assumption | omega | (simp only [List.length_take, List.length_drop, List.length_append, List.length_set, List.length_replicate, List.length_cons, List.length_nil, len_nats, len_ints, len_strs] <;> omega))) only [go_sem, hs, Nat.reduceBEq, Nat.reduceSub, Nat.reduceAdd, Nat.reduceMul, Nat.reduceLT, Nat.reduceLeDiff, Nat.reduceEqDiff, Int.reduceToNat, Int.reduceAdd, Int.reduceSub, Int.reduceMul, Int.reduceLT, Int.reduceLE, Int.reduceEq]
          first | rfl | simp
        · simp only [go_sem, Nat.reduceBEq, Nat.reduceSub, Nat.reduceAdd, Nat.reduceMul, Nat.reduceLT, Nat.reduceLeDiff, Nat.reduceEqDiff, Int.reduceToNat, Int.reduceAdd, Int.reduceSub, Int.reduceMul, Int.reduceLT, Int.reduceLE, Int.reduceEq]
  · have hi : i = l.length := by omega
    subst hi
    simp only [go_sem, Nat.reduceBEq, Nat.reduceSub, Nat.reduceAdd, Nat.reduceMul, Nat.reduceLT, Nat.reduceLeDiff, Nat.reduceEqDiff, Int.reduceToNat, Int.reduceAdd, Int.reduceSub, Int.reduceMul, Int.reduceLT, Int.reduceLE, Int.reduceEq]
    refine AXa.go mixed (noΓ_ok) (noΔ_ok) (by kernel_rfl) ?_
    simp (disch := (first | assumption | omega | (simp only [List.length_take, List.length_drop, List.length_append, List.length_set, List.length_replicate, List.length_cons, List.length_nil, len_nats, len_ints, len_strs] <;> omega))) only [go_sem, Nat.reduceBEq, Nat.reduceSub, Nat.reduceAdd, Nat.reduceMul, Nat.reduceLT, Nat.reduceLeDiff, Nat.reduceEqDiff, Int.reduceToNat, Int.reduceAdd, Int.reduceSub, Int.reduceMul, Int.reduceLT, Int.reduceLE, Int.reduceEq]
    rw [List.take_length]
noncomputable def cSums : List V → Option PR := conOf (fun p : List Ent × Str × Bool => [.fs (cnts p.1) p.1.length, .str p.2.1, .bool p.2.2]) (fun p => p.1.length ≤ 1000000 ∧ ∀ e ∈ p.1, 0 ≤ e.2 ∧ e.2 ≤ 1000000) fun p => .ret (.int .i64 (wsum (selK p.2.2 p.2.1) p.1))
theorem cSums_eq (l : List Ent) (a : Str) (b : Bool) (hl : l.length ≤ 1000000) (hn : ∀ e ∈ l, 0 ≤ e.2 ∧ e.2 ≤ 1000000) : cSums [.fs (cnts l) l.length, .str a, .bool b] = some (.ret (.int .i64 (wsum (selK b a) l))) :=
  conOf_eq (pat := fun p : List Ent × Str × Bool => [.fs (cnts p.1) p.1.length, .str p.2.1, .bool p.2.2]) (fun x y h => by
    simp only [List.cons.injEq, V.fs.injEq, V.str.injEq, V.bool.injEq, and_true] at h
    exact Prod.ext (cnts_inj h.1.1) (Prod.ext h.2.1 h.2.2)) (l, a, b) ⟨hl, hn⟩
theorem cSums_ok : ∀ args r, cSums args = some r → PCall Tryz.prog 15 args r := conOf_ok fun p h => sums_ok p.1 p.2.1 p.2.2 h.1 h.2
attribute [go_sem] cSums_eq
theorem vB_of {q : Str → Bool} {xs : List Ent} (o : Ones xs) (hl : xs.length ≤ 30000) (hq : ∀ e ∈ xs, q e.1.1 = true ∧ q e.1.2 = true) : vB q (xs.foldl ins []) = true := by
  have p := fold_perm xs (l := []) (m := []) .nil .nil (.refl _)
  have hll : (xs.foldl ins []).length ≤ 30000 := by rw [p.1.length_eq]; have := fold_upd_len xs []; simp at this; omega
  unfold vB
  rw [decide_eq_true hll, incB_inc p.2.1, Bool.true_and, Bool.and_true]
  refine List.all_eq_true.2 fun e he => ?_
  have h1 := mem_fold_ins (p := fun k => q k.1 = true ∧ q k.2 = true) xs (l := []) (fun e he => by cases he) hq e he
  have hv := val_mem p.2.1.dif he
  have e0 : val [] e.1 = 0 := rfl
  rw [val_fold_ins .nil, e0] at hv
  have h2 := o.tot e.1
  have hpos : 1 ≤ tot xs e.1 := by
    obtain ⟨x, hx, hxe⟩ := mem_fold_ins (p := fun k => ∃ x ∈ xs, x.1 = k) xs (l := []) (fun e he => by cases he) (fun x hx => ⟨x, hx, rfl⟩) e he
    exact hxe ▸ tot_pos o hx
  unfold goodB
  simp [h1.1, h1.2]
  omega
def cF (ss : List (List Tok)) : List Ent := (nextA ss).foldl ins []
def cG (ss : List (List Tok)) : List Ent := (emA ss).foldl ins []
theorem fold_srt2 (xs : List Ent) : srt (xs.foldl upd []) = xs.foldl ins [] := by
  have p := fold_perm xs (l := []) (m := []) .nil .nil (.refl _)
  exact (fold_srt _ _ (srt_inc _) (srt_perm p.2.2).symm).symm
theorem resC_ok {ss : List (List Tok)} (h : (resC ss).2.2 = 0) : (∀ s ∈ ss, senOK s = true) ∧ resC ss = (cF ss, cG ss, 0) := by
  unfold resC at h ⊢
  by_cases hB : senB ss = true
  · rw [if_pos hB] at h ⊢
    split at h
    · rename_i hl
      rw [if_pos hl, fold_srt2, fold_srt2]
      unfold senB at hB
      simp only [Bool.and_eq_true, decide_eq_true_eq] at hB
      exact ⟨List.all_eq_true.1 hB.2, rfl⟩
    · cases h
  · rw [if_neg hB] at h; cases h
theorem nextA_len : ∀ ss : List (List Tok), (nextA ss).length = totL ss + ss.length
  | [] => rfl
  | s :: ss => by
    have := nextA_len ss
    unfold nextA at this ⊢
    rw [List.flatMap_cons, List.length_append, this, totL, nextS, List.length_append, evN_len, List.length_cons]
    simp; omega
theorem emA_len : ∀ ss : List (List Tok), (emA ss).length = totL ss
  | [] => rfl
  | s :: ss => by
    have := emA_len ss
    unfold emA at this ⊢
    rw [List.flatMap_cons, List.length_append, this, totL]
    simp [emS]
theorem nameE_of {s : Str} (h : nameB s = true) : nameE s = true := by unfold nameE; rw [h, Bool.or_true]
theorem lastT_name : ∀ (s : List Tok) (p : Str), nameE p = true → shortS s → nameE (lastT p s) = true
  | [], _, h, _ => h
  | t :: s, p, _, hs => lastT_name s t.2 (nameE_of (hs t (List.mem_cons_self ..)).2) fun x hx => hs x (List.mem_cons_of_mem _ hx)
theorem evN_name : ∀ (s : List Tok) (p : Str), nameE p = true → shortS s → ∀ e ∈ evN p s, nameE e.1.1 = true ∧ nameE e.1.2 = true
  | [], _, _, _, _, h => by cases h
  | t :: s, p, h, hs, e, he => by
    have ht := nameE_of (hs t (List.mem_cons_self ..)).2
    rcases List.mem_cons.1 he with rfl | he
    · exact ⟨h, ht⟩
    · exact evN_name s t.2 ht (fun x hx => hs x (List.mem_cons_of_mem _ hx)) e he
theorem nextA_name {ss : List (List Tok)} (h : ∀ s ∈ ss, senOK s = true) : ∀ e ∈ nextA ss, nameE e.1.1 = true ∧ nameE e.1.2 = true := fun e he => by
  obtain ⟨s, hs, he⟩ := List.mem_flatMap.1 he
  have := senOK_short (h s hs)
  rcases List.mem_append.1 he with he | he
  · exact evN_name s [] rfl this e he
  · simp only [List.mem_cons, List.not_mem_nil, or_false] at he
    subst he
    exact ⟨lastT_name s [] rfl this, rfl⟩
theorem emA_name {ss : List (List Tok)} (h : ∀ s ∈ ss, senOK s = true) : ∀ e ∈ emA ss, nameB e.1.1 = true ∧ nameB e.1.2 = true := fun e he => by
  obtain ⟨s, hs, he⟩ := List.mem_flatMap.1 he
  obtain ⟨t, ht, rfl⟩ := List.mem_map.1 he
  have := senOK_short (h s hs) t ht
  exact ⟨this.2, this.1⟩
theorem vB_F {ss : List (List Tok)} (h : ∀ s ∈ ss, senOK s = true) (hl : (nextA ss).length ≤ 30000) : vB nameE (cF ss) = true := vB_of (nextA_ones ss) hl (nextA_name h)
theorem vB_G {ss : List (List Tok)} (h : ∀ s ∈ ss, senOK s = true) (hl : (emA ss).length ≤ 30000) : vB nameB (cG ss) = true := vB_of (emA_ones ss) hl (emA_name h)
theorem shortN {s : Str} (h : nameE s = true) : s.length ≤ 1000000 := by
  unfold nameE at h
  simp only [Bool.or_eq_true, beq_iff_eq] at h
  rcases h with rfl | h
  · simp
  · exact nameB_short h
theorem vB_q {q : Str → Bool} {l : List Ent} (h : vB q l = true) : ∀ e ∈ l, q e.1.1 = true ∧ q e.1.2 = true := fun e he => by
  unfold vB at h
  simp only [Bool.and_eq_true] at h
  have := List.all_eq_true.1 h.1.2 e he
  unfold goodB at this
  simp at this
  exact ⟨this.1.2, this.2⟩
theorem fold_fold {q : Str → Bool} {xs ys : List Ent} (o1 : Ones xs) (o2 : Ones ys) (h1 : vB q (xs.foldl ins []) = true) (h2 : vB q (ys.foldl ins []) = true) (h3 : vB q ((xs ++ ys).foldl ins []) = true) (hq : ∀ s, q s = true → s.length ≤ 1000000) :
    (ys.foldl ins []).foldl ins (xs.foldl ins []) = (xs ++ ys).foldl ins [] := by
  have f1 := vB_fine h1 fun e he => ⟨hq _ (vB_q h1 e he).1, hq _ (vB_q h1 e he).2⟩
  have f2 := vB_fine h2 fun e he => ⟨hq _ (vB_q h2 e he).1, hq _ (vB_q h2 e he).2⟩
  have f3 := vB_fine h3 fun e he => ⟨hq _ (vB_q h3 e he).1, hq _ (vB_q h3 e he).2⟩
  refine Inc.val_eq (fold_ins_perm f1.inc _).2.1 f3.inc (fun e he => by have := fold_mem_pos f1 f2 e he; omega) (fun e he => by have := f3.lo e he; omega) fun k => ?_
  rw [val_fold_ins f1.inc, tot_dif f2.inc.dif, val_fold_ins .nil, val_fold_ins .nil, val_fold_ins .nil, tot_append]
  have e0 : val [] k = 0 := rfl
  rw [e0]; omega
theorem merge_sum {l k : List (List Tok)} (hl : ∀ s ∈ l, senOK s = true) (hk : ∀ s ∈ k, senOK s = true) (n1 : totL l + l.length ≤ 10000) (n2 : totL k + k.length ≤ 10000) :
    validC (cF l) (cG l) = true ∧ resMg (cF l) (cG l) (cF k) (cG k) = (cF (l ++ k), cG (l ++ k), 0) := by
  have hlk : ∀ s ∈ l ++ k, senOK s = true := fun s hs => (List.mem_append.1 hs).elim (hl s) (hk s)
  have tl : totL (l ++ k) + (l ++ k).length ≤ 20000 := by rw [totL_app, List.length_append]; omega
  have a1 := vB_F hl (by rw [nextA_len]; omega)
  have a2 := vB_F hk (by rw [nextA_len]; omega)
  have a3 := vB_F hlk (by rw [nextA_len]; omega)
  have b1 := vB_G hl (by rw [emA_len]; omega)
  have b2 := vB_G hk (by rw [emA_len]; omega)
  have b3 := vB_G hlk (by rw [emA_len]; omega)
  have hv1 : validC (cF l) (cG l) = true := by unfold validC; rw [a1, b1]; rfl
  have hv2 : validC (cF k) (cG k) = true := by unfold validC; rw [a2, b2]; rfl
  have eF : (cF k).foldl ins (cF l) = cF (l ++ k) := by
    have a3' : vB nameE ((nextA l ++ nextA k).foldl ins []) = true := by rw [← nextA_app]; exact a3
    have := fold_fold (nextA_ones l) (nextA_ones k) a1 a2 a3' fun s hs => shortN hs
    unfold cF; rw [nextA_app]; exact this
  have eG : (cG k).foldl ins (cG l) = cG (l ++ k) := by
    have b3' : vB nameB ((emA l ++ emA k).foldl ins []) = true := by rw [← emA_app]; exact b3
    have := fold_fold (emA_ones l) (emA_ones k) b1 b2 b3' fun s hs => nameB_short hs
    unfold cG; rw [emA_app]; exact this
  have sE : ∀ {l : List Ent}, vB nameE l = true → shortL l := fun h e he => ⟨shortN (vB_q h e he).1, shortN (vB_q h e he).2⟩
  have sB : ∀ {l : List Ent}, vB nameB l = true → shortL l := fun h e he => ⟨nameB_short (vB_q h e he).1, nameB_short (vB_q h e he).2⟩
  obtain ⟨c1, c2⟩ := vB_fold a1 a2 (sE a1) (sE a2)
  obtain ⟨d1, d2⟩ := vB_fold b1 b2 (sB b1) (sB b2)
  rw [eF] at c1 c2
  rw [eG] at d1 d2
  refine ⟨hv1, ?_⟩
  unfold resMg
  rw [hv1, hv2, c1, d1, a3, b3, c2 a3, d2 b3]
  rfl
theorem sents_app (a b : List (List Tok)) : sents (a ++ b) = sents a ++ sents b := sentR.cells_append a b
theorem one_sents (a : List (List Tok)) : (sents a).all V.one = true := sentR.one_cells a
set_option maxHeartbeats 8000000 in
set_option maxRecDepth 100000 in
theorem sums2_ok (l k : List (List Tok)) (hl : fits l) (hk : fits k) : PCall Tryz.prog 5 [.fs (sents l) l.length, .fs (sents k) k.length] (.ret (.bool true)) := by
  refine PCall.walkA (rs := [.tmp 4]) [46, 0, 1, 4, 5, 6, 7, 8, 9, 10, 11, 12, 13, 14, 15, 16, 22, 39, 72, 76, 90, 106, 111, 146] [] mixed (extΓ_ok cLong_ok (extΓ_ok cAwake_ok (extΓ_ok cCount_ok (extΓ_ok cMg_ok (extΓ_ok cValid_ok (extΓ_ok cSameC_ok (extΓ_ok cSums_ok noΓ_ok))))))) (noΔ_ok) call5 Tryz.func5 rfl Tryz.ntmps5 rfl (by kernel_rfl) (by simp) (by simp [pure_bool, pure_int, pure_str, pure_fs, pure_fp, pure_fn, pure_agg, pure_tup, pure_nilS, pure_nilP, pure_natsP, pure_intsP, pure_strsP, pure_list, pure_cntsP, pure_sentsP]) ?_
  refine AXa.cut 5 rfl mixed (extΓ_ok cLong_ok (extΓ_ok cAwake_ok (extΓ_ok cCount_ok (extΓ_ok cMg_ok (extΓ_ok cValid_ok (extΓ_ok cSameC_ok (extΓ_ok cSums_ok noΓ_ok))))))) (noΔ_ok) (by kernel_rfl) ?_
  simp (disch := (first | assumption | omega | (simp only [List.length_take, List.length_drop, List.length_append, List.length_set, List.length_replicate, List.length_cons, List.length_nil, len_nats, len_ints, len_strs] <;> omega))) only [go_sem, Nat.reduceBEq, Nat.reduceSub, Nat.reduceAdd, Nat.reduceMul, Nat.reduceLT, Nat.reduceLeDiff, Nat.reduceEqDiff, Int.reduceToNat, Int.reduceAdd, Int.reduceSub, Int.reduceMul, Int.reduceLT, Int.reduceLE, Int.reduceEq]
  cases hb1 : longB l with
  | true => simp (disch := (first | assumption | omega | (simp only [List.length_take, List.length_drop, List.length_append, List.length_set, List.length_replicate, List.length_cons, List.length_nil, len_nats, len_ints, len_strs] <;> omega))) only [go_sem, Nat.reduceBEq, Nat.reduceSub, Nat.reduceAdd, Nat.reduceMul, Nat.reduceLT, Nat.reduceLeDiff, Nat.reduceEqDiff, Int.reduceToNat, Int.reduceAdd, Int.reduceSub, Int.reduceMul, Int.reduceLT, Int.reduceLE, Int.reduceEq]
  | false =>
  simp (disch := (first | assumption | omega | (simp only [List.length_take, List.length_drop, List.length_append, List.length_set, List.length_replicate, List.length_cons, List.length_nil, len_nats, len_ints, len_strs] <;> omega))) only [go_sem, Nat.reduceBEq, Nat.reduceSub, Nat.reduceAdd, Nat.reduceMul, Nat.reduceLT, Nat.reduceLeDiff, Nat.reduceEqDiff, Int.reduceToNat, Int.reduceAdd, Int.reduceSub, Int.reduceMul, Int.reduceLT, Int.reduceLE, Int.reduceEq]
  cases hb2 : longB k with
  | true => simp (disch := (first | assumption | omega | (simp only [List.length_take, List.length_drop, List.length_append, List.length_set, List.length_replicate, List.length_cons, List.length_nil, len_nats, len_ints, len_strs] <;> omega))) only [go_sem, Nat.reduceBEq, Nat.reduceSub, Nat.reduceAdd, Nat.reduceMul, Nat.reduceLT, Nat.reduceLeDiff, Nat.reduceEqDiff, Int.reduceToNat, Int.reduceAdd, Int.reduceSub, Int.reduceMul, Int.reduceLT, Int.reduceLE, Int.reduceEq]
  | false =>
  simp (disch := (first | assumption | omega | (simp only [List.length_take, List.length_drop, List.length_append, List.length_set, List.length_replicate, List.length_cons, List.length_nil, len_nats, len_ints, len_strs] <;> omega))) only [go_sem, cntV, Nat.reduceBEq, Nat.reduceSub, Nat.reduceAdd, Nat.reduceMul, Nat.reduceLT, Nat.reduceLeDiff, Nat.reduceEqDiff, Int.reduceToNat, Int.reduceAdd, Int.reduceSub, Int.reduceMul, Int.reduceLT, Int.reduceLE, Int.reduceEq]
  by_cases e0 : (resC l).2.2 = 0 ∧ (resC k).2.2 = 0
  rotate_left
  · have hb : (!decide ((resC l).2.2 = 0) || !decide ((resC k).2.2 = 0)) = true := by
      by_cases h1 : (resC l).2.2 = 0 <;> by_cases h2 : (resC k).2.2 = 0 <;> simp_all
    rw [hb]
    simp (disch := (first | assumption | omega | (simp only [List.length_take, List.length_drop, List.length_append, List.length_set, List.length_replicate, List.length_cons, List.length_nil, len_nats, len_ints, len_strs] <;> omega))) only [go_sem, Nat.reduceBEq, Nat.reduceSub, Nat.reduceAdd, Nat.reduceMul, Nat.reduceLT, Nat.reduceLeDiff, Nat.reduceEqDiff, Int.reduceToNat, Int.reduceAdd, Int.reduceSub, Int.reduceMul, Int.reduceLT, Int.reduceLE, Int.reduceEq]
  obtain ⟨s1, r1⟩ := resC_ok e0.1
  obtain ⟨s2, r2⟩ := resC_ok e0.2
  have bnd : ∀ {ss : List (List Tok)}, longB ss = false → totL ss + ss.length ≤ 10000 := fun {ss} h => by
    unfold longB at h
    simp at h
    omega
  have t1 := bnd hb1
  have t2 := bnd hb2
  obtain ⟨hv, hm⟩ := merge_sum s1 s2 t1 t2
  rw [r1, r2]
  have lF : (cF l).length ≤ 30000 := by have := (vB_iff (vB_F s1 (by rw [nextA_len]; omega))).1; omega
  have lG : (cG l).length ≤ 30000 := by have := (vB_iff (vB_G s1 (by rw [emA_len]; omega))).1; omega
  have lF2 : (cF k).length ≤ 30000 := by have := (vB_iff (vB_F s2 (by rw [nextA_len]; omega))).1; omega
  have lG2 : (cG k).length ≤ 30000 := by have := (vB_iff (vB_G s2 (by rw [emA_len]; omega))).1; omega
  simp (disch := (first | assumption | omega | (simp only [List.length_take, List.length_drop, List.length_append, List.length_set, List.length_replicate, List.length_cons, List.length_nil, len_nats, len_ints, len_strs] <;> omega))) only [go_sem, Nat.reduceBEq, Nat.reduceSub, Nat.reduceAdd, Nat.reduceMul, Nat.reduceLT, Nat.reduceLeDiff, Nat.reduceEqDiff, Int.reduceToNat, Int.reduceAdd, Int.reduceSub, Int.reduceMul, Int.reduceLT, Int.reduceLE, Int.reduceEq]
  have hlk : ∀ s ∈ l ++ k, senOK s = true := fun s hs => (List.mem_append.1 hs).elim (s1 s) (s2 s)
  have tlk : totL (l ++ k) + (l ++ k).length ≤ 20000 := by rw [totL_app, List.length_append]; omega
  have lF3 : (cF (l ++ k)).length ≤ 30000 := by have := (vB_iff (vB_F hlk (by rw [nextA_len]; omega))).1; omega
  have lG3 : (cG (l ++ k)).length ≤ 30000 := by have := (vB_iff (vB_G hlk (by rw [emA_len]; omega))).1; omega
  have z : ∀ {ss : List (List Tok)}, ss.length = 0 → sents ss = [] := fun {ss} h => by rw [List.eq_nil_of_length_eq_zero h]; rfl
  refine AXa.splitTo 5 [(46, .fs (sents (l ++ k)) (l ++ k).length), (7, .ptr 1 0), (5, .ptr 0 0), (4, .bool false), (0, .fs (sents l) l.length), (1, .fs (sents k) k.length)]
    ⟨[(1, .cells [.fs (cnts (cF k)) (cF k).length, .fs (cnts (cG k)) (cG k).length]), (0, .cells [.fs (cnts (cF l)) (cF l).length, .fs (cnts (cG l)) (cG l).length])], 2⟩ mixed (extΓ_ok cLong_ok (extΓ_ok cAwake_ok (extΓ_ok cCount_ok (extΓ_ok cMg_ok (extΓ_ok cValid_ok (extΓ_ok cSameC_ok (extΓ_ok cSums_ok noΓ_ok))))))) noΔ_ok (by kernel_rfl) ?_ ?_
  · have q1 : l.length = 0 ∨ (l.length = 0) = False ∧ (l.length ≤ 0) = False := by by_cases h : l.length = 0; exact .inl h; exact .inr ⟨eq_false h, eq_false (by omega)⟩
    have q2 : k.length = 0 ∨ (k.length = 0) = False ∧ (k.length ≤ 0) = False := by by_cases h : k.length = 0; exact .inl h; exact .inr ⟨eq_false h, eq_false (by omega)⟩
    rcases q1 with q1 | ⟨q1, q1'⟩ <;> rcases q2 with q2 | ⟨q2, q2'⟩
    · have e1 : l ++ k = [] := by rw [List.eq_nil_of_length_eq_zero q1, List.eq_nil_of_length_eq_zero q2]; rfl
      simp (disch := (first | assumption | omega | (simp only [List.length_take, List.length_drop, List.length_append, List.length_set, List.length_replicate, List.length_cons, List.length_nil, len_nats, len_ints, len_strs] <;> omega))) only [go_sem, q1, q2, z q1, z q2, Nat.reduceBEq, Nat.reduceSub, Nat.reduceAdd, Nat.reduceMul, Nat.reduceLT, Nat.reduceLeDiff, Nat.reduceEqDiff, Int.reduceToNat, Int.reduceAdd, Int.reduceSub, Int.reduceMul, Int.reduceLT, Int.reduceLE, Int.reduceEq]
      refine kto_fz [2] rfl rfl rfl ?_ ?_
      · simp (disch := (first | assumption | omega | (simp only [List.length_take, List.length_drop, List.length_append, List.length_set, List.length_replicate, List.length_cons, List.length_nil, len_nats, len_ints, len_strs] <;> omega))) only [go_sem, Nat.reduceBEq, Nat.reduceSub, Nat.reduceAdd, Nat.reduceMul, Nat.reduceLT, Nat.reduceLeDiff, Nat.reduceEqDiff, Int.reduceToNat, Int.reduceAdd, Int.reduceSub, Int.reduceMul, Int.reduceLT, Int.reduceLE, Int.reduceEq]
        exact ⟨.inr (FrzF.slp (by simp) rfl (by rw [e1]; rfl) (by simp) (by rw [e1]; rfl) (pure_sents _)), .inl ⟨by simp, rfl⟩, .inl ⟨by simp, rfl⟩, .inl fun x h => nomatch h⟩
      · simp (disch := (first | assumption | omega | (simp only [List.length_take, List.length_drop, List.length_append, List.length_set, List.length_replicate, List.length_cons, List.length_nil, len_nats, len_ints, len_strs] <;> omega))) only [go_sem, Nat.reduceBEq, Nat.reduceSub, Nat.reduceAdd, Nat.reduceMul, Nat.reduceLT, Nat.reduceLeDiff, Nat.reduceEqDiff, Int.reduceToNat, Int.reduceAdd, Int.reduceSub, Int.reduceMul, Int.reduceLT, Int.reduceLE, Int.reduceEq]
        exact ⟨by simp, by simp⟩
    · have e1 : l ++ k = k := by rw [List.eq_nil_of_length_eq_zero q1]; rfl
      simp (disch := (first | assumption | omega | (simp only [List.length_take, List.length_drop, List.length_append, List.length_set, List.length_replicate, List.length_cons, List.length_nil, len_nats, len_ints, len_strs] <;> omega))) only [go_sem, q1, q2, q2', z q1, one_sents, Nat.reduceBEq, Nat.reduceSub, Nat.reduceAdd, Nat.reduceMul, Nat.reduceLT, Nat.reduceLeDiff, Nat.reduceEqDiff, Int.reduceToNat, Int.reduceAdd, Int.reduceSub, Int.reduceMul, Int.reduceLT, Int.reduceLE, Int.reduceEq]
      (repeat refine And.intro (by first | omega | exact ⟨by omega, by omega⟩ | kernel_rfl | rfl | assumption | (intro h; exact ⟨h, by omega, by omega⟩) | (intro h; exact ⟨h, by omega⟩)) ?_)
      refine kto_fz [3] rfl rfl rfl ?_ ?_
      · simp (disch := (first | assumption | omega | (simp only [List.length_take, List.length_drop, List.length_append, List.length_set, List.length_replicate, List.length_cons, List.length_nil, len_nats, len_ints, len_strs] <;> omega))) only [go_sem, Nat.reduceBEq, Nat.reduceSub, Nat.reduceAdd, Nat.reduceMul, Nat.reduceLT, Nat.reduceLeDiff, Nat.reduceEqDiff, Int.reduceToNat, Int.reduceAdd, Int.reduceSub, Int.reduceMul, Int.reduceLT, Int.reduceLE, Int.reduceEq]
        exact ⟨.inr (FrzF.slp (by simp) rfl (by rw [e1]) (by rw [len_sents]; omega) (by rw [e1, List.drop_zero, List.take_of_length_le (by rw [len_sents]; omega)]) (pure_sents _)), .inl ⟨by simp, rfl⟩, .inl ⟨by simp, rfl⟩, .inl fun x h => nomatch h⟩
      · simp (disch := (first | assumption | omega | (simp only [List.length_take, List.length_drop, List.length_append, List.length_set, List.length_replicate, List.length_cons, List.length_nil, len_nats, len_ints, len_strs] <;> omega))) only [go_sem, Nat.reduceBEq, Nat.reduceSub, Nat.reduceAdd, Nat.reduceMul, Nat.reduceLT, Nat.reduceLeDiff, Nat.reduceEqDiff, Int.reduceToNat, Int.reduceAdd, Int.reduceSub, Int.reduceMul, Int.reduceLT, Int.reduceLE, Int.reduceEq]
        exact ⟨by simp, by simp⟩
    · have e1 : l ++ k = l := by rw [List.eq_nil_of_length_eq_zero q2]; simp
      simp (disch := (first | assumption | omega | (simp only [List.length_take, List.length_drop, List.length_append, List.length_set, List.length_replicate, List.length_cons, List.length_nil, len_nats, len_ints, len_strs] <;> omega))) only [go_sem, q1, q1', q2, z q2, one_sents, Nat.reduceBEq, Nat.reduceSub, Nat.reduceAdd, Nat.reduceMul, Nat.reduceLT, Nat.reduceLeDiff, Nat.reduceEqDiff, Int.reduceToNat, Int.reduceAdd, Int.reduceSub, Int.reduceMul, Int.reduceLT, Int.reduceLE, Int.reduceEq]
      (repeat refine And.intro (by first | omega | exact ⟨by omega, by omega⟩ | kernel_rfl | rfl | assumption | (intro h; exact ⟨h, by omega, by omega⟩) | (intro h; exact ⟨h, by omega⟩)) ?_)
      refine kto_fz [3] rfl rfl rfl ?_ ?_
      · simp (disch := (first | assumption | omega | (simp only [List.length_take, List.length_drop, List.length_append, List.length_set, List.length_replicate, List.length_cons, List.length_nil, len_nats, len_ints, len_strs] <;> omega))) only [go_sem, Nat.reduceBEq, Nat.reduceSub, Nat.reduceAdd, Nat.reduceMul, Nat.reduceLT, Nat.reduceLeDiff, Nat.reduceEqDiff, Int.reduceToNat, Int.reduceAdd, Int.reduceSub, Int.reduceMul, Int.reduceLT, Int.reduceLE, Int.reduceEq]
        exact ⟨.inr (FrzF.slp (by simp) rfl (by rw [e1]) (by rw [len_sents]; omega) (by rw [e1, List.drop_zero, List.take_of_length_le (by rw [len_sents]; omega)]) (pure_sents _)), .inl ⟨by simp, rfl⟩, .inl ⟨by simp, rfl⟩, .inl fun x h => nomatch h⟩
      · simp (disch := (first | assumption | omega | (simp only [List.length_take, List.length_drop, List.length_append, List.length_set, List.length_replicate, List.length_cons, List.length_nil, len_nats, len_ints, len_strs] <;> omega))) only [go_sem, Nat.reduceBEq, Nat.reduceSub, Nat.reduceAdd, Nat.reduceMul, Nat.reduceLT, Nat.reduceLeDiff, Nat.reduceEqDiff, Int.reduceToNat, Int.reduceAdd, Int.reduceSub, Int.reduceMul, Int.reduceLT, Int.reduceLE, Int.reduceEq]
        exact ⟨by simp, by simp⟩
    · have e1 : List.take l.length (sents l) = sents l := List.take_of_length_le (by rw [len_sents]; omega)
      simp (disch := (first | assumption | omega | (simp only [List.length_take, List.length_drop, List.length_append, List.length_set, List.length_replicate, List.length_cons, List.length_nil, len_nats, len_ints, len_strs] <;> omega))) only [go_sem, q1, q1', q2, q2', one_sents, Nat.reduceBEq, Nat.reduceSub, Nat.reduceAdd, Nat.reduceMul, Nat.reduceLT, Nat.reduceLeDiff, Nat.reduceEqDiff, Int.reduceToNat, Int.reduceAdd, Int.reduceSub, Int.reduceMul, Int.reduceLT, Int.reduceLE, Int.reduceEq]
      (repeat refine And.intro (by first | omega | exact ⟨by omega, by omega⟩ | kernel_rfl | rfl | assumption | (intro h; exact ⟨h, by omega, by omega⟩) | (intro h; exact ⟨h, by omega⟩)) ?_)
      refine kto_fz [4] rfl rfl rfl ?_ ?_
      · simp (disch := (first | assumption | omega | (simp only [List.length_take, List.length_drop, List.length_append, List.length_set, List.length_replicate, List.length_cons, List.length_nil, len_nats, len_ints, len_strs] <;> omega))) only [go_sem, Nat.reduceBEq, Nat.reduceSub, Nat.reduceAdd, Nat.reduceMul, Nat.reduceLT, Nat.reduceLeDiff, Nat.reduceEqDiff, Int.reduceToNat, Int.reduceAdd, Int.reduceSub, Int.reduceMul, Int.reduceLT, Int.reduceLE, Int.reduceEq]
        exact ⟨.inr (FrzF.slp (by simp) rfl (by rw [List.length_append]) (by rw [e1, List.length_append, len_sents, len_sents]; omega) (by rw [e1, ← sents_app, List.drop_zero, List.take_of_length_le (by rw [len_sents, List.length_append]; omega)]) (pure_sents _)), .inl ⟨by simp, rfl⟩, .inl ⟨by simp, rfl⟩⟩
      · simp (disch := (first | assumption | omega | (simp only [List.length_take, List.length_drop, List.length_append, List.length_set, List.length_replicate, List.length_cons, List.length_nil, len_nats, len_ints, len_strs] <;> omega))) only [go_sem, Nat.reduceBEq, Nat.reduceSub, Nat.reduceAdd, Nat.reduceMul, Nat.reduceLT, Nat.reduceLeDiff, Nat.reduceEqDiff, Int.reduceToNat, Int.reduceAdd, Int.reduceSub, Int.reduceMul, Int.reduceLT, Int.reduceLE, Int.reduceEq]
        exact ⟨by simp, by simp⟩
  generalize hR : resC (l ++ k) = R
  have hR3 : R.2.2 = 0 → R = (cF (l ++ k), cG (l ++ k), 0) := fun h => by
    have := (resC_ok (ss := l ++ k) (by rw [hR]; exact h)).2
    rwa [hR] at this
  simp (disch := (first | assumption | omega | (simp only [List.length_take, List.length_drop, List.length_append, List.length_set, List.length_replicate, List.length_cons, List.length_nil, len_nats, len_ints, len_strs] <;> omega))) only [go_sem, hR, cntV, Nat.reduceBEq, Nat.reduceSub, Nat.reduceAdd, Nat.reduceMul, Nat.reduceLT, Nat.reduceLeDiff, Nat.reduceEqDiff, Int.reduceToNat, Int.reduceAdd, Int.reduceSub, Int.reduceMul, Int.reduceLT, Int.reduceLE, Int.reduceEq]
  refine AXa.cutTo 2 [(5, .ptr 0 0), (4, .bool false), (0, .fs (sents l) l.length), (1, .fs (sents k) k.length)] ⟨[(0, .cells [.fs (cnts (cF l)) (cF l).length, .fs (cnts (cG l)) (cG l).length])], 1⟩ rfl mixed (extΓ_ok cLong_ok (extΓ_ok cAwake_ok (extΓ_ok cCount_ok (extΓ_ok cMg_ok (extΓ_ok cValid_ok (extΓ_ok cSameC_ok (extΓ_ok cSums_ok noΓ_ok))))))) noΔ_ok (by kernel_rfl) ?_ ?_
  · simp (disch := (first | assumption | omega | (simp only [List.length_take, List.length_drop, List.length_append, List.length_set, List.length_replicate, List.length_cons, List.length_nil, len_nats, len_ints, len_strs] <;> omega))) only [go_sem, hm, hv, resV, Nat.reduceBEq, Nat.reduceSub, Nat.reduceAdd, Nat.reduceMul, Nat.reduceLT, Nat.reduceLeDiff, Nat.reduceEqDiff, Int.reduceToNat, Int.reduceAdd, Int.reduceSub, Int.reduceMul, Int.reduceLT, Int.reduceLE, Int.reduceEq]
    by_cases e3 : R.2.2 = 0
    · have r3 := hR3 e3
      subst r3
      simp (disch := (first | assumption | omega | (simp only [List.length_take, List.length_drop, List.length_append, List.length_set, List.length_replicate, List.length_cons, List.length_nil, len_nats, len_ints, len_strs] <;> omega))) only [go_sem, Nat.reduceBEq, Nat.reduceSub, Nat.reduceAdd, Nat.reduceMul, Nat.reduceLT, Nat.reduceLeDiff, Nat.reduceEqDiff, Int.reduceToNat, Int.reduceAdd, Int.reduceSub, Int.reduceMul, Int.reduceLT, Int.reduceLE, Int.reduceEq]
      refine .inl (Sub.of0 [] rfl rfl ?_ ?_)
      · simp (disch := (first | assumption | omega | (simp only [List.length_take, List.length_drop, List.length_append, List.length_set, List.length_replicate, List.length_cons, List.length_nil, len_nats, len_ints, len_strs] <;> omega))) only [go_sem, Nat.reduceBEq, Nat.reduceSub, Nat.reduceAdd, Nat.reduceMul, Nat.reduceLT, Nat.reduceLeDiff, Nat.reduceEqDiff, Int.reduceToNat, Int.reduceAdd, Int.reduceSub, Int.reduceMul, Int.reduceLT, Int.reduceLE, Int.reduceEq]
      · simp (disch := (first | assumption | omega | (simp only [List.length_take, List.length_drop, List.length_append, List.length_set, List.length_replicate, List.length_cons, List.length_nil, len_nats, len_ints, len_strs] <;> omega))) only [go_sem, Nat.reduceBEq, Nat.reduceSub, Nat.reduceAdd, Nat.reduceMul, Nat.reduceLT, Nat.reduceLeDiff, Nat.reduceEqDiff, Int.reduceToNat, Int.reduceAdd, Int.reduceSub, Int.reduceMul, Int.reduceLT, Int.reduceLE, Int.reduceEq]
    · simp (disch := (first | assumption | omega | (simp only [List.length_take, List.length_drop, List.length_append, List.length_set, List.length_replicate, List.length_cons, List.length_nil, len_nats, len_ints, len_strs] <;> omega))) only [go_sem, e3, axg1_any, pick_fany, Nat.reduceBEq, Nat.reduceSub, Nat.reduceAdd, Nat.reduceMul, Nat.reduceLT, Nat.reduceLeDiff, Nat.reduceEqDiff, Int.reduceToNat, Int.reduceAdd, Int.reduceSub, Int.reduceMul, Int.reduceLT, Int.reduceLE, Int.reduceEq]
      refine .inl (Sub.of0 [] rfl rfl ?_ ?_)
      · simp (disch := (first | assumption | omega | (simp only [List.length_take, List.length_drop, List.length_append, List.length_set, List.length_replicate, List.length_cons, List.length_nil, len_nats, len_ints, len_strs] <;> omega))) only [go_sem, Nat.reduceBEq, Nat.reduceSub, Nat.reduceAdd, Nat.reduceMul, Nat.reduceLT, Nat.reduceLeDiff, Nat.reduceEqDiff, Int.reduceToNat, Int.reduceAdd, Int.reduceSub, Int.reduceMul, Int.reduceLT, Int.reduceLE, Int.reduceEq]
      · simp (disch := (first | assumption | omega | (simp only [List.length_take, List.length_drop, List.length_append, List.length_set, List.length_replicate, List.length_cons, List.length_nil, len_nats, len_ints, len_strs] <;> omega))) only [go_sem, Nat.reduceBEq, Nat.reduceSub, Nat.reduceAdd, Nat.reduceMul, Nat.reduceLT, Nat.reduceLeDiff, Nat.reduceEqDiff, Int.reduceToNat, Int.reduceAdd, Int.reduceSub, Int.reduceMul, Int.reduceLT, Int.reduceLE, Int.reduceEq]
  have hFl : ∀ e ∈ cF l, 0 ≤ e.2 ∧ e.2 ≤ 1000000 := fun e he => by have := (vB_iff (vB_F s1 (by rw [nextA_len]; omega))).2 e he; omega
  have hGl : ∀ e ∈ cG l, 0 ≤ e.2 ∧ e.2 ≤ 1000000 := fun e he => by have := (vB_iff (vB_G s1 (by rw [emA_len]; omega))).2 e he; omega
  have wF : ∀ p, wsum p (cF l) = wsum p (nextA l) := fun p => wsum_ins p _
  have wG : ∀ p, wsum p (cG l) = wsum p (emA l) := fun p => wsum_ins p _
  have wall : wsum (fun _ => true) (cF l) = totL l + l.length := by rw [wF, wsum_ones (nextA_ones l), nextA_len]; omega
  have nG := vB_q (vB_G s1 (by rw [emA_len]; omega))
  refine AXa.go mixed (extΓ_ok cLong_ok (extΓ_ok cAwake_ok (extΓ_ok cCount_ok (extΓ_ok cMg_ok (extΓ_ok cValid_ok (extΓ_ok cSameC_ok (extΓ_ok cSums_ok noΓ_ok))))))) (noΔ_ok) (by kernel_rfl) ?_
  simp only [go_sem, Nat.reduceBEq, Nat.reduceSub, Nat.reduceAdd, Nat.reduceMul, Nat.reduceLT, Nat.reduceLeDiff, Nat.reduceEqDiff, Int.reduceToNat, Int.reduceAdd, Int.reduceSub, Int.reduceMul, Int.reduceLT, Int.reduceLE, Int.reduceEq]
  refine AXs.loop mixed (extΓ_ok cLong_ok (extΓ_ok cAwake_ok (extΓ_ok cCount_ok (extΓ_ok cMg_ok (extΓ_ok cValid_ok (extΓ_ok cSameC_ok (extΓ_ok cSums_ok noΓ_ok))))))) (noΔ_ok) (fun i : Nat => [(0, .fs (sents l) l.length), (5, .ptr 0 0), (11, .int .i64 (totL (l.take i) : Nat)), (12, .int .i64 0), (13, .int .i64 i)]) (fun _ => ⟨[(0, .cells [.fs (cnts (cF l)) (cF l).length, .fs (cnts (cG l)) (cG l).length])], 1⟩) (fun i => i ≤ l.length) (fun i => l.length - i) 0 (by kernel_rfl) (Nat.zero_le _) (Sub.of0 [] rfl rfl ?_ ?_) ?_
  · simp only [go_sem, Nat.reduceBEq, Nat.reduceSub, Nat.reduceAdd, Nat.reduceMul, Nat.reduceLT, Nat.reduceLeDiff, Nat.reduceEqDiff, Int.reduceToNat, Int.reduceAdd, Int.reduceSub, Int.reduceMul, Int.reduceLT, Int.reduceLE, Int.reduceEq]
    rfl
  · simp only [go_sem, Nat.reduceBEq, Nat.reduceSub, Nat.reduceAdd, Nat.reduceMul, Nat.reduceLT, Nat.reduceLeDiff, Nat.reduceEqDiff, Int.reduceToNat, Int.reduceAdd, Int.reduceSub, Int.reduceMul, Int.reduceLT, Int.reduceLE, Int.reduceEq]
  · intro i h1
    simp only [go_sem, Nat.reduceBEq, Nat.reduceSub, Nat.reduceAdd, Nat.reduceMul, Nat.reduceLT, Nat.reduceLeDiff, Nat.reduceEqDiff, Int.reduceToNat, Int.reduceAdd, Int.reduceSub, Int.reduceMul, Int.reduceLT, Int.reduceLE, Int.reduceEq]
    refine AXc.introP (fun h2 => ?_) (fun h2 => ?_)
    · have hi : i < l.length := by omega
      have at1 := sents_at l i hi
      have ts := totL_step l i hi
      have tl := totL_le l (i + 1)
      simp (disch := (first | assumption | omega | (simp only [List.length_take, List.length_drop, List.length_append, List.length_set, List.length_replicate, List.length_cons, List.length_nil, len_nats, len_ints, len_strs] <;> omega))) only [go_sem, at1, Nat.reduceBEq, Nat.reduceSub, Nat.reduceAdd, Nat.reduceMul, Nat.reduceLT, Nat.reduceLeDiff, Nat.reduceEqDiff, Int.reduceToNat, Int.reduceAdd, Int.reduceSub, Int.reduceMul, Int.reduceLT, Int.reduceLE, Int.reduceEq]
      (repeat refine And.intro (by first | omega | exact ⟨by omega, by omega⟩ | kernel_rfl | rfl | assumption | (intro h; exact ⟨h, by omega, by omega⟩) | (intro h; exact ⟨h, by omega⟩)) ?_)
      refine loopK_norm (i + 1) (by omega) (by omega) (Sub.of0 [] rfl rfl ?_ ?_)
      · simp (disch := (first | assumption | omega | (simp only [List.length_take, List.length_drop, List.length_append, List.length_set, List.length_replicate, List.length_cons, List.length_nil, len_nats, len_ints, len_strs] <;> omega))) only [go_sem, ts, Nat.reduceBEq, Nat.reduceSub, Nat.reduceAdd, Nat.reduceMul, Nat.reduceLT, Nat.reduceLeDiff, Nat.reduceEqDiff, Int.reduceToNat, Int.reduceAdd, Int.reduceSub, Int.reduceMul, Int.reduceLT, Int.reduceLE, Int.reduceEq]
        simp
      · simp only [go_sem, Nat.reduceBEq, Nat.reduceSub, Nat.reduceAdd, Nat.reduceMul, Nat.reduceLT, Nat.reduceLeDiff, Nat.reduceEqDiff, Int.reduceToNat, Int.reduceAdd, Int.reduceSub, Int.reduceMul, Int.reduceLT, Int.reduceLE, Int.reduceEq]
    have : i = l.length := by omega
    subst this
    rw [List.take_length]
    simp only [go_sem, Nat.reduceBEq, Nat.reduceSub, Nat.reduceAdd, Nat.reduceMul, Nat.reduceLT, Nat.reduceLeDiff, Nat.reduceEqDiff, Int.reduceToNat, Int.reduceAdd, Int.reduceSub, Int.reduceMul, Int.reduceLT, Int.reduceLE, Int.reduceEq]
    refine AXa.go mixed (extΓ_ok cLong_ok (extΓ_ok cAwake_ok (extΓ_ok cCount_ok (extΓ_ok cMg_ok (extΓ_ok cValid_ok (extΓ_ok cSameC_ok (extΓ_ok cSums_ok noΓ_ok))))))) (noΔ_ok) (by kernel_rfl) ?_
    simp only [go_sem, Nat.reduceBEq, Nat.reduceSub, Nat.reduceAdd, Nat.reduceMul, Nat.reduceLT, Nat.reduceLeDiff, Nat.reduceEqDiff, Int.reduceToNat, Int.reduceAdd, Int.reduceSub, Int.reduceMul, Int.reduceLT, Int.reduceLE, Int.reduceEq]
    refine AXs.loop mixed (extΓ_ok cLong_ok (extΓ_ok cAwake_ok (extΓ_ok cCount_ok (extΓ_ok cMg_ok (extΓ_ok cValid_ok (extΓ_ok cSameC_ok (extΓ_ok cSums_ok noΓ_ok))))))) (noΔ_ok) (fun i : Nat => [(0, .fs (sents l) l.length), (5, .ptr 0 0), (11, .int .i64 (totL l : Nat)), (12, .int .i64 (wsum (fun _ => true) ((cF l).take i))), (14, .int .i64 i)]) (fun _ => ⟨[(0, .cells [.fs (cnts (cF l)) (cF l).length, .fs (cnts (cG l)) (cG l).length])], 1⟩) (fun i => i ≤ (cF l).length) (fun i => (cF l).length - i) 0 (by kernel_rfl) (Nat.zero_le _) (Sub.of0 [] rfl rfl ?_ ?_) ?_
    · simp only [go_sem, Nat.reduceBEq, Nat.reduceSub, Nat.reduceAdd, Nat.reduceMul, Nat.reduceLT, Nat.reduceLeDiff, Nat.reduceEqDiff, Int.reduceToNat, Int.reduceAdd, Int.reduceSub, Int.reduceMul, Int.reduceLT, Int.reduceLE, Int.reduceEq]
      rfl
    · simp only [go_sem, Nat.reduceBEq, Nat.reduceSub, Nat.reduceAdd, Nat.reduceMul, Nat.reduceLT, Nat.reduceLeDiff, Nat.reduceEqDiff, Int.reduceToNat, Int.reduceAdd, Int.reduceSub, Int.reduceMul, Int.reduceLT, Int.reduceLE, Int.reduceEq]
    intro i h1
    simp only [go_sem, Nat.reduceBEq, Nat.reduceSub, Nat.reduceAdd, Nat.reduceMul, Nat.reduceLT, Nat.reduceLeDiff, Nat.reduceEqDiff, Int.reduceToNat, Int.reduceAdd, Int.reduceSub, Int.reduceMul, Int.reduceLT, Int.reduceLE, Int.reduceEq]
    refine AXc.introP (fun h2 => ?_) (fun h2 => ?_)
    · have hi : i < (cF l).length := by omega
      have at1 := cnts_at (cF l) i hi
      have hs : wsum (fun _ => true) ((cF l).take (i + 1)) = wsum (fun _ => true) ((cF l).take i) + (nthE (cF l) i).2 := by
        have : (cF l).take (i + 1) = (cF l).take i ++ [nthE (cF l) i] := by
          rw [List.take_add_one, nthE, List.getD_eq_getElem?_getD, List.getElem?_eq_getElem hi]; rfl
        rw [this, wsum_app]; simp [wsum]
      have hb := wsum_mono (p := fun _ => true) (l := (cF l).take i) fun e he => hFl e (List.mem_of_mem_take he)
      have hlt : ((cF l).take i).length ≤ 30000 := by simp; omega
      have hne := hFl _ (nthE_mem hi)
      simp (disch := (first | assumption | omega | (simp only [List.length_take, List.length_drop, List.length_append, List.length_set, List.length_replicate, List.length_cons, List.length_nil, len_nats, len_ints, len_strs] <;> omega))) only [go_sem, at1, Nat.reduceBEq, Nat.reduceSub, Nat.reduceAdd, Nat.reduceMul, Nat.reduceLT, Nat.reduceLeDiff, Nat.reduceEqDiff, Int.reduceToNat, Int.reduceAdd, Int.reduceSub, Int.reduceMul, Int.reduceLT, Int.reduceLE, Int.reduceEq]
      (repeat refine And.intro (by first | omega | exact ⟨by omega, by omega⟩ | kernel_rfl | rfl | assumption | (intro h; exact ⟨h, by omega, by omega⟩) | (intro h; exact ⟨h, by omega⟩)) ?_)
      refine loopK_norm (i + 1) (by omega) (by omega) (Sub.of0 [] rfl rfl ?_ ?_)
      · simp (disch := (first | assumption | omega | (simp only [List.length_take, List.length_drop, List.length_append, List.length_set, List.length_replicate, List.length_cons, List.length_nil, len_nats, len_ints, len_strs] <;> omega))) only [go_sem, hs, Nat.reduceBEq, Nat.reduceSub, Nat.reduceAdd, Nat.reduceMul, Nat.reduceLT, Nat.reduceLeDiff, Nat.reduceEqDiff, Int.reduceToNat, Int.reduceAdd, Int.reduceSub, Int.reduceMul, Int.reduceLT, Int.reduceLE, Int.reduceEq]
        simp
      · simp only [go_sem, Nat.reduceBEq, Nat.reduceSub, Nat.reduceAdd, Nat.reduceMul, Nat.reduceLT, Nat.reduceLeDiff, Nat.reduceEqDiff, Int.reduceToNat, Int.reduceAdd, Int.reduceSub, Int.reduceMul, Int.reduceLT, Int.reduceLE, Int.reduceEq]
    have : i = (cF l).length := by omega
    subst this
    rw [List.take_length, wall]
    simp only [go_sem, Nat.reduceBEq, Nat.reduceSub, Nat.reduceAdd, Nat.reduceMul, Nat.reduceLT, Nat.reduceLeDiff, Nat.reduceEqDiff, Int.reduceToNat, Int.reduceAdd, Int.reduceSub, Int.reduceMul, Int.reduceLT, Int.reduceLE, Int.reduceEq]
    refine AXa.go mixed (extΓ_ok cLong_ok (extΓ_ok cAwake_ok (extΓ_ok cCount_ok (extΓ_ok cMg_ok (extΓ_ok cValid_ok (extΓ_ok cSameC_ok (extΓ_ok cSums_ok noΓ_ok))))))) (noΔ_ok) (by kernel_rfl) ?_
    simp (disch := (first | assumption | omega | (simp only [List.length_take, List.length_drop, List.length_append, List.length_set, List.length_replicate, List.length_cons, List.length_nil, len_nats, len_ints, len_strs] <;> omega))) only [go_sem, Nat.reduceBEq, Nat.reduceSub, Nat.reduceAdd, Nat.reduceMul, Nat.reduceLT, Nat.reduceLeDiff, Nat.reduceEqDiff, Int.reduceToNat, Int.reduceAdd, Int.reduceSub, Int.reduceMul, Int.reduceLT, Int.reduceLE, Int.reduceEq]
    refine AXs.loop mixed (extΓ_ok cLong_ok (extΓ_ok cAwake_ok (extΓ_ok cCount_ok (extΓ_ok cMg_ok (extΓ_ok cValid_ok (extΓ_ok cSameC_ok (extΓ_ok cSums_ok noΓ_ok))))))) (noΔ_ok) (fun i : Nat => [(5, .ptr 0 0), (15, .int .i64 i)]) (fun _ => ⟨[(0, .cells [.fs (cnts (cF l)) (cF l).length, .fs (cnts (cG l)) (cG l).length])], 1⟩) (fun i => i ≤ (cG l).length) (fun i => (cG l).length - i) 0 (by kernel_rfl) (Nat.zero_le _) (Sub.of0 [] rfl rfl ?_ ?_) ?_
    · simp only [go_sem, Nat.reduceBEq, Nat.reduceSub, Nat.reduceAdd, Nat.reduceMul, Nat.reduceLT, Nat.reduceLeDiff, Nat.reduceEqDiff, Int.reduceToNat, Int.reduceAdd, Int.reduceSub, Int.reduceMul, Int.reduceLT, Int.reduceLE, Int.reduceEq]
    · simp only [go_sem, Nat.reduceBEq, Nat.reduceSub, Nat.reduceAdd, Nat.reduceMul, Nat.reduceLT, Nat.reduceLeDiff, Nat.reduceEqDiff, Int.reduceToNat, Int.reduceAdd, Int.reduceSub, Int.reduceMul, Int.reduceLT, Int.reduceLE, Int.reduceEq]
    intro i h1
    simp only [go_sem, Nat.reduceBEq, Nat.reduceSub, Nat.reduceAdd, Nat.reduceMul, Nat.reduceLT, Nat.reduceLeDiff, Nat.reduceEqDiff, Int.reduceToNat, Int.reduceAdd, Int.reduceSub, Int.reduceMul, Int.reduceLT, Int.reduceLE, Int.reduceEq]
    refine AXc.introP (fun h2 => ?_) (fun h2 => ?_)
    · have hi : i < (cG l).length := by omega
      have at1 := cnts_at (cG l) i hi
      have ha : (nthE (cG l) i).1.1 ≠ [] := fun e => by
        have := (nG _ (nthE_mem hi)).1
        rw [e] at this; cases this
      have x1 : wsum (selK true (nthE (cG l) i).1.1) (cF l) = wsum (selK true (nthE (cG l) i).1.1) (cG l) := by rw [wF, wG]; exact sumA _ ha l
      have x2 : wsum (selK false (nthE (cG l) i).1.1) (cF l) = wsum (selK true (nthE (cG l) i).1.1) (cG l) := by rw [wF, wG]; exact sumB _ ha l
      simp (config := { maxSteps := 2000000 }) (disch := (first | assumption | omega | (simp only [List.length_take, List.length_drop, List.length_append, List.length_set, List.length_replicate, List.length_cons, List.length_nil, len_nats, len_ints, len_strs] <;> omega))) only [go_sem, at1, x1, x2, Nat.reduceBEq, Nat.reduceSub, Nat.reduceAdd, Nat.reduceMul, Nat.reduceLT, Nat.reduceLeDiff, Nat.reduceEqDiff, Int.reduceToNat, Int.reduceAdd, Int.reduceSub, Int.reduceMul, Int.reduceLT, Int.reduceLE, Int.reduceEq]
      (repeat refine And.intro (by first | omega | exact ⟨by omega, by omega⟩ | kernel_rfl | rfl | assumption | (intro h; exact ⟨h, by omega, by omega⟩) | (intro h; exact ⟨h, by omega⟩)) ?_)
      simp (config := { maxSteps := 2000000 }) (disch := (first | assumption | omega | (simp only [List.length_take, List.length_drop, List.length_append, List.length_set, List.length_replicate, List.length_cons, List.length_nil, len_nats, len_ints, len_strs] <;> omega))) only [go_sem, at1, x1, x2, Nat.reduceBEq, Nat.reduceSub, Nat.reduceAdd, Nat.reduceMul, Nat.reduceLT, Nat.reduceLeDiff, Nat.reduceEqDiff, Int.reduceToNat, Int.reduceAdd, Int.reduceSub, Int.reduceMul, Int.reduceLT, Int.reduceLE, Int.reduceEq]
      (repeat refine And.intro (by first | omega | exact ⟨by omega, by omega⟩ | kernel_rfl | rfl | assumption | (intro h; exact ⟨h, by omega, by omega⟩) | (intro h; exact ⟨h, by omega⟩)) ?_)
      simp (disch := (first | assumption | omega | (simp only [List.length_take, List.length_drop, List.length_append, List.length_set, List.length_replicate, List.length_cons, List.length_nil, len_nats, len_ints, len_strs] <;> omega))) only [go_sem, Nat.reduceBEq, Nat.reduceSub, Nat.reduceAdd, Nat.reduceMul, Nat.reduceLT, Nat.reduceLeDiff, Nat.reduceEqDiff, Int.reduceToNat, Int.reduceAdd, Int.reduceSub, Int.reduceMul, Int.reduceLT, Int.reduceLE, Int.reduceEq]
      refine loopK_norm (i + 1) (by omega) (by omega) (Sub.of0 [] rfl rfl ?_ ?_)
      · simp (disch := (first | assumption | omega | (simp only [List.length_take, List.length_drop, List.length_append, List.length_set, List.length_replicate, List.length_cons, List.length_nil, len_nats, len_ints, len_strs] <;> omega))) only [go_sem, Nat.reduceBEq, Nat.reduceSub, Nat.reduceAdd, Nat.reduceMul, Nat.reduceLT, Nat.reduceLeDiff, Nat.reduceEqDiff, Int.reduceToNat, Int.reduceAdd, Int.reduceSub, Int.reduceMul, Int.reduceLT, Int.reduceLE, Int.reduceEq]
        simp
      · simp only [go_sem, Nat.reduceBEq, Nat.reduceSub, Nat.reduceAdd, Nat.reduceMul, Nat.reduceLT, Nat.reduceLeDiff, Nat.reduceEqDiff, Int.reduceToNat, Int.reduceAdd, Int.reduceSub, Int.reduceMul, Int.reduceLT, Int.reduceLE, Int.reduceEq]
    simp only [go_sem, Nat.reduceBEq, Nat.reduceSub, Nat.reduceAdd, Nat.reduceMul, Nat.reduceLT, Nat.reduceLeDiff, Nat.reduceEqDiff, Int.reduceToNat, Int.reduceAdd, Int.reduceSub, Int.reduceMul, Int.reduceLT, Int.reduceLE, Int.reduceEq]
    refine AXa.go mixed (extΓ_ok cLong_ok (extΓ_ok cAwake_ok (extΓ_ok cCount_ok (extΓ_ok cMg_ok (extΓ_ok cValid_ok (extΓ_ok cSameC_ok (extΓ_ok cSums_ok noΓ_ok))))))) (noΔ_ok) (by kernel_rfl) ?_
    simp only [go_sem, Nat.reduceBEq, Nat.reduceSub, Nat.reduceAdd, Nat.reduceMul, Nat.reduceLT, Nat.reduceLeDiff, Nat.reduceEqDiff, Int.reduceToNat, Int.reduceAdd, Int.reduceSub, Int.reduceMul, Int.reduceLT, Int.reduceLE, Int.reduceEq]
end Go.Proofs
