/- The reference's merging. -/
import Derived.Test.YtajodjbnkeeonaaGreatDoorM9
set_option linter.unusedSimpArgs false
set_option linter.unusedVariables false
namespace Go.Proofs
open Go.Ab Go.Cnt
def AddOK (l : List Ent) (x : Ent) : Prop := l.length ≤ 1000000 ∧ Inc l ∧ shortL l ∧ shortK x.1 ∧ (∀ e ∈ l, 0 ≤ e.2 ∧ e.2 ≤ 1000000000) ∧ (0 ≤ x.2 ∧ x.2 ≤ 1000000000)
theorem addR_has (b : Nat) (l : List Ent) (n : Nat) (s t : Str) (d : Int) (bs : List (Nat × Blk)) (nx : Nat) (hb : lookB bs b = some (.cells (cnts l))) (hn : n = l.length) (h : AddOK l ((s, t), d)) (hh : has l (s, t) = true) (hk : ((keysB bs).all fun b => decide (b < nx)) = true) :
    conD AddR [.sl b 0 n 3 none, .agg [.str s, .str t, .int .i64 d]] ⟨bs, nx⟩ = some ⟨True, .sl b 0 (ins l ((s, t), d)).length 3 none, (⟨bs, nx⟩ : Hp).put b (.cells (cnts (ins l ((s, t), d)))), [b], [b]⟩ := by
  subst hn
  obtain ⟨h1, h2, h3, h4, h5, h6⟩ := h
  have hR : AddR [.sl b 0 l.length 3 none, .agg [.str s, .str t, .int .i64 d]] ⟨bs, nx⟩ ⟨True, .sl b 0 (ins l ((s, t), d)).length 3 none, (⟨bs, nx⟩ : Hp).put b (.cells (cnts (ins l ((s, t), d)))), [b], [b]⟩ :=
    ⟨b, l, ((s, t), d), (lookB_eq bs b).trans hb, h1, h2, h3, h4, h5, h6, keysLt hk, .inl ⟨rfl, hh, rfl⟩⟩
  exact conD_eq hR fun r' h' => addR_uniq hR h'
theorem addR_new (b : Nat) (l : List Ent) (n : Nat) (s t : Str) (d : Int) (bs : List (Nat × Blk)) (nx : Nat) (hb : lookB bs b = some (.cells (cnts l))) (hn : n = l.length) (h : AddOK l ((s, t), d)) (hh : has l (s, t) = false) (hk : ((keysB bs).all fun b => decide (b < nx)) = true) :
    conD AddR [.sl b 0 n 3 none, .agg [.str s, .str t, .int .i64 d]] ⟨bs, nx⟩ = some ⟨True, .sl nx 0 (ins l ((s, t), d)).length 3 none, ((⟨bs, nx⟩ : Hp).kill b).new (.cells (cnts (ins l ((s, t), d)))), [b], [b]⟩ := by
  subst hn
  obtain ⟨h1, h2, h3, h4, h5, h6⟩ := h
  have hR : AddR [.sl b 0 l.length 3 none, .agg [.str s, .str t, .int .i64 d]] ⟨bs, nx⟩ ⟨True, .sl nx 0 (ins l ((s, t), d)).length 3 none, ((⟨bs, nx⟩ : Hp).kill b).new (.cells (cnts (ins l ((s, t), d)))), [b], [b]⟩ :=
    ⟨b, l, ((s, t), d), (lookB_eq bs b).trans hb, h1, h2, h3, h4, h5, h6, keysLt hk, .inr (.inl ⟨rfl, hh, rfl⟩)⟩
  exact conD_eq hR fun r' h' => addR_uniq hR h'
noncomputable def Δa : FuncId → List V → Hp → Option AR := extΔ 25 (conD AddR) noΔ
theorem Δa_none (args : List V) (H : Hp) : Δa 27 args H = none := rfl
theorem Δa_ok : GoodΔ Tryz.prog Δa := extΔ_ok (conD_ok addR_ok) noΔ_ok
def insN (a b : List Ent) (i : Nat) : List Ent := (b.take i).foldl ins a
theorem insN_zero (a b : List Ent) : insN a b 0 = a := rfl
theorem insN_succ (a b : List Ent) (i : Nat) (h : i < b.length) : insN a b (i + 1) = ins (insN a b i) (nthE b i) := by
  have : b.take (i + 1) = b.take i ++ [nthE b i] := by
    rw [List.take_add_one, nthE, List.getD_eq_getElem?_getD, List.getElem?_eq_getElem h]; rfl
  unfold insN
  rw [this, List.foldl_append]; rfl
structure Fine (l : List Ent) : Prop where
  len : l.length ≤ 30000
  inc : Inc l
  short : shortL l
  lo : ∀ e ∈ l, 1 ≤ e.2 ∧ e.2 ≤ 1000000
theorem Fine.val {l : List Ent} (h : Fine l) (k : Key) : 0 ≤ val l k ∧ val l k ≤ 1000000 := val_bounds (by omega) (fun e he => by have := h.lo e he; omega) k
theorem take_dif {b : List Ent} (h : Dif b) (i : Nat) : Dif (b.take i) := h.sublist (List.take_sublist i b)
theorem Fine.ok {a b : List Ent} (ha : Fine a) (hb : Fine b) (i : Nat) : (insN a b i).length ≤ 60000 ∧ Inc (insN a b i) ∧ shortL (insN a b i) ∧ ∀ e ∈ insN a b i, 0 ≤ e.2 ∧ e.2 ≤ 1000000000 := by
  refine ⟨?_, (fold_ins_perm ha.inc _).2.1, mem_fold_ins _ ha.short fun e he => hb.short e (List.mem_of_mem_take he), fun e he => ?_⟩
  · have := fold_ins_len (b.take i) a
    have h1 := ha.len
    have h2 := hb.len
    have : (b.take i).length ≤ b.length := by simp; omega
    unfold insN; omega
  · have := mem_foldN (lo := 0) (hi := 1000000000) ha.inc he fun k => ?_
    · exact this
    · have h1 := ha.val k
      rw [tot_dif (take_dif hb.inc.dif i)]
      have h2 := val_bounds (l := b.take i) (hi := 1000000) (by omega) (fun e he => by have := hb.lo e (List.mem_of_mem_take he); omega) k
      omega
theorem Fine.add {a b : List Ent} (ha : Fine a) (hb : Fine b) {i : Nat} (hi : i < b.length) : AddOK (insN a b i) (((nthE b i).1.1, (nthE b i).1.2), (nthE b i).2) := by
  obtain ⟨h1, h2, h3, h4⟩ := ha.ok hb i
  have hm := nthE_mem hi
  have := hb.lo _ hm
  exact ⟨by omega, h2, h3, hb.short _ hm, h4, by omega, by omega⟩
theorem vB_inc {q : Str → Bool} {l : List Ent} (h : vB q l = true) : Inc l := by
  unfold vB at h
  simp only [Bool.and_eq_true] at h
  have h2 : ∀ i, i + 1 < l.length → lt (nthE l i).1 (nthE l (i + 1)).1 = true := by
    have := h.2
    unfold incB at this
    exact @of_decide_eq_true _ (Classical.propDecidable _) this
  have key : ∀ (d i : Nat), i + d + 1 < l.length → lt (nthE l i).1 (nthE l (i + d + 1)).1 = true := by
    intro d
    induction d with
    | zero => intro i hi; exact h2 i hi
    | succ d ih => intro i hi; exact lt_trans (ih i (by omega)) (h2 (i + d + 1) (by omega))
  refine List.pairwise_iff_getElem.2 fun i j hi hj hij => ?_
  have := key (j - i - 1) i (by omega)
  rw [show i + (j - i - 1) + 1 = j by omega] at this
  unfold nthE at this
  rwa [List.getD_eq_getElem?_getD, List.getD_eq_getElem?_getD, List.getElem?_eq_getElem hi, List.getElem?_eq_getElem hj] at this
theorem vB_fine {q : Str → Bool} {l : List Ent} (h : vB q l = true) (hs : shortL l) : Fine l := ⟨(vB_iff h).1, vB_inc h, hs, (vB_iff h).2⟩
theorem validC_fine {a b : List Ent} (h : validC a b = true) (ha : shortL a) (hb : shortL b) : Fine a ∧ Fine b := by
  unfold validC at h
  simp only [Bool.and_eq_true] at h
  exact ⟨vB_fine h.1 ha, vB_fine h.2 hb⟩
noncomputable def resR (a1 a2 b1 b2 : List Ent) : List Ent × List Ent × Int :=
  if (validC a1 a2 && validC b1 b2) = true then (if validC (b1.foldl ins a1) (b2.foldl ins a2) = true then (b1.foldl ins a1, b2.foldl ins a2, 0) else ([], [], 2)) else ([], [], 1)
theorem insN_all (a b : List Ent) : insN a b b.length = b.foldl ins a := by unfold insN; rw [List.take_length]
theorem take_cnts (l : List Ent) (n : Nat) (h : n = l.length) : (cnts l).take (n * 3) = cnts l := List.take_of_length_le (by rw [len_cnts]; omega)
theorem cnts_empty {l : List Ent} (h : l.length = 0) : cnts l = [] := by rw [List.eq_nil_of_length_eq_zero h]; rfl
set_option maxHeartbeats 4000000 in
theorem rMergeEE (a1 a2 b1 b2 : List Ent) (f1 : Fine a1) (f2 : Fine a2) (f3 : Fine b1) (f4 : Fine b2) (hv1 : validC a1 a2 = true) (hv2 : validC b1 b2 = true) (e1 : a1.length = 0) (e2 : a2.length = 0) :
    PCall Tryz.prog 13 [.agg [.fs (cnts a1) a1.length, .fs (cnts a2) a2.length], .agg [.fs (cnts b1) b1.length, .fs (cnts b2) b2.length]]
    (.ret (.tup [.agg [.fs (cnts (resR a1 a2 b1 b2).1) (resR a1 a2 b1 b2).1.length, .fs (cnts (resR a1 a2 b1 b2).2.1) (resR a1 a2 b1 b2).2.1.length], .int .i64 (resR a1 a2 b1 b2).2.2])) := by
  have l1 := f1.len
  have l2 := f2.len
  have l3 := f3.len
  have l4 := f4.len
  have s1 := f1.short
  have s2 := f2.short
  have s3 := f3.short
  have s4 := f4.short
  refine PCall.walk (rs := [.cell 4 27, .tmp 5]) [0, 1, 2, 3, 4, 5, 6, 7, 8, 16, 31, 47, 61] [] mixed (extΓ_ok cRValid_ok noΓ_ok) (Δa_ok) call13 Tryz.func13 rfl Tryz.ntmps13 rfl (by kernel_rfl) (by simp) (by simp [pure_bool, pure_int, pure_str, pure_fs, pure_fp, pure_fn, pure_agg, pure_tup, pure_nilS, pure_nilP, pure_natsP, pure_intsP, pure_strsP, pure_list, pure_cntsP]) ?_
  have n1 : a1.length = 0 ∨ (a1.length ≤ 0) = False := by by_cases h : a1.length = 0; exact .inl h; exact .inr (eq_false (by omega))
  have n2 : a2.length = 0 ∨ (a2.length ≤ 0) = False := by by_cases h : a2.length = 0; exact .inl h; exact .inr (eq_false (by omega))
  replace n1 := n1.resolve_left
  replace n2 := n2.resolve_left
  simp (disch := (first | assumption | omega | (simp only [List.length_take, List.length_drop, List.length_append, List.length_set, List.length_replicate, List.length_cons, List.length_nil, len_nats, len_ints, len_strs] <;> omega))) only [go_sem, hv1, hv2, e1, e2, Nat.reduceBEq, Nat.reduceSub, Nat.reduceAdd, Nat.reduceMul, Nat.reduceLT, Nat.reduceLeDiff, Nat.reduceEqDiff, Int.reduceToNat, Int.reduceAdd, Int.reduceSub, Int.reduceMul, Int.reduceLT, Int.reduceLE, Int.reduceEq]
  skip
  skip
  refine AXk.intro (by kernel_rfl) ?_
  simp (disch := (first | assumption | omega | (simp only [List.length_take, List.length_drop, List.length_append, List.length_set, List.length_replicate, List.length_cons, List.length_nil, len_nats, len_ints, len_strs] <;> omega))) only [go_sem, Nat.reduceBEq, Nat.reduceSub, Nat.reduceAdd, Nat.reduceMul, Nat.reduceLT, Nat.reduceLeDiff, Nat.reduceEqDiff, Int.reduceToNat, Int.reduceAdd, Int.reduceSub, Int.reduceMul, Int.reduceLT, Int.reduceLE, Int.reduceEq]
  refine AXs.loop mixed (extΓ_ok cRValid_ok noΓ_ok) ( Δa_ok) (fun i : Nat => [(7, .int .i64 i), (3, .ptr 1 0), (4, .ptr 2 0), (6, .ptr 5 0)])
    (fun i => ⟨[(5, .cells [.sl 3 0 (insN a1 b1 i).length 3 none, .sl 4 0 a2.length 3 none]), (4, .cells (cnts a2)), (3, .cells (cnts (insN a1 b1 i))), (2, .cells [.nilS, .nilS]), (1, .cells [.fs (cnts b1) b1.length, .fs (cnts b2) b2.length])], 6⟩)
    (fun i => i ≤ b1.length) (fun i => b1.length - i) 0 (by kernel_rfl) (Nat.zero_le _) (Sub.of0 [(3, 3), (4, 4), (5, 5)] rfl rfl ?_ ?_) ?_
  · simp only [go_sem, Nat.reduceBEq, Nat.reduceSub, Nat.reduceAdd, Nat.reduceMul, Nat.reduceLT, Nat.reduceLeDiff, Nat.reduceEqDiff, Int.reduceToNat, Int.reduceAdd, Int.reduceSub, Int.reduceMul, Int.reduceLT, Int.reduceLE, Int.reduceEq]
    try omega
  · simp only [go_sem, insN_zero, cnts_empty e1, cnts_empty e2, Nat.reduceBEq, Nat.reduceSub, Nat.reduceAdd, Nat.reduceMul, Nat.reduceLT, Nat.reduceLeDiff, Nat.reduceEqDiff, Int.reduceToNat, Int.reduceAdd, Int.reduceSub, Int.reduceMul, Int.reduceLT, Int.reduceLE, Int.reduceEq]
    try omega
  intro i h1
  simp only [go_sem, Nat.reduceBEq, Nat.reduceSub, Nat.reduceAdd, Nat.reduceMul, Nat.reduceLT, Nat.reduceLeDiff, Nat.reduceEqDiff, Int.reduceToNat, Int.reduceAdd, Int.reduceSub, Int.reduceMul, Int.reduceLT, Int.reduceLE, Int.reduceEq]
  refine AXc.introP (fun h2 => ?_) (fun h2 => ?_)
  · have hi : i < b1.length := by omega
    have at1 := cnts_at b1 i hi
    have ha := f1.add f3 hi
    have hs : insN a1 b1 (i + 1) = ins (insN a1 b1 i) (((nthE b1 i).1.1, (nthE b1 i).1.2), (nthE b1 i).2) := insN_succ a1 b1 i hi
    cases hh : has (insN a1 b1 i) ((nthE b1 i).1.1, (nthE b1 i).1.2) with
    | true =>
      have hA : Δa 25 [.sl 3 0 (insN a1 b1 i).length 3 none, .agg [.str (nthE b1 i).1.1, .str (nthE b1 i).1.2, .int .i64 (nthE b1 i).2]] ⟨[(5, .cells [.sl 3 0 (insN a1 b1 i).length 3 none, .sl 4 0 a2.length 3 none]), (4, .cells (cnts a2)), (3, .cells (cnts (insN a1 b1 i))), (2, .cells [.nilS, .nilS]), (1, .cells [.fs (cnts b1) b1.length, .fs (cnts b2) b2.length])], 6⟩ = _ := addR_has 3 (insN a1 b1 i) _ _ _ _ _ _ rfl rfl ha hh rfl
      simp (disch := (first | assumption | omega | (simp only [List.length_take, List.length_drop, List.length_append, List.length_set, List.length_replicate, List.length_cons, List.length_nil, len_nats, len_ints, len_strs] <;> omega))) only [go_sem, at1, hA, ← hs, Nat.reduceBEq, Nat.reduceSub, Nat.reduceAdd, Nat.reduceMul, Nat.reduceLT, Nat.reduceLeDiff, Nat.reduceEqDiff, Int.reduceToNat, Int.reduceAdd, Int.reduceSub, Int.reduceMul, Int.reduceLT, Int.reduceLE, Int.reduceEq]
      refine ⟨⟨by omega, by omega⟩, AXk.intro (by kernel_rfl) ?_⟩
      simp (disch := (first | assumption | omega | (simp only [List.length_take, List.length_drop, List.length_append, List.length_set, List.length_replicate, List.length_cons, List.length_nil, len_nats, len_ints, len_strs] <;> omega))) only [go_sem, Nat.reduceBEq, Nat.reduceSub, Nat.reduceAdd, Nat.reduceMul, Nat.reduceLT, Nat.reduceLeDiff, Nat.reduceEqDiff, Int.reduceToNat, Int.reduceAdd, Int.reduceSub, Int.reduceMul, Int.reduceLT, Int.reduceLE, Int.reduceEq]
      refine loopK_norm (i + 1) (by omega) (by omega) (Sub.of0 [] rfl rfl ?_ ?_)
      · simp only [go_sem, Nat.reduceBEq, Nat.reduceSub, Nat.reduceAdd, Nat.reduceMul, Nat.reduceLT, Nat.reduceLeDiff, Nat.reduceEqDiff, Int.reduceToNat, Int.reduceAdd, Int.reduceSub, Int.reduceMul, Int.reduceLT, Int.reduceLE, Int.reduceEq]
        try simp
      · simp only [go_sem, Nat.reduceBEq, Nat.reduceSub, Nat.reduceAdd, Nat.reduceMul, Nat.reduceLT, Nat.reduceLeDiff, Nat.reduceEqDiff, Int.reduceToNat, Int.reduceAdd, Int.reduceSub, Int.reduceMul, Int.reduceLT, Int.reduceLE, Int.reduceEq]
    | false =>
      have hA : Δa 25 [.sl 3 0 (insN a1 b1 i).length 3 none, .agg [.str (nthE b1 i).1.1, .str (nthE b1 i).1.2, .int .i64 (nthE b1 i).2]] ⟨[(5, .cells [.sl 3 0 (insN a1 b1 i).length 3 none, .sl 4 0 a2.length 3 none]), (4, .cells (cnts a2)), (3, .cells (cnts (insN a1 b1 i))), (2, .cells [.nilS, .nilS]), (1, .cells [.fs (cnts b1) b1.length, .fs (cnts b2) b2.length])], 6⟩ = _ := addR_new 3 (insN a1 b1 i) _ _ _ _ _ _ rfl rfl ha hh rfl
      simp (disch := (first | assumption | omega | (simp only [List.length_take, List.length_drop, List.length_append, List.length_set, List.length_replicate, List.length_cons, List.length_nil, len_nats, len_ints, len_strs] <;> omega))) only [go_sem, at1, hA, ← hs, Nat.reduceBEq, Nat.reduceSub, Nat.reduceAdd, Nat.reduceMul, Nat.reduceLT, Nat.reduceLeDiff, Nat.reduceEqDiff, Int.reduceToNat, Int.reduceAdd, Int.reduceSub, Int.reduceMul, Int.reduceLT, Int.reduceLE, Int.reduceEq]
      refine ⟨⟨by omega, by omega⟩, AXk.intro (by kernel_rfl) ?_⟩
      simp (disch := (first | assumption | omega | (simp only [List.length_take, List.length_drop, List.length_append, List.length_set, List.length_replicate, List.length_cons, List.length_nil, len_nats, len_ints, len_strs] <;> omega))) only [go_sem, Nat.reduceBEq, Nat.reduceSub, Nat.reduceAdd, Nat.reduceMul, Nat.reduceLT, Nat.reduceLeDiff, Nat.reduceEqDiff, Int.reduceToNat, Int.reduceAdd, Int.reduceSub, Int.reduceMul, Int.reduceLT, Int.reduceLE, Int.reduceEq]
      refine loopK_norm (i + 1) (by omega) (by omega) (Sub.of0 [(3, 6)] rfl rfl ?_ ?_)
      · simp only [go_sem, Nat.reduceBEq, Nat.reduceSub, Nat.reduceAdd, Nat.reduceMul, Nat.reduceLT, Nat.reduceLeDiff, Nat.reduceEqDiff, Int.reduceToNat, Int.reduceAdd, Int.reduceSub, Int.reduceMul, Int.reduceLT, Int.reduceLE, Int.reduceEq]
        try simp
      · simp only [go_sem, Nat.reduceBEq, Nat.reduceSub, Nat.reduceAdd, Nat.reduceMul, Nat.reduceLT, Nat.reduceLeDiff, Nat.reduceEqDiff, Int.reduceToNat, Int.reduceAdd, Int.reduceSub, Int.reduceMul, Int.reduceLT, Int.reduceLE, Int.reduceEq]
  have : i = b1.length := by omega
  subst this
  simp only [go_sem, Nat.reduceBEq, Nat.reduceSub, Nat.reduceAdd, Nat.reduceMul, Nat.reduceLT, Nat.reduceLeDiff, Nat.reduceEqDiff, Int.reduceToNat, Int.reduceAdd, Int.reduceSub, Int.reduceMul, Int.reduceLT, Int.reduceLE, Int.reduceEq]
  refine AXa.go mixed (extΓ_ok cRValid_ok noΓ_ok) ( Δa_ok) (by kernel_rfl) ?_
  simp (disch := (first | assumption | omega | (simp only [List.length_take, List.length_drop, List.length_append, List.length_set, List.length_replicate, List.length_cons, List.length_nil, len_nats, len_ints, len_strs] <;> omega))) only [go_sem, Nat.reduceBEq, Nat.reduceSub, Nat.reduceAdd, Nat.reduceMul, Nat.reduceLT, Nat.reduceLeDiff, Nat.reduceEqDiff, Int.reduceToNat, Int.reduceAdd, Int.reduceSub, Int.reduceMul, Int.reduceLT, Int.reduceLE, Int.reduceEq]
  refine AXs.loop mixed (extΓ_ok cRValid_ok noΓ_ok) ( Δa_ok) (fun i : Nat => [(8, .int .i64 i), (3, .ptr 1 0), (4, .ptr 2 0), (6, .ptr 5 0)])
    (fun i => ⟨[(5, .cells [.sl 3 0 (insN a1 b1 b1.length).length 3 none, .sl 4 0 (insN a2 b2 i).length 3 none]), (4, .cells (cnts (insN a2 b2 i))), (3, .cells (cnts (insN a1 b1 b1.length))), (2, .cells [.nilS, .nilS]), (1, .cells [.fs (cnts b1) b1.length, .fs (cnts b2) b2.length])], 6⟩)
    (fun i => i ≤ b2.length) (fun i => b2.length - i) 0 (by kernel_rfl) (Nat.zero_le _) (Sub.of0 [] rfl rfl ?_ ?_) ?_
  · simp only [go_sem, insN_zero, Nat.reduceBEq, Nat.reduceSub, Nat.reduceAdd, Nat.reduceMul, Nat.reduceLT, Nat.reduceLeDiff, Nat.reduceEqDiff, Int.reduceToNat, Int.reduceAdd, Int.reduceSub, Int.reduceMul, Int.reduceLT, Int.reduceLE, Int.reduceEq]
  · simp only [go_sem, insN_zero, Nat.reduceBEq, Nat.reduceSub, Nat.reduceAdd, Nat.reduceMul, Nat.reduceLT, Nat.reduceLeDiff, Nat.reduceEqDiff, Int.reduceToNat, Int.reduceAdd, Int.reduceSub, Int.reduceMul, Int.reduceLT, Int.reduceLE, Int.reduceEq]
  intro i h1
  simp only [go_sem, Nat.reduceBEq, Nat.reduceSub, Nat.reduceAdd, Nat.reduceMul, Nat.reduceLT, Nat.reduceLeDiff, Nat.reduceEqDiff, Int.reduceToNat, Int.reduceAdd, Int.reduceSub, Int.reduceMul, Int.reduceLT, Int.reduceLE, Int.reduceEq]
  refine AXc.introP (fun h2 => ?_) (fun h2 => ?_)
  · have hi : i < b2.length := by omega
    have at1 := cnts_at b2 i hi
    have ha := f2.add f4 hi
    have hs : insN a2 b2 (i + 1) = ins (insN a2 b2 i) (((nthE b2 i).1.1, (nthE b2 i).1.2), (nthE b2 i).2) := insN_succ a2 b2 i hi
    cases hh : has (insN a2 b2 i) ((nthE b2 i).1.1, (nthE b2 i).1.2) with
    | true =>
      have hA : Δa 25 [.sl 4 0 (insN a2 b2 i).length 3 none, .agg [.str (nthE b2 i).1.1, .str (nthE b2 i).1.2, .int .i64 (nthE b2 i).2]] ⟨[(5, .cells [.sl 3 0 (insN a1 b1 b1.length).length 3 none, .sl 4 0 (insN a2 b2 i).length 3 none]), (4, .cells (cnts (insN a2 b2 i))), (3, .cells (cnts (insN a1 b1 b1.length))), (2, .cells [.nilS, .nilS]), (1, .cells [.fs (cnts b1) b1.length, .fs (cnts b2) b2.length])], 6⟩ = _ := addR_has 4 (insN a2 b2 i) _ _ _ _ _ _ rfl rfl ha hh rfl
      simp (disch := (first | assumption | omega | (simp only [List.length_take, List.length_drop, List.length_append, List.length_set, List.length_replicate, List.length_cons, List.length_nil, len_nats, len_ints, len_strs] <;> omega))) only [go_sem, at1, hA, ← hs, Nat.reduceBEq, Nat.reduceSub, Nat.reduceAdd, Nat.reduceMul, Nat.reduceLT, Nat.reduceLeDiff, Nat.reduceEqDiff, Int.reduceToNat, Int.reduceAdd, Int.reduceSub, Int.reduceMul, Int.reduceLT, Int.reduceLE, Int.reduceEq]
      refine ⟨⟨by omega, by omega⟩, AXk.intro (by kernel_rfl) ?_⟩
      simp (disch := (first | assumption | omega | (simp only [List.length_take, List.length_drop, List.length_append, List.length_set, List.length_replicate, List.length_cons, List.length_nil, len_nats, len_ints, len_strs] <;> omega))) only [go_sem, Nat.reduceBEq, Nat.reduceSub, Nat.reduceAdd, Nat.reduceMul, Nat.reduceLT, Nat.reduceLeDiff, Nat.reduceEqDiff, Int.reduceToNat, Int.reduceAdd, Int.reduceSub, Int.reduceMul, Int.reduceLT, Int.reduceLE, Int.reduceEq]
      refine loopK_norm (i + 1) (by omega) (by omega) (Sub.of0 [] rfl rfl ?_ ?_)
      · simp only [go_sem, Nat.reduceBEq, Nat.reduceSub, Nat.reduceAdd, Nat.reduceMul, Nat.reduceLT, Nat.reduceLeDiff, Nat.reduceEqDiff, Int.reduceToNat, Int.reduceAdd, Int.reduceSub, Int.reduceMul, Int.reduceLT, Int.reduceLE, Int.reduceEq]
        try simp
      · simp only [go_sem, Nat.reduceBEq, Nat.reduceSub, Nat.reduceAdd, Nat.reduceMul, Nat.reduceLT, Nat.reduceLeDiff, Nat.reduceEqDiff, Int.reduceToNat, Int.reduceAdd, Int.reduceSub, Int.reduceMul, Int.reduceLT, Int.reduceLE, Int.reduceEq]
    | false =>
      have hA : Δa 25 [.sl 4 0 (insN a2 b2 i).length 3 none, .agg [.str (nthE b2 i).1.1, .str (nthE b2 i).1.2, .int .i64 (nthE b2 i).2]] ⟨[(5, .cells [.sl 3 0 (insN a1 b1 b1.length).length 3 none, .sl 4 0 (insN a2 b2 i).length 3 none]), (4, .cells (cnts (insN a2 b2 i))), (3, .cells (cnts (insN a1 b1 b1.length))), (2, .cells [.nilS, .nilS]), (1, .cells [.fs (cnts b1) b1.length, .fs (cnts b2) b2.length])], 6⟩ = _ := addR_new 4 (insN a2 b2 i) _ _ _ _ _ _ rfl rfl ha hh rfl
      simp (disch := (first | assumption | omega | (simp only [List.length_take, List.length_drop, List.length_append, List.length_set, List.length_replicate, List.length_cons, List.length_nil, len_nats, len_ints, len_strs] <;> omega))) only [go_sem, at1, hA, ← hs, Nat.reduceBEq, Nat.reduceSub, Nat.reduceAdd, Nat.reduceMul, Nat.reduceLT, Nat.reduceLeDiff, Nat.reduceEqDiff, Int.reduceToNat, Int.reduceAdd, Int.reduceSub, Int.reduceMul, Int.reduceLT, Int.reduceLE, Int.reduceEq]
      refine ⟨⟨by omega, by omega⟩, AXk.intro (by kernel_rfl) ?_⟩
      simp (disch := (first | assumption | omega | (simp only [List.length_take, List.length_drop, List.length_append, List.length_set, List.length_replicate, List.length_cons, List.length_nil, len_nats, len_ints, len_strs] <;> omega))) only [go_sem, Nat.reduceBEq, Nat.reduceSub, Nat.reduceAdd, Nat.reduceMul, Nat.reduceLT, Nat.reduceLeDiff, Nat.reduceEqDiff, Int.reduceToNat, Int.reduceAdd, Int.reduceSub, Int.reduceMul, Int.reduceLT, Int.reduceLE, Int.reduceEq]
      refine loopK_norm (i + 1) (by omega) (by omega) (Sub.of0 [(4, 6)] rfl rfl ?_ ?_)
      · simp only [go_sem, Nat.reduceBEq, Nat.reduceSub, Nat.reduceAdd, Nat.reduceMul, Nat.reduceLT, Nat.reduceLeDiff, Nat.reduceEqDiff, Int.reduceToNat, Int.reduceAdd, Int.reduceSub, Int.reduceMul, Int.reduceLT, Int.reduceLE, Int.reduceEq]
        try simp
      · simp only [go_sem, Nat.reduceBEq, Nat.reduceSub, Nat.reduceAdd, Nat.reduceMul, Nat.reduceLT, Nat.reduceLeDiff, Nat.reduceEqDiff, Int.reduceToNat, Int.reduceAdd, Int.reduceSub, Int.reduceMul, Int.reduceLT, Int.reduceLE, Int.reduceEq]
  have : i = b2.length := by omega
  subst this
  simp only [go_sem, Nat.reduceBEq, Nat.reduceSub, Nat.reduceAdd, Nat.reduceMul, Nat.reduceLT, Nat.reduceLeDiff, Nat.reduceEqDiff, Int.reduceToNat, Int.reduceAdd, Int.reduceSub, Int.reduceMul, Int.reduceLT, Int.reduceLE, Int.reduceEq]
  refine AXa.go mixed (extΓ_ok cRValid_ok noΓ_ok) ( Δa_ok) (by kernel_rfl) ?_
  simp (disch := (first | assumption | omega | (simp only [List.length_take, List.length_drop, List.length_append, List.length_set, List.length_replicate, List.length_cons, List.length_nil, len_nats, len_ints, len_strs] <;> omega))) only [go_sem, Nat.reduceBEq, Nat.reduceSub, Nat.reduceAdd, Nat.reduceMul, Nat.reduceLT, Nat.reduceLeDiff, Nat.reduceEqDiff, Int.reduceToNat, Int.reduceAdd, Int.reduceSub, Int.reduceMul, Int.reduceLT, Int.reduceLE, Int.reduceEq]
  obtain ⟨p1, p2, p3, p4⟩ := f1.ok f3 b1.length
  obtain ⟨q1, q2, q3, q4⟩ := f2.ok f4 b2.length
  have hR : resR a1 a2 b1 b2 = if validC (insN a1 b1 b1.length) (insN a2 b2 b2.length) = true then (insN a1 b1 b1.length, insN a2 b2 b2.length, 0) else ([], [], 2) := by
    unfold resR; rw [if_pos (by rw [hv1, hv2]; rfl), insN_all, insN_all]
  rw [hR]
  generalize insN a1 b1 b1.length = R1 at p1 p2 p3 p4 ⊢
  generalize insN a2 b2 b2.length = R2 at q1 q2 q3 q4 ⊢
  simp (disch := (first | assumption | omega | (simp only [List.length_take, List.length_drop, List.length_append, List.length_set, List.length_replicate, List.length_cons, List.length_nil, len_nats, len_ints, len_strs] <;> omega))) only [go_sem, take_cnts, Δa_none, Nat.reduceBEq, Nat.reduceSub, Nat.reduceAdd, Nat.reduceMul, Nat.reduceLT, Nat.reduceLeDiff, Nat.reduceEqDiff, Int.reduceToNat, Int.reduceAdd, Int.reduceSub, Int.reduceMul, Int.reduceLT, Int.reduceLE, Int.reduceEq]
  cases hw : validC R1 R2 with
  | true =>
    simp (disch := (first | assumption | omega | (simp only [List.length_take, List.length_drop, List.length_append, List.length_set, List.length_replicate, List.length_cons, List.length_nil, len_nats, len_ints, len_strs] <;> omega))) only [go_sem, Nat.reduceBEq, Nat.reduceSub, Nat.reduceAdd, Nat.reduceMul, Nat.reduceLT, Nat.reduceLeDiff, Nat.reduceEqDiff, Int.reduceToNat, Int.reduceAdd, Int.reduceSub, Int.reduceMul, Int.reduceLT, Int.reduceLE, Int.reduceEq]
    refine ⟨Frz.slp rfl rfl (by rw [len_cnts]; omega) ?_ (pure_cnts _), Frz.slp rfl rfl (by rw [len_cnts]; omega) ?_ (pure_cnts _)⟩
    · rw [List.drop_zero, List.take_of_length_le (by rw [len_cnts]; omega)]
    · rw [List.drop_zero, List.take_of_length_le (by rw [len_cnts]; omega)]
  | false =>
    simp (disch := (first | assumption | omega | (simp only [List.length_take, List.length_drop, List.length_append, List.length_set, List.length_replicate, List.length_cons, List.length_nil, len_nats, len_ints, len_strs] <;> omega))) only [go_sem, cnts_nil, Nat.reduceBEq, Nat.reduceSub, Nat.reduceAdd, Nat.reduceMul, Nat.reduceLT, Nat.reduceLeDiff, Nat.reduceEqDiff, Int.reduceToNat, Int.reduceAdd, Int.reduceSub, Int.reduceMul, Int.reduceLT, Int.reduceLE, Int.reduceEq]
set_option maxHeartbeats 4000000 in
theorem rMergeEN (a1 a2 b1 b2 : List Ent) (f1 : Fine a1) (f2 : Fine a2) (f3 : Fine b1) (f4 : Fine b2) (hv1 : validC a1 a2 = true) (hv2 : validC b1 b2 = true) (e1 : a1.length = 0) (e2 : ¬ a2.length = 0) :
    PCall Tryz.prog 13 [.agg [.fs (cnts a1) a1.length, .fs (cnts a2) a2.length], .agg [.fs (cnts b1) b1.length, .fs (cnts b2) b2.length]]
    (.ret (.tup [.agg [.fs (cnts (resR a1 a2 b1 b2).1) (resR a1 a2 b1 b2).1.length, .fs (cnts (resR a1 a2 b1 b2).2.1) (resR a1 a2 b1 b2).2.1.length], .int .i64 (resR a1 a2 b1 b2).2.2])) := by
  have l1 := f1.len
  have l2 := f2.len
  have l3 := f3.len
  have l4 := f4.len
  have s1 := f1.short
  have s2 := f2.short
  have s3 := f3.short
  have s4 := f4.short
  refine PCall.walk (rs := [.cell 4 27, .tmp 5]) [0, 1, 2, 3, 4, 5, 6, 7, 8, 16, 31, 47, 61] [] mixed (extΓ_ok cRValid_ok noΓ_ok) (Δa_ok) call13 Tryz.func13 rfl Tryz.ntmps13 rfl (by kernel_rfl) (by simp) (by simp [pure_bool, pure_int, pure_str, pure_fs, pure_fp, pure_fn, pure_agg, pure_tup, pure_nilS, pure_nilP, pure_natsP, pure_intsP, pure_strsP, pure_list, pure_cntsP]) ?_
  have n1 : a1.length = 0 ∨ (a1.length ≤ 0) = False := by by_cases h : a1.length = 0; exact .inl h; exact .inr (eq_false (by omega))
  have n2 : a2.length = 0 ∨ (a2.length ≤ 0) = False := by by_cases h : a2.length = 0; exact .inl h; exact .inr (eq_false (by omega))
  replace n1 := n1.resolve_left
  replace n2 := n2.resolve_left
  simp (disch := (first | assumption | omega | (simp only [List.length_take, List.length_drop, List.length_append, List.length_set, List.length_replicate, List.length_cons, List.length_nil, len_nats, len_ints, len_strs] <;> omega))) only [go_sem, hv1, hv2, e1, e2, n2 e2, Nat.reduceBEq, Nat.reduceSub, Nat.reduceAdd, Nat.reduceMul, Nat.reduceLT, Nat.reduceLeDiff, Nat.reduceEqDiff, Int.reduceToNat, Int.reduceAdd, Int.reduceSub, Int.reduceMul, Int.reduceLT, Int.reduceLE, Int.reduceEq]
  skip
  refine ⟨⟨by omega, by omega, one_cnts _⟩, ?_⟩
  refine AXk.intro (by kernel_rfl) ?_
  simp (disch := (first | assumption | omega | (simp only [List.length_take, List.length_drop, List.length_append, List.length_set, List.length_replicate, List.length_cons, List.length_nil, len_nats, len_ints, len_strs] <;> omega))) only [go_sem, Nat.reduceBEq, Nat.reduceSub, Nat.reduceAdd, Nat.reduceMul, Nat.reduceLT, Nat.reduceLeDiff, Nat.reduceEqDiff, Int.reduceToNat, Int.reduceAdd, Int.reduceSub, Int.reduceMul, Int.reduceLT, Int.reduceLE, Int.reduceEq]
  refine AXs.loop mixed (extΓ_ok cRValid_ok noΓ_ok) ( Δa_ok) (fun i : Nat => [(7, .int .i64 i), (3, .ptr 1 0), (4, .ptr 2 0), (6, .ptr 5 0)])
    (fun i => ⟨[(5, .cells [.sl 3 0 (insN a1 b1 i).length 3 none, .sl 4 0 a2.length 3 none]), (4, .cells (cnts a2)), (3, .cells (cnts (insN a1 b1 i))), (2, .cells [.nilS, .nilS]), (1, .cells [.fs (cnts b1) b1.length, .fs (cnts b2) b2.length])], 6⟩)
    (fun i => i ≤ b1.length) (fun i => b1.length - i) 0 (by kernel_rfl) (Nat.zero_le _) (Sub.of0 [(3, 3), (4, 5), (5, 6)] rfl rfl ?_ ?_) ?_
  · simp only [go_sem, Nat.reduceBEq, Nat.reduceSub, Nat.reduceAdd, Nat.reduceMul, Nat.reduceLT, Nat.reduceLeDiff, Nat.reduceEqDiff, Int.reduceToNat, Int.reduceAdd, Int.reduceSub, Int.reduceMul, Int.reduceLT, Int.reduceLE, Int.reduceEq]
    try omega
  · simp only [go_sem, insN_zero, cnts_empty e1, Nat.reduceBEq, Nat.reduceSub, Nat.reduceAdd, Nat.reduceMul, Nat.reduceLT, Nat.reduceLeDiff, Nat.reduceEqDiff, Int.reduceToNat, Int.reduceAdd, Int.reduceSub, Int.reduceMul, Int.reduceLT, Int.reduceLE, Int.reduceEq]
    try omega
  intro i h1
  simp only [go_sem, Nat.reduceBEq, Nat.reduceSub, Nat.reduceAdd, Nat.reduceMul, Nat.reduceLT, Nat.reduceLeDiff, Nat.reduceEqDiff, Int.reduceToNat, Int.reduceAdd, Int.reduceSub, Int.reduceMul, Int.reduceLT, Int.reduceLE, Int.reduceEq]
  refine AXc.introP (fun h2 => ?_) (fun h2 => ?_)
  · have hi : i < b1.length := by omega
    have at1 := cnts_at b1 i hi
    have ha := f1.add f3 hi
    have hs : insN a1 b1 (i + 1) = ins (insN a1 b1 i) (((nthE b1 i).1.1, (nthE b1 i).1.2), (nthE b1 i).2) := insN_succ a1 b1 i hi
    cases hh : has (insN a1 b1 i) ((nthE b1 i).1.1, (nthE b1 i).1.2) with
    | true =>
      have hA : Δa 25 [.sl 3 0 (insN a1 b1 i).length 3 none, .agg [.str (nthE b1 i).1.1, .str (nthE b1 i).1.2, .int .i64 (nthE b1 i).2]] ⟨[(5, .cells [.sl 3 0 (insN a1 b1 i).length 3 none, .sl 4 0 a2.length 3 none]), (4, .cells (cnts a2)), (3, .cells (cnts (insN a1 b1 i))), (2, .cells [.nilS, .nilS]), (1, .cells [.fs (cnts b1) b1.length, .fs (cnts b2) b2.length])], 6⟩ = _ := addR_has 3 (insN a1 b1 i) _ _ _ _ _ _ rfl rfl ha hh rfl
      simp (disch := (first | assumption | omega | (simp only [List.length_take, List.length_drop, List.length_append, List.length_set, List.length_replicate, List.length_cons, List.length_nil, len_nats, len_ints, len_strs] <;> omega))) only [go_sem, at1, hA, ← hs, Nat.reduceBEq, Nat.reduceSub, Nat.reduceAdd, Nat.reduceMul, Nat.reduceLT, Nat.reduceLeDiff, Nat.reduceEqDiff, Int.reduceToNat, Int.reduceAdd, Int.reduceSub, Int.reduceMul, Int.reduceLT, Int.reduceLE, Int.reduceEq]
      refine ⟨⟨by omega, by omega⟩, AXk.intro (by kernel_rfl) ?_⟩
      simp (disch := (first | assumption | omega | (simp only [List.length_take, List.length_drop, List.length_append, List.length_set, List.length_replicate, List.length_cons, List.length_nil, len_nats, len_ints, len_strs] <;> omega))) only [go_sem, Nat.reduceBEq, Nat.reduceSub, Nat.reduceAdd, Nat.reduceMul, Nat.reduceLT, Nat.reduceLeDiff, Nat.reduceEqDiff, Int.reduceToNat, Int.reduceAdd, Int.reduceSub, Int.reduceMul, Int.reduceLT, Int.reduceLE, Int.reduceEq]
      refine loopK_norm (i + 1) (by omega) (by omega) (Sub.of0 [] rfl rfl ?_ ?_)
      · simp only [go_sem, Nat.reduceBEq, Nat.reduceSub, Nat.reduceAdd, Nat.reduceMul, Nat.reduceLT, Nat.reduceLeDiff, Nat.reduceEqDiff, Int.reduceToNat, Int.reduceAdd, Int.reduceSub, Int.reduceMul, Int.reduceLT, Int.reduceLE, Int.reduceEq]
        try simp
      · simp only [go_sem, Nat.reduceBEq, Nat.reduceSub, Nat.reduceAdd, Nat.reduceMul, Nat.reduceLT, Nat.reduceLeDiff, Nat.reduceEqDiff, Int.reduceToNat, Int.reduceAdd, Int.reduceSub, Int.reduceMul, Int.reduceLT, Int.reduceLE, Int.reduceEq]
    | false =>
      have hA : Δa 25 [.sl 3 0 (insN a1 b1 i).length 3 none, .agg [.str (nthE b1 i).1.1, .str (nthE b1 i).1.2, .int .i64 (nthE b1 i).2]] ⟨[(5, .cells [.sl 3 0 (insN a1 b1 i).length 3 none, .sl 4 0 a2.length 3 none]), (4, .cells (cnts a2)), (3, .cells (cnts (insN a1 b1 i))), (2, .cells [.nilS, .nilS]), (1, .cells [.fs (cnts b1) b1.length, .fs (cnts b2) b2.length])], 6⟩ = _ := addR_new 3 (insN a1 b1 i) _ _ _ _ _ _ rfl rfl ha hh rfl
      simp (disch := (first | assumption | omega | (simp only [List.length_take, List.length_drop, List.length_append, List.length_set, List.length_replicate, List.length_cons, List.length_nil, len_nats, len_ints, len_strs] <;> omega))) only [go_sem, at1, hA, ← hs, Nat.reduceBEq, Nat.reduceSub, Nat.reduceAdd, Nat.reduceMul, Nat.reduceLT, Nat.reduceLeDiff, Nat.reduceEqDiff, Int.reduceToNat, Int.reduceAdd, Int.reduceSub, Int.reduceMul, Int.reduceLT, Int.reduceLE, Int.reduceEq]
      refine ⟨⟨by omega, by omega⟩, AXk.intro (by kernel_rfl) ?_⟩
      simp (disch := (first | assumption | omega | (simp only [List.length_take, List.length_drop, List.length_append, List.length_set, List.length_replicate, List.length_cons, List.length_nil, len_nats, len_ints, len_strs] <;> omega))) only [go_sem, Nat.reduceBEq, Nat.reduceSub, Nat.reduceAdd, Nat.reduceMul, Nat.reduceLT, Nat.reduceLeDiff, Nat.reduceEqDiff, Int.reduceToNat, Int.reduceAdd, Int.reduceSub, Int.reduceMul, Int.reduceLT, Int.reduceLE, Int.reduceEq]
      refine loopK_norm (i + 1) (by omega) (by omega) (Sub.of0 [(3, 6)] rfl rfl ?_ ?_)
      · simp only [go_sem, Nat.reduceBEq, Nat.reduceSub, Nat.reduceAdd, Nat.reduceMul, Nat.reduceLT, Nat.reduceLeDiff, Nat.reduceEqDiff, Int.reduceToNat, Int.reduceAdd, Int.reduceSub, Int.reduceMul, Int.reduceLT, Int.reduceLE, Int.reduceEq]
        try simp
      · simp only [go_sem, Nat.reduceBEq, Nat.reduceSub, Nat.reduceAdd, Nat.reduceMul, Nat.reduceLT, Nat.reduceLeDiff, Nat.reduceEqDiff, Int.reduceToNat, Int.reduceAdd, Int.reduceSub, Int.reduceMul, Int.reduceLT, Int.reduceLE, Int.reduceEq]
  have : i = b1.length := by omega
  subst this
  simp only [go_sem, Nat.reduceBEq, Nat.reduceSub, Nat.reduceAdd, Nat.reduceMul, Nat.reduceLT, Nat.reduceLeDiff, Nat.reduceEqDiff, Int.reduceToNat, Int.reduceAdd, Int.reduceSub, Int.reduceMul, Int.reduceLT, Int.reduceLE, Int.reduceEq]
  refine AXa.go mixed (extΓ_ok cRValid_ok noΓ_ok) ( Δa_ok) (by kernel_rfl) ?_
  simp (disch := (first | assumption | omega | (simp only [List.length_take, List.length_drop, List.length_append, List.length_set, List.length_replicate, List.length_cons, List.length_nil, len_nats, len_ints, len_strs] <;> omega))) only [go_sem, Nat.reduceBEq, Nat.reduceSub, Nat.reduceAdd, Nat.reduceMul, Nat.reduceLT, Nat.reduceLeDiff, Nat.reduceEqDiff, Int.reduceToNat, Int.reduceAdd, Int.reduceSub, Int.reduceMul, Int.reduceLT, Int.reduceLE, Int.reduceEq]
  refine AXs.loop mixed (extΓ_ok cRValid_ok noΓ_ok) ( Δa_ok) (fun i : Nat => [(8, .int .i64 i), (3, .ptr 1 0), (4, .ptr 2 0), (6, .ptr 5 0)])
    (fun i => ⟨[(5, .cells [.sl 3 0 (insN a1 b1 b1.length).length 3 none, .sl 4 0 (insN a2 b2 i).length 3 none]), (4, .cells (cnts (insN a2 b2 i))), (3, .cells (cnts (insN a1 b1 b1.length))), (2, .cells [.nilS, .nilS]), (1, .cells [.fs (cnts b1) b1.length, .fs (cnts b2) b2.length])], 6⟩)
    (fun i => i ≤ b2.length) (fun i => b2.length - i) 0 (by kernel_rfl) (Nat.zero_le _) (Sub.of0 [] rfl rfl ?_ ?_) ?_
  · simp only [go_sem, insN_zero, Nat.reduceBEq, Nat.reduceSub, Nat.reduceAdd, Nat.reduceMul, Nat.reduceLT, Nat.reduceLeDiff, Nat.reduceEqDiff, Int.reduceToNat, Int.reduceAdd, Int.reduceSub, Int.reduceMul, Int.reduceLT, Int.reduceLE, Int.reduceEq]
  · simp only [go_sem, insN_zero, Nat.reduceBEq, Nat.reduceSub, Nat.reduceAdd, Nat.reduceMul, Nat.reduceLT, Nat.reduceLeDiff, Nat.reduceEqDiff, Int.reduceToNat, Int.reduceAdd, Int.reduceSub, Int.reduceMul, Int.reduceLT, Int.reduceLE, Int.reduceEq]
  intro i h1
  simp only [go_sem, Nat.reduceBEq, Nat.reduceSub, Nat.reduceAdd, Nat.reduceMul, Nat.reduceLT, Nat.reduceLeDiff, Nat.reduceEqDiff, Int.reduceToNat, Int.reduceAdd, Int.reduceSub, Int.reduceMul, Int.reduceLT, Int.reduceLE, Int.reduceEq]
  refine AXc.introP (fun h2 => ?_) (fun h2 => ?_)
  · have hi : i < b2.length := by omega
    have at1 := cnts_at b2 i hi
    have ha := f2.add f4 hi
    have hs : insN a2 b2 (i + 1) = ins (insN a2 b2 i) (((nthE b2 i).1.1, (nthE b2 i).1.2), (nthE b2 i).2) := insN_succ a2 b2 i hi
    cases hh : has (insN a2 b2 i) ((nthE b2 i).1.1, (nthE b2 i).1.2) with
    | true =>
      have hA : Δa 25 [.sl 4 0 (insN a2 b2 i).length 3 none, .agg [.str (nthE b2 i).1.1, .str (nthE b2 i).1.2, .int .i64 (nthE b2 i).2]] ⟨[(5, .cells [.sl 3 0 (insN a1 b1 b1.length).length 3 none, .sl 4 0 (insN a2 b2 i).length 3 none]), (4, .cells (cnts (insN a2 b2 i))), (3, .cells (cnts (insN a1 b1 b1.length))), (2, .cells [.nilS, .nilS]), (1, .cells [.fs (cnts b1) b1.length, .fs (cnts b2) b2.length])], 6⟩ = _ := addR_has 4 (insN a2 b2 i) _ _ _ _ _ _ rfl rfl ha hh rfl
      simp (disch := (first | assumption | omega | (simp only [List.length_take, List.length_drop, List.length_append, List.length_set, List.length_replicate, List.length_cons, List.length_nil, len_nats, len_ints, len_strs] <;> omega))) only [go_sem, at1, hA, ← hs, Nat.reduceBEq, Nat.reduceSub, Nat.reduceAdd, Nat.reduceMul, Nat.reduceLT, Nat.reduceLeDiff, Nat.reduceEqDiff, Int.reduceToNat, Int.reduceAdd, Int.reduceSub, Int.reduceMul, Int.reduceLT, Int.reduceLE, Int.reduceEq]
      refine ⟨⟨by omega, by omega⟩, AXk.intro (by kernel_rfl) ?_⟩
      simp (disch := (first | assumption | omega | (simp only [List.length_take, List.length_drop, List.length_append, List.length_set, List.length_replicate, List.length_cons, List.length_nil, len_nats, len_ints, len_strs] <;> omega))) only [go_sem, Nat.reduceBEq, Nat.reduceSub, Nat.reduceAdd, Nat.reduceMul, Nat.reduceLT, Nat.reduceLeDiff, Nat.reduceEqDiff, Int.reduceToNat, Int.reduceAdd, Int.reduceSub, Int.reduceMul, Int.reduceLT, Int.reduceLE, Int.reduceEq]
      refine loopK_norm (i + 1) (by omega) (by omega) (Sub.of0 [] rfl rfl ?_ ?_)
      · simp only [go_sem, Nat.reduceBEq, Nat.reduceSub, Nat.reduceAdd, Nat.reduceMul, Nat.reduceLT, Nat.reduceLeDiff, Nat.reduceEqDiff, Int.reduceToNat, Int.reduceAdd, Int.reduceSub, Int.reduceMul, Int.reduceLT, Int.reduceLE, Int.reduceEq]
        try simp
      · simp only [go_sem, Nat.reduceBEq, Nat.reduceSub, Nat.reduceAdd, Nat.reduceMul, Nat.reduceLT, Nat.reduceLeDiff, Nat.reduceEqDiff, Int.reduceToNat, Int.reduceAdd, Int.reduceSub, Int.reduceMul, Int.reduceLT, Int.reduceLE, Int.reduceEq]
    | false =>
      have hA : Δa 25 [.sl 4 0 (insN a2 b2 i).length 3 none, .agg [.str (nthE b2 i).1.1, .str (nthE b2 i).1.2, .int .i64 (nthE b2 i).2]] ⟨[(5, .cells [.sl 3 0 (insN a1 b1 b1.length).length 3 none, .sl 4 0 (insN a2 b2 i).length 3 none]), (4, .cells (cnts (insN a2 b2 i))), (3, .cells (cnts (insN a1 b1 b1.length))), (2, .cells [.nilS, .nilS]), (1, .cells [.fs (cnts b1) b1.length, .fs (cnts b2) b2.length])], 6⟩ = _ := addR_new 4 (insN a2 b2 i) _ _ _ _ _ _ rfl rfl ha hh rfl
      simp (disch := (first | assumption | omega | (simp only [List.length_take, List.length_drop, List.length_append, List.length_set, List.length_replicate, List.length_cons, List.length_nil, len_nats, len_ints, len_strs] <;> omega))) only [go_sem, at1, hA, ← hs, Nat.reduceBEq, Nat.reduceSub, Nat.reduceAdd, Nat.reduceMul, Nat.reduceLT, Nat.reduceLeDiff, Nat.reduceEqDiff, Int.reduceToNat, Int.reduceAdd, Int.reduceSub, Int.reduceMul, Int.reduceLT, Int.reduceLE, Int.reduceEq]
      refine ⟨⟨by omega, by omega⟩, AXk.intro (by kernel_rfl) ?_⟩
      simp (disch := (first | assumption | omega | (simp only [List.length_take, List.length_drop, List.length_append, List.length_set, List.length_replicate, List.length_cons, List.length_nil, len_nats, len_ints, len_strs] <;> omega))) only [go_sem, Nat.reduceBEq, Nat.reduceSub, Nat.reduceAdd, Nat.reduceMul, Nat.reduceLT, Nat.reduceLeDiff, Nat.reduceEqDiff, Int.reduceToNat, Int.reduceAdd, Int.reduceSub, Int.reduceMul, Int.reduceLT, Int.reduceLE, Int.reduceEq]
      refine loopK_norm (i + 1) (by omega) (by omega) (Sub.of0 [(4, 6)] rfl rfl ?_ ?_)
      · simp only [go_sem, Nat.reduceBEq, Nat.reduceSub, Nat.reduceAdd, Nat.reduceMul, Nat.reduceLT, Nat.reduceLeDiff, Nat.reduceEqDiff, Int.reduceToNat, Int.reduceAdd, Int.reduceSub, Int.reduceMul, Int.reduceLT, Int.reduceLE, Int.reduceEq]
        try simp
      · simp only [go_sem, Nat.reduceBEq, Nat.reduceSub, Nat.reduceAdd, Nat.reduceMul, Nat.reduceLT, Nat.reduceLeDiff, Nat.reduceEqDiff, Int.reduceToNat, Int.reduceAdd, Int.reduceSub, Int.reduceMul, Int.reduceLT, Int.reduceLE, Int.reduceEq]
  have : i = b2.length := by omega
  subst this
  simp only [go_sem, Nat.reduceBEq, Nat.reduceSub, Nat.reduceAdd, Nat.reduceMul, Nat.reduceLT, Nat.reduceLeDiff, Nat.reduceEqDiff, Int.reduceToNat, Int.reduceAdd, Int.reduceSub, Int.reduceMul, Int.reduceLT, Int.reduceLE, Int.reduceEq]
  refine AXa.go mixed (extΓ_ok cRValid_ok noΓ_ok) ( Δa_ok) (by kernel_rfl) ?_
  simp (disch := (first | assumption | omega | (simp only [List.length_take, List.length_drop, List.length_append, List.length_set, List.length_replicate, List.length_cons, List.length_nil, len_nats, len_ints, len_strs] <;> omega))) only [go_sem, Nat.reduceBEq, Nat.reduceSub, Nat.reduceAdd, Nat.reduceMul, Nat.reduceLT, Nat.reduceLeDiff, Nat.reduceEqDiff, Int.reduceToNat, Int.reduceAdd, Int.reduceSub, Int.reduceMul, Int.reduceLT, Int.reduceLE, Int.reduceEq]
  obtain ⟨p1, p2, p3, p4⟩ := f1.ok f3 b1.length
  obtain ⟨q1, q2, q3, q4⟩ := f2.ok f4 b2.length
  have hR : resR a1 a2 b1 b2 = if validC (insN a1 b1 b1.length) (insN a2 b2 b2.length) = true then (insN a1 b1 b1.length, insN a2 b2 b2.length, 0) else ([], [], 2) := by
    unfold resR; rw [if_pos (by rw [hv1, hv2]; rfl), insN_all, insN_all]
  rw [hR]
  generalize insN a1 b1 b1.length = R1 at p1 p2 p3 p4 ⊢
  generalize insN a2 b2 b2.length = R2 at q1 q2 q3 q4 ⊢
  simp (disch := (first | assumption | omega | (simp only [List.length_take, List.length_drop, List.length_append, List.length_set, List.length_replicate, List.length_cons, List.length_nil, len_nats, len_ints, len_strs] <;> omega))) only [go_sem, take_cnts, Δa_none, Nat.reduceBEq, Nat.reduceSub, Nat.reduceAdd, Nat.reduceMul, Nat.reduceLT, Nat.reduceLeDiff, Nat.reduceEqDiff, Int.reduceToNat, Int.reduceAdd, Int.reduceSub, Int.reduceMul, Int.reduceLT, Int.reduceLE, Int.reduceEq]
  cases hw : validC R1 R2 with
  | true =>
    simp (disch := (first | assumption | omega | (simp only [List.length_take, List.length_drop, List.length_append, List.length_set, List.length_replicate, List.length_cons, List.length_nil, len_nats, len_ints, len_strs] <;> omega))) only [go_sem, Nat.reduceBEq, Nat.reduceSub, Nat.reduceAdd, Nat.reduceMul, Nat.reduceLT, Nat.reduceLeDiff, Nat.reduceEqDiff, Int.reduceToNat, Int.reduceAdd, Int.reduceSub, Int.reduceMul, Int.reduceLT, Int.reduceLE, Int.reduceEq]
    refine ⟨Frz.slp rfl rfl (by rw [len_cnts]; omega) ?_ (pure_cnts _), Frz.slp rfl rfl (by rw [len_cnts]; omega) ?_ (pure_cnts _)⟩
    · rw [List.drop_zero, List.take_of_length_le (by rw [len_cnts]; omega)]
    · rw [List.drop_zero, List.take_of_length_le (by rw [len_cnts]; omega)]
  | false =>
    simp (disch := (first | assumption | omega | (simp only [List.length_take, List.length_drop, List.length_append, List.length_set, List.length_replicate, List.length_cons, List.length_nil, len_nats, len_ints, len_strs] <;> omega))) only [go_sem, cnts_nil, Nat.reduceBEq, Nat.reduceSub, Nat.reduceAdd, Nat.reduceMul, Nat.reduceLT, Nat.reduceLeDiff, Nat.reduceEqDiff, Int.reduceToNat, Int.reduceAdd, Int.reduceSub, Int.reduceMul, Int.reduceLT, Int.reduceLE, Int.reduceEq]
set_option maxHeartbeats 4000000 in
theorem rMergeNE (a1 a2 b1 b2 : List Ent) (f1 : Fine a1) (f2 : Fine a2) (f3 : Fine b1) (f4 : Fine b2) (hv1 : validC a1 a2 = true) (hv2 : validC b1 b2 = true) (e1 : ¬ a1.length = 0) (e2 : a2.length = 0) :
    PCall Tryz.prog 13 [.agg [.fs (cnts a1) a1.length, .fs (cnts a2) a2.length], .agg [.fs (cnts b1) b1.length, .fs (cnts b2) b2.length]]
    (.ret (.tup [.agg [.fs (cnts (resR a1 a2 b1 b2).1) (resR a1 a2 b1 b2).1.length, .fs (cnts (resR a1 a2 b1 b2).2.1) (resR a1 a2 b1 b2).2.1.length], .int .i64 (resR a1 a2 b1 b2).2.2])) := by
  have l1 := f1.len
  have l2 := f2.len
  have l3 := f3.len
  have l4 := f4.len
  have s1 := f1.short
  have s2 := f2.short
  have s3 := f3.short
  have s4 := f4.short
  refine PCall.walk (rs := [.cell 4 27, .tmp 5]) [0, 1, 2, 3, 4, 5, 6, 7, 8, 16, 31, 47, 61] [] mixed (extΓ_ok cRValid_ok noΓ_ok) (Δa_ok) call13 Tryz.func13 rfl Tryz.ntmps13 rfl (by kernel_rfl) (by simp) (by simp [pure_bool, pure_int, pure_str, pure_fs, pure_fp, pure_fn, pure_agg, pure_tup, pure_nilS, pure_nilP, pure_natsP, pure_intsP, pure_strsP, pure_list, pure_cntsP]) ?_
  have n1 : a1.length = 0 ∨ (a1.length ≤ 0) = False := by by_cases h : a1.length = 0; exact .inl h; exact .inr (eq_false (by omega))
  have n2 : a2.length = 0 ∨ (a2.length ≤ 0) = False := by by_cases h : a2.length = 0; exact .inl h; exact .inr (eq_false (by omega))
  replace n1 := n1.resolve_left
  replace n2 := n2.resolve_left
  simp (disch := (first | assumption | omega | (simp only [List.length_take, List.length_drop, List.length_append, List.length_set, List.length_replicate, List.length_cons, List.length_nil, len_nats, len_ints, len_strs] <;> omega))) only [go_sem, hv1, hv2, e1, e2, n1 e1, Nat.reduceBEq, Nat.reduceSub, Nat.reduceAdd, Nat.reduceMul, Nat.reduceLT, Nat.reduceLeDiff, Nat.reduceEqDiff, Int.reduceToNat, Int.reduceAdd, Int.reduceSub, Int.reduceMul, Int.reduceLT, Int.reduceLE, Int.reduceEq]
  refine ⟨⟨by omega, by omega, one_cnts _⟩, ?_⟩
  skip
  refine AXk.intro (by kernel_rfl) ?_
  simp (disch := (first | assumption | omega | (simp only [List.length_take, List.length_drop, List.length_append, List.length_set, List.length_replicate, List.length_cons, List.length_nil, len_nats, len_ints, len_strs] <;> omega))) only [go_sem, Nat.reduceBEq, Nat.reduceSub, Nat.reduceAdd, Nat.reduceMul, Nat.reduceLT, Nat.reduceLeDiff, Nat.reduceEqDiff, Int.reduceToNat, Int.reduceAdd, Int.reduceSub, Int.reduceMul, Int.reduceLT, Int.reduceLE, Int.reduceEq]
  refine AXs.loop mixed (extΓ_ok cRValid_ok noΓ_ok) ( Δa_ok) (fun i : Nat => [(7, .int .i64 i), (3, .ptr 1 0), (4, .ptr 2 0), (6, .ptr 5 0)])
    (fun i => ⟨[(5, .cells [.sl 3 0 (insN a1 b1 i).length 3 none, .sl 4 0 a2.length 3 none]), (4, .cells (cnts a2)), (3, .cells (cnts (insN a1 b1 i))), (2, .cells [.nilS, .nilS]), (1, .cells [.fs (cnts b1) b1.length, .fs (cnts b2) b2.length])], 6⟩)
    (fun i => i ≤ b1.length) (fun i => b1.length - i) 0 (by kernel_rfl) (Nat.zero_le _) (Sub.of0 [(3, 4), (4, 5), (5, 6)] rfl rfl ?_ ?_) ?_
  · simp only [go_sem, Nat.reduceBEq, Nat.reduceSub, Nat.reduceAdd, Nat.reduceMul, Nat.reduceLT, Nat.reduceLeDiff, Nat.reduceEqDiff, Int.reduceToNat, Int.reduceAdd, Int.reduceSub, Int.reduceMul, Int.reduceLT, Int.reduceLE, Int.reduceEq]
    try omega
  · simp only [go_sem, insN_zero, cnts_empty e2, Nat.reduceBEq, Nat.reduceSub, Nat.reduceAdd, Nat.reduceMul, Nat.reduceLT, Nat.reduceLeDiff, Nat.reduceEqDiff, Int.reduceToNat, Int.reduceAdd, Int.reduceSub, Int.reduceMul, Int.reduceLT, Int.reduceLE, Int.reduceEq]
    try omega
  intro i h1
  simp only [go_sem, Nat.reduceBEq, Nat.reduceSub, Nat.reduceAdd, Nat.reduceMul, Nat.reduceLT, Nat.reduceLeDiff, Nat.reduceEqDiff, Int.reduceToNat, Int.reduceAdd, Int.reduceSub, Int.reduceMul, Int.reduceLT, Int.reduceLE, Int.reduceEq]
  refine AXc.introP (fun h2 => ?_) (fun h2 => ?_)
  · have hi : i < b1.length := by omega
    have at1 := cnts_at b1 i hi
    have ha := f1.add f3 hi
    have hs : insN a1 b1 (i + 1) = ins (insN a1 b1 i) (((nthE b1 i).1.1, (nthE b1 i).1.2), (nthE b1 i).2) := insN_succ a1 b1 i hi
    cases hh : has (insN a1 b1 i) ((nthE b1 i).1.1, (nthE b1 i).1.2) with
    | true =>
      have hA : Δa 25 [.sl 3 0 (insN a1 b1 i).length 3 none, .agg [.str (nthE b1 i).1.1, .str (nthE b1 i).1.2, .int .i64 (nthE b1 i).2]] ⟨[(5, .cells [.sl 3 0 (insN a1 b1 i).length 3 none, .sl 4 0 a2.length 3 none]), (4, .cells (cnts a2)), (3, .cells (cnts (insN a1 b1 i))), (2, .cells [.nilS, .nilS]), (1, .cells [.fs (cnts b1) b1.length, .fs (cnts b2) b2.length])], 6⟩ = _ := addR_has 3 (insN a1 b1 i) _ _ _ _ _ _ rfl rfl ha hh rfl
      simp (disch := (first | assumption | omega | (simp only [List.length_take, List.length_drop, List.length_append, List.length_set, List.length_replicate, List.length_cons, List.length_nil, len_nats, len_ints, len_strs] <;> omega))) only [go_sem, at1, hA, ← hs, Nat.reduceBEq, Nat.reduceSub, Nat.reduceAdd, Nat.reduceMul, Nat.reduceLT, Nat.reduceLeDiff, Nat.reduceEqDiff, Int.reduceToNat, Int.reduceAdd, Int.reduceSub, Int.reduceMul, Int.reduceLT, Int.reduceLE, Int.reduceEq]
      refine ⟨⟨by omega, by omega⟩, AXk.intro (by kernel_rfl) ?_⟩
      simp (disch := (first | assumption | omega | (simp only [List.length_take, List.length_drop, List.length_append, List.length_set, List.length_replicate, List.length_cons, List.length_nil, len_nats, len_ints, len_strs] <;> omega))) only [go_sem, Nat.reduceBEq, Nat.reduceSub, Nat.reduceAdd, Nat.reduceMul, Nat.reduceLT, Nat.reduceLeDiff, Nat.reduceEqDiff, Int.reduceToNat, Int.reduceAdd, Int.reduceSub, Int.reduceMul, Int.reduceLT, Int.reduceLE, Int.reduceEq]
      refine loopK_norm (i + 1) (by omega) (by omega) (Sub.of0 [] rfl rfl ?_ ?_)
      · simp only [go_sem, Nat.reduceBEq, Nat.reduceSub, Nat.reduceAdd, Nat.reduceMul, Nat.reduceLT, Nat.reduceLeDiff, Nat.reduceEqDiff, Int.reduceToNat, Int.reduceAdd, Int.reduceSub, Int.reduceMul, Int.reduceLT, Int.reduceLE, Int.reduceEq]
        try simp
      · simp only [go_sem, Nat.reduceBEq, Nat.reduceSub, Nat.reduceAdd, Nat.reduceMul, Nat.reduceLT, Nat.reduceLeDiff, Nat.reduceEqDiff, Int.reduceToNat, Int.reduceAdd, Int.reduceSub, Int.reduceMul, Int.reduceLT, Int.reduceLE, Int.reduceEq]
    | false =>
      have hA : Δa 25 [.sl 3 0 (insN a1 b1 i).length 3 none, .agg [.str (nthE b1 i).1.1, .str (nthE b1 i).1.2, .int .i64 (nthE b1 i).2]] ⟨[(5, .cells [.sl 3 0 (insN a1 b1 i).length 3 none, .sl 4 0 a2.length 3 none]), (4, .cells (cnts a2)), (3, .cells (cnts (insN a1 b1 i))), (2, .cells [.nilS, .nilS]), (1, .cells [.fs (cnts b1) b1.length, .fs (cnts b2) b2.length])], 6⟩ = _ := addR_new 3 (insN a1 b1 i) _ _ _ _ _ _ rfl rfl ha hh rfl
      simp (disch := (first | assumption | omega | (simp only [List.length_take, List.length_drop, List.length_append, List.length_set, List.length_replicate, List.length_cons, List.length_nil, len_nats, len_ints, len_strs] <;> omega))) only [go_sem, at1, hA, ← hs, Nat.reduceBEq, Nat.reduceSub, Nat.reduceAdd, Nat.reduceMul, Nat.reduceLT, Nat.reduceLeDiff, Nat.reduceEqDiff, Int.reduceToNat, Int.reduceAdd, Int.reduceSub, Int.reduceMul, Int.reduceLT, Int.reduceLE, Int.reduceEq]
      refine ⟨⟨by omega, by omega⟩, AXk.intro (by kernel_rfl) ?_⟩
      simp (disch := (first | assumption | omega | (simp only [List.length_take, List.length_drop, List.length_append, List.length_set, List.length_replicate, List.length_cons, List.length_nil, len_nats, len_ints, len_strs] <;> omega))) only [go_sem, Nat.reduceBEq, Nat.reduceSub, Nat.reduceAdd, Nat.reduceMul, Nat.reduceLT, Nat.reduceLeDiff, Nat.reduceEqDiff, Int.reduceToNat, Int.reduceAdd, Int.reduceSub, Int.reduceMul, Int.reduceLT, Int.reduceLE, Int.reduceEq]
      refine loopK_norm (i + 1) (by omega) (by omega) (Sub.of0 [(3, 6)] rfl rfl ?_ ?_)
      · simp only [go_sem, Nat.reduceBEq, Nat.reduceSub, Nat.reduceAdd, Nat.reduceMul, Nat.reduceLT, Nat.reduceLeDiff, Nat.reduceEqDiff, Int.reduceToNat, Int.reduceAdd, Int.reduceSub, Int.reduceMul, Int.reduceLT, Int.reduceLE, Int.reduceEq]
        try simp
      · simp only [go_sem, Nat.reduceBEq, Nat.reduceSub, Nat.reduceAdd, Nat.reduceMul, Nat.reduceLT, Nat.reduceLeDiff, Nat.reduceEqDiff, Int.reduceToNat, Int.reduceAdd, Int.reduceSub, Int.reduceMul, Int.reduceLT, Int.reduceLE, Int.reduceEq]
  have : i = b1.length := by omega
  subst this
  simp only [go_sem, Nat.reduceBEq, Nat.reduceSub, Nat.reduceAdd, Nat.reduceMul, Nat.reduceLT, Nat.reduceLeDiff, Nat.reduceEqDiff, Int.reduceToNat, Int.reduceAdd, Int.reduceSub, Int.reduceMul, Int.reduceLT, Int.reduceLE, Int.reduceEq]
  refine AXa.go mixed (extΓ_ok cRValid_ok noΓ_ok) ( Δa_ok) (by kernel_rfl) ?_
  simp (disch := (first | assumption | omega | (simp only [List.length_take, List.length_drop, List.length_append, List.length_set, List.length_replicate, List.length_cons, List.length_nil, len_nats, len_ints, len_strs] <;> omega))) only [go_sem, Nat.reduceBEq, Nat.reduceSub, Nat.reduceAdd, Nat.reduceMul, Nat.reduceLT, Nat.reduceLeDiff, Nat.reduceEqDiff, Int.reduceToNat, Int.reduceAdd, Int.reduceSub, Int.reduceMul, Int.reduceLT, Int.reduceLE, Int.reduceEq]
  refine AXs.loop mixed (extΓ_ok cRValid_ok noΓ_ok) ( Δa_ok) (fun i : Nat => [(8, .int .i64 i), (3, .ptr 1 0), (4, .ptr 2 0), (6, .ptr 5 0)])
    (fun i => ⟨[(5, .cells [.sl 3 0 (insN a1 b1 b1.length).length 3 none, .sl 4 0 (insN a2 b2 i).length 3 none]), (4, .cells (cnts (insN a2 b2 i))), (3, .cells (cnts (insN a1 b1 b1.length))), (2, .cells [.nilS, .nilS]), (1, .cells [.fs (cnts b1) b1.length, .fs (cnts b2) b2.length])], 6⟩)
    (fun i => i ≤ b2.length) (fun i => b2.length - i) 0 (by kernel_rfl) (Nat.zero_le _) (Sub.of0 [] rfl rfl ?_ ?_) ?_
  · simp only [go_sem, insN_zero, Nat.reduceBEq, Nat.reduceSub, Nat.reduceAdd, Nat.reduceMul, Nat.reduceLT, Nat.reduceLeDiff, Nat.reduceEqDiff, Int.reduceToNat, Int.reduceAdd, Int.reduceSub, Int.reduceMul, Int.reduceLT, Int.reduceLE, Int.reduceEq]
  · simp only [go_sem, insN_zero, Nat.reduceBEq, Nat.reduceSub, Nat.reduceAdd, Nat.reduceMul, Nat.reduceLT, Nat.reduceLeDiff, Nat.reduceEqDiff, Int.reduceToNat, Int.reduceAdd, Int.reduceSub, Int.reduceMul, Int.reduceLT, Int.reduceLE, Int.reduceEq]
  intro i h1
  simp only [go_sem, Nat.reduceBEq, Nat.reduceSub, Nat.reduceAdd, Nat.reduceMul, Nat.reduceLT, Nat.reduceLeDiff, Nat.reduceEqDiff, Int.reduceToNat, Int.reduceAdd, Int.reduceSub, Int.reduceMul, Int.reduceLT, Int.reduceLE, Int.reduceEq]
  refine AXc.introP (fun h2 => ?_) (fun h2 => ?_)
  · have hi : i < b2.length := by omega
    have at1 := cnts_at b2 i hi
    have ha := f2.add f4 hi
    have hs : insN a2 b2 (i + 1) = ins (insN a2 b2 i) (((nthE b2 i).1.1, (nthE b2 i).1.2), (nthE b2 i).2) := insN_succ a2 b2 i hi
    cases hh : has (insN a2 b2 i) ((nthE b2 i).1.1, (nthE b2 i).1.2) with
    | true =>
      have hA : Δa 25 [.sl 4 0 (insN a2 b2 i).length 3 none, .agg [.str (nthE b2 i).1.1, .str (nthE b2 i).1.2, .int .i64 (nthE b2 i).2]] ⟨[(5, .cells [.sl 3 0 (insN a1 b1 b1.length).length 3 none, .sl 4 0 (insN a2 b2 i).length 3 none]), (4, .cells (cnts (insN a2 b2 i))), (3, .cells (cnts (insN a1 b1 b1.length))), (2, .cells [.nilS, .nilS]), (1, .cells [.fs (cnts b1) b1.length, .fs (cnts b2) b2.length])], 6⟩ = _ := addR_has 4 (insN a2 b2 i) _ _ _ _ _ _ rfl rfl ha hh rfl
      simp (disch := (first | assumption | omega | (simp only [List.length_take, List.length_drop, List.length_append, List.length_set, List.length_replicate, List.length_cons, List.length_nil, len_nats, len_ints, len_strs] <;> omega))) only [go_sem, at1, hA, ← hs, Nat.reduceBEq, Nat.reduceSub, Nat.reduceAdd, Nat.reduceMul, Nat.reduceLT, Nat.reduceLeDiff, Nat.reduceEqDiff, Int.reduceToNat, Int.reduceAdd, Int.reduceSub, Int.reduceMul, Int.reduceLT, Int.reduceLE, Int.reduceEq]
      refine ⟨⟨by omega, by omega⟩, AXk.intro (by kernel_rfl) ?_⟩
      simp (disch := (first | assumption | omega | (simp only [List.length_take, List.length_drop, List.length_append, List.length_set, List.length_replicate, List.length_cons, List.length_nil, len_nats, len_ints, len_strs] <;> omega))) only [go_sem, Nat.reduceBEq, Nat.reduceSub, Nat.reduceAdd, Nat.reduceMul, Nat.reduceLT, Nat.reduceLeDiff, Nat.reduceEqDiff, Int.reduceToNat, Int.reduceAdd, Int.reduceSub, Int.reduceMul, Int.reduceLT, Int.reduceLE, Int.reduceEq]
      refine loopK_norm (i + 1) (by omega) (by omega) (Sub.of0 [] rfl rfl ?_ ?_)
      · simp only [go_sem, Nat.reduceBEq, Nat.reduceSub, Nat.reduceAdd, Nat.reduceMul, Nat.reduceLT, Nat.reduceLeDiff, Nat.reduceEqDiff, Int.reduceToNat, Int.reduceAdd, Int.reduceSub, Int.reduceMul, Int.reduceLT, Int.reduceLE, Int.reduceEq]
        try simp
      · simp only [go_sem, Nat.reduceBEq, Nat.reduceSub, Nat.reduceAdd, Nat.reduceMul, Nat.reduceLT, Nat.reduceLeDiff, Nat.reduceEqDiff, Int.reduceToNat, Int.reduceAdd, Int.reduceSub, Int.reduceMul, Int.reduceLT, Int.reduceLE, Int.reduceEq]
    | false =>
      have hA : Δa 25 [.sl 4 0 (insN a2 b2 i).length 3 none, .agg [.str (nthE b2 i).1.1, .str (nthE b2 i).1.2, .int .i64 (nthE b2 i).2]] ⟨[(5, .cells [.sl 3 0 (insN a1 b1 b1.length).length 3 none, .sl 4 0 (insN a2 b2 i).length 3 none]), (4, .cells (cnts (insN a2 b2 i))), (3, .cells (cnts (insN a1 b1 b1.length))), (2, .cells [.nilS, .nilS]), (1, .cells [.fs (cnts b1) b1.length, .fs (cnts b2) b2.length])], 6⟩ = _ := addR_new 4 (insN a2 b2 i) _ _ _ _ _ _ rfl rfl ha hh rfl
      simp (disch := (first | assumption | omega | (simp only [List.length_take, List.length_drop, List.length_append, List.length_set, List.length_replicate, List.length_cons, List.length_nil, len_nats, len_ints, len_strs] <;> omega))) only [go_sem, at1, hA, ← hs, Nat.reduceBEq, Nat.reduceSub, Nat.reduceAdd, Nat.reduceMul, Nat.reduceLT, Nat.reduceLeDiff, Nat.reduceEqDiff, Int.reduceToNat, Int.reduceAdd, Int.reduceSub, Int.reduceMul, Int.reduceLT, Int.reduceLE, Int.reduceEq]
      refine ⟨⟨by omega, by omega⟩, AXk.intro (by kernel_rfl) ?_⟩
      simp (disch := (first | assumption | omega | (simp only [List.length_take, List.length_drop, List.length_append, List.length_set, List.length_replicate, List.length_cons, List.length_nil, len_nats, len_ints, len_strs] <;> omega))) only [go_sem, Nat.reduceBEq, Nat.reduceSub, Nat.reduceAdd, Nat.reduceMul, Nat.reduceLT, Nat.reduceLeDiff, Nat.reduceEqDiff, Int.reduceToNat, Int.reduceAdd, Int.reduceSub, Int.reduceMul, Int.reduceLT, Int.reduceLE, Int.reduceEq]
      refine loopK_norm (i + 1) (by omega) (by omega) (Sub.of0 [(4, 6)] rfl rfl ?_ ?_)
      · simp only [go_sem, Nat.reduceBEq, Nat.reduceSub, Nat.reduceAdd, Nat.reduceMul, Nat.reduceLT, Nat.reduceLeDiff, Nat.reduceEqDiff, Int.reduceToNat, Int.reduceAdd, Int.reduceSub, Int.reduceMul, Int.reduceLT, Int.reduceLE, Int.reduceEq]
        try simp
      · simp only [go_sem, Nat.reduceBEq, Nat.reduceSub, Nat.reduceAdd, Nat.reduceMul, Nat.reduceLT, Nat.reduceLeDiff, Nat.reduceEqDiff, Int.reduceToNat, Int.reduceAdd, Int.reduceSub, Int.reduceMul, Int.reduceLT, Int.reduceLE, Int.reduceEq]
  have : i = b2.length := by omega
  subst this
  simp only [go_sem, Nat.reduceBEq, Nat.reduceSub, Nat.reduceAdd, Nat.reduceMul, Nat.reduceLT, Nat.reduceLeDiff, Nat.reduceEqDiff, Int.reduceToNat, Int.reduceAdd, Int.reduceSub, Int.reduceMul, Int.reduceLT, Int.reduceLE, Int.reduceEq]
  refine AXa.go mixed (extΓ_ok cRValid_ok noΓ_ok) ( Δa_ok) (by kernel_rfl) ?_
  simp (disch := (first | assumption | omega | (simp only [List.length_take, List.length_drop, List.length_append, List.length_set, List.length_replicate, List.length_cons, List.length_nil, len_nats, len_ints, len_strs] <;> omega))) only [go_sem, Nat.reduceBEq, Nat.reduceSub, Nat.reduceAdd, Nat.reduceMul, Nat.reduceLT, Nat.reduceLeDiff, Nat.reduceEqDiff, Int.reduceToNat, Int.reduceAdd, Int.reduceSub, Int.reduceMul, Int.reduceLT, Int.reduceLE, Int.reduceEq]
  obtain ⟨p1, p2, p3, p4⟩ := f1.ok f3 b1.length
  obtain ⟨q1, q2, q3, q4⟩ := f2.ok f4 b2.length
  have hR : resR a1 a2 b1 b2 = if validC (insN a1 b1 b1.length) (insN a2 b2 b2.length) = true then (insN a1 b1 b1.length, insN a2 b2 b2.length, 0) else ([], [], 2) := by
    unfold resR; rw [if_pos (by rw [hv1, hv2]; rfl), insN_all, insN_all]
  rw [hR]
  generalize insN a1 b1 b1.length = R1 at p1 p2 p3 p4 ⊢
  generalize insN a2 b2 b2.length = R2 at q1 q2 q3 q4 ⊢
  simp (disch := (first | assumption | omega | (simp only [List.length_take, List.length_drop, List.length_append, List.length_set, List.length_replicate, List.length_cons, List.length_nil, len_nats, len_ints, len_strs] <;> omega))) only [go_sem, take_cnts, Δa_none, Nat.reduceBEq, Nat.reduceSub, Nat.reduceAdd, Nat.reduceMul, Nat.reduceLT, Nat.reduceLeDiff, Nat.reduceEqDiff, Int.reduceToNat, Int.reduceAdd, Int.reduceSub, Int.reduceMul, Int.reduceLT, Int.reduceLE, Int.reduceEq]
  cases hw : validC R1 R2 with
  | true =>
    simp (disch := (first | assumption | omega | (simp only [List.length_take, List.length_drop, List.length_append, List.length_set, List.length_replicate, List.length_cons, List.length_nil, len_nats, len_ints, len_strs] <;> omega))) only [go_sem, Nat.reduceBEq, Nat.reduceSub, Nat.reduceAdd, Nat.reduceMul, Nat.reduceLT, Nat.reduceLeDiff, Nat.reduceEqDiff, Int.reduceToNat, Int.reduceAdd, Int.reduceSub, Int.reduceMul, Int.reduceLT, Int.reduceLE, Int.reduceEq]
    refine ⟨Frz.slp rfl rfl (by rw [len_cnts]; omega) ?_ (pure_cnts _), Frz.slp rfl rfl (by rw [len_cnts]; omega) ?_ (pure_cnts _)⟩
    · rw [List.drop_zero, List.take_of_length_le (by rw [len_cnts]; omega)]
    · rw [List.drop_zero, List.take_of_length_le (by rw [len_cnts]; omega)]
  | false =>
    simp (disch := (first | assumption | omega | (simp only [List.length_take, List.length_drop, List.length_append, List.length_set, List.length_replicate, List.length_cons, List.length_nil, len_nats, len_ints, len_strs] <;> omega))) only [go_sem, cnts_nil, Nat.reduceBEq, Nat.reduceSub, Nat.reduceAdd, Nat.reduceMul, Nat.reduceLT, Nat.reduceLeDiff, Nat.reduceEqDiff, Int.reduceToNat, Int.reduceAdd, Int.reduceSub, Int.reduceMul, Int.reduceLT, Int.reduceLE, Int.reduceEq]
set_option maxHeartbeats 4000000 in
theorem rMergeNN (a1 a2 b1 b2 : List Ent) (f1 : Fine a1) (f2 : Fine a2) (f3 : Fine b1) (f4 : Fine b2) (hv1 : validC a1 a2 = true) (hv2 : validC b1 b2 = true) (e1 : ¬ a1.length = 0) (e2 : ¬ a2.length = 0) :
    PCall Tryz.prog 13 [.agg [.fs (cnts a1) a1.length, .fs (cnts a2) a2.length], .agg [.fs (cnts b1) b1.length, .fs (cnts b2) b2.length]]
    (.ret (.tup [.agg [.fs (cnts (resR a1 a2 b1 b2).1) (resR a1 a2 b1 b2).1.length, .fs (cnts (resR a1 a2 b1 b2).2.1) (resR a1 a2 b1 b2).2.1.length], .int .i64 (resR a1 a2 b1 b2).2.2])) := by
  have l1 := f1.len
  have l2 := f2.len
  have l3 := f3.len
  have l4 := f4.len
  have s1 := f1.short
  have s2 := f2.short
  have s3 := f3.short
  have s4 := f4.short
  refine PCall.walk (rs := [.cell 4 27, .tmp 5]) [0, 1, 2, 3, 4, 5, 6, 7, 8, 16, 31, 47, 61] [] mixed (extΓ_ok cRValid_ok noΓ_ok) (Δa_ok) call13 Tryz.func13 rfl Tryz.ntmps13 rfl (by kernel_rfl) (by simp) (by simp [pure_bool, pure_int, pure_str, pure_fs, pure_fp, pure_fn, pure_agg, pure_tup, pure_nilS, pure_nilP, pure_natsP, pure_intsP, pure_strsP, pure_list, pure_cntsP]) ?_
  have n1 : a1.length = 0 ∨ (a1.length ≤ 0) = False := by by_cases h : a1.length = 0; exact .inl h; exact .inr (eq_false (by omega))
  have n2 : a2.length = 0 ∨ (a2.length ≤ 0) = False := by by_cases h : a2.length = 0; exact .inl h; exact .inr (eq_false (by omega))
  replace n1 := n1.resolve_left
  replace n2 := n2.resolve_left
  simp (disch := (first | assumption | omega | (simp only [List.length_take, List.length_drop, List.length_append, List.length_set, List.length_replicate, List.length_cons, List.length_nil, len_nats, len_ints, len_strs] <;> omega))) only [go_sem, hv1, hv2, e1, e2, n1 e1, n2 e2, Nat.reduceBEq, Nat.reduceSub, Nat.reduceAdd, Nat.reduceMul, Nat.reduceLT, Nat.reduceLeDiff, Nat.reduceEqDiff, Int.reduceToNat, Int.reduceAdd, Int.reduceSub, Int.reduceMul, Int.reduceLT, Int.reduceLE, Int.reduceEq]
  refine ⟨⟨by omega, by omega, one_cnts _⟩, ?_⟩
  refine ⟨⟨by omega, by omega, one_cnts _⟩, ?_⟩
  refine AXk.intro (by kernel_rfl) ?_
  simp (disch := (first | assumption | omega | (simp only [List.length_take, List.length_drop, List.length_append, List.length_set, List.length_replicate, List.length_cons, List.length_nil, len_nats, len_ints, len_strs] <;> omega))) only [go_sem, Nat.reduceBEq, Nat.reduceSub, Nat.reduceAdd, Nat.reduceMul, Nat.reduceLT, Nat.reduceLeDiff, Nat.reduceEqDiff, Int.reduceToNat, Int.reduceAdd, Int.reduceSub, Int.reduceMul, Int.reduceLT, Int.reduceLE, Int.reduceEq]
  refine AXs.loop mixed (extΓ_ok cRValid_ok noΓ_ok) ( Δa_ok) (fun i : Nat => [(7, .int .i64 i), (3, .ptr 1 0), (4, .ptr 2 0), (6, .ptr 5 0)])
    (fun i => ⟨[(5, .cells [.sl 3 0 (insN a1 b1 i).length 3 none, .sl 4 0 a2.length 3 none]), (4, .cells (cnts a2)), (3, .cells (cnts (insN a1 b1 i))), (2, .cells [.nilS, .nilS]), (1, .cells [.fs (cnts b1) b1.length, .fs (cnts b2) b2.length])], 6⟩)
    (fun i => i ≤ b1.length) (fun i => b1.length - i) 0 (by kernel_rfl) (Nat.zero_le _) (Sub.of0 [(3, 4), (4, 6), (5, 7)] rfl rfl ?_ ?_) ?_
  · simp only [go_sem, Nat.reduceBEq, Nat.reduceSub, Nat.reduceAdd, Nat.reduceMul, Nat.reduceLT, Nat.reduceLeDiff, Nat.reduceEqDiff, Int.reduceToNat, Int.reduceAdd, Int.reduceSub, Int.reduceMul, Int.reduceLT, Int.reduceLE, Int.reduceEq]
    try omega
  · simp only [go_sem, insN_zero, cnts_nil, Nat.reduceBEq, Nat.reduceSub, Nat.reduceAdd, Nat.reduceMul, Nat.reduceLT, Nat.reduceLeDiff, Nat.reduceEqDiff, Int.reduceToNat, Int.reduceAdd, Int.reduceSub, Int.reduceMul, Int.reduceLT, Int.reduceLE, Int.reduceEq]
    try omega
  intro i h1
  simp only [go_sem, Nat.reduceBEq, Nat.reduceSub, Nat.reduceAdd, Nat.reduceMul, Nat.reduceLT, Nat.reduceLeDiff, Nat.reduceEqDiff, Int.reduceToNat, Int.reduceAdd, Int.reduceSub, Int.reduceMul, Int.reduceLT, Int.reduceLE, Int.reduceEq]
  refine AXc.introP (fun h2 => ?_) (fun h2 => ?_)
  · have hi : i < b1.length := by omega
    have at1 := cnts_at b1 i hi
    have ha := f1.add f3 hi
    have hs : insN a1 b1 (i + 1) = ins (insN a1 b1 i) (((nthE b1 i).1.1, (nthE b1 i).1.2), (nthE b1 i).2) := insN_succ a1 b1 i hi
    cases hh : has (insN a1 b1 i) ((nthE b1 i).1.1, (nthE b1 i).1.2) with
    | true =>
      have hA : Δa 25 [.sl 3 0 (insN a1 b1 i).length 3 none, .agg [.str (nthE b1 i).1.1, .str (nthE b1 i).1.2, .int .i64 (nthE b1 i).2]] ⟨[(5, .cells [.sl 3 0 (insN a1 b1 i).length 3 none, .sl 4 0 a2.length 3 none]), (4, .cells (cnts a2)), (3, .cells (cnts (insN a1 b1 i))), (2, .cells [.nilS, .nilS]), (1, .cells [.fs (cnts b1) b1.length, .fs (cnts b2) b2.length])], 6⟩ = _ := addR_has 3 (insN a1 b1 i) _ _ _ _ _ _ rfl rfl ha hh rfl
      simp (disch := (first | assumption | omega | (simp only [List.length_take, List.length_drop, List.length_append, List.length_set, List.length_replicate, List.length_cons, List.length_nil, len_nats, len_ints, len_strs] <;> omega))) only [go_sem, at1, hA, ← hs, Nat.reduceBEq, Nat.reduceSub, Nat.reduceAdd, Nat.reduceMul, Nat.reduceLT, Nat.reduceLeDiff, Nat.reduceEqDiff, Int.reduceToNat, Int.reduceAdd, Int.reduceSub, Int.reduceMul, Int.reduceLT, Int.reduceLE, Int.reduceEq]
      refine ⟨⟨by omega, by omega⟩, AXk.intro (by kernel_rfl) ?_⟩
      simp (disch := (first | assumption | omega | (simp only [List.length_take, List.length_drop, List.length_append, List.length_set, List.length_replicate, List.length_cons, List.length_nil, len_nats, len_ints, len_strs] <;> omega))) only [go_sem, Nat.reduceBEq, Nat.reduceSub, Nat.reduceAdd, Nat.reduceMul, Nat.reduceLT, Nat.reduceLeDiff, Nat.reduceEqDiff, Int.reduceToNat, Int.reduceAdd, Int.reduceSub, Int.reduceMul, Int.reduceLT, Int.reduceLE, Int.reduceEq]
      refine loopK_norm (i + 1) (by omega) (by omega) (Sub.of0 [] rfl rfl ?_ ?_)
      · simp only [go_sem, Nat.reduceBEq, Nat.reduceSub, Nat.reduceAdd, Nat.reduceMul, Nat.reduceLT, Nat.reduceLeDiff, Nat.reduceEqDiff, Int.reduceToNat, Int.reduceAdd, Int.reduceSub, Int.reduceMul, Int.reduceLT, Int.reduceLE, Int.reduceEq]
        try simp
      · simp only [go_sem, Nat.reduceBEq, Nat.reduceSub, Nat.reduceAdd, Nat.reduceMul, Nat.reduceLT, Nat.reduceLeDiff, Nat.reduceEqDiff, Int.reduceToNat, Int.reduceAdd, Int.reduceSub, Int.reduceMul, Int.reduceLT, Int.reduceLE, Int.reduceEq]
    | false =>
      have hA : Δa 25 [.sl 3 0 (insN a1 b1 i).length 3 none, .agg [.str (nthE b1 i).1.1, .str (nthE b1 i).1.2, .int .i64 (nthE b1 i).2]] ⟨[(5, .cells [.sl 3 0 (insN a1 b1 i).length 3 none, .sl 4 0 a2.length 3 none]), (4, .cells (cnts a2)), (3, .cells (cnts (insN a1 b1 i))), (2, .cells [.nilS, .nilS]), (1, .cells [.fs (cnts b1) b1.length, .fs (cnts b2) b2.length])], 6⟩ = _ := addR_new 3 (insN a1 b1 i) _ _ _ _ _ _ rfl rfl ha hh rfl
      simp (disch := (first | assumption | omega | (simp only [List.length_take, List.length_drop, List.length_append, List.length_set, List.length_replicate, List.length_cons, List.length_nil, len_nats, len_ints, len_strs] <;> omega))) only [go_sem, at1, hA, ← hs, Nat.reduceBEq, Nat.reduceSub, Nat.reduceAdd, Nat.reduceMul, Nat.reduceLT, Nat.reduceLeDiff, Nat.reduceEqDiff, Int.reduceToNat, Int.reduceAdd, Int.reduceSub, Int.reduceMul, Int.reduceLT, Int.reduceLE, Int.reduceEq]
      refine ⟨⟨by omega, by omega⟩, AXk.intro (by kernel_rfl) ?_⟩
      simp (disch := (first | assumption | omega | (simp only [List.length_take, List.length_drop, List.length_append, List.length_set, List.length_replicate, List.length_cons, List.length_nil, len_nats, len_ints, len_strs] <;> omega))) only [go_sem, Nat.reduceBEq, Nat.reduceSub, Nat.reduceAdd, Nat.reduceMul, Nat.reduceLT, Nat.reduceLeDiff, Nat.reduceEqDiff, Int.reduceToNat, Int.reduceAdd, Int.reduceSub, Int.reduceMul, Int.reduceLT, Int.reduceLE, Int.reduceEq]
      refine loopK_norm (i + 1) (by omega) (by omega) (Sub.of0 [(3, 6)] rfl rfl ?_ ?_)
      · simp only [go_sem, Nat.reduceBEq, Nat.reduceSub, Nat.reduceAdd, Nat.reduceMul, Nat.reduceLT, Nat.reduceLeDiff, Nat.reduceEqDiff, Int.reduceToNat, Int.reduceAdd, Int.reduceSub, Int.reduceMul, Int.reduceLT, Int.reduceLE, Int.reduceEq]
        try simp
      · simp only [go_sem, Nat.reduceBEq, Nat.reduceSub, Nat.reduceAdd, Nat.reduceMul, Nat.reduceLT, Nat.reduceLeDiff, Nat.reduceEqDiff, Int.reduceToNat, Int.reduceAdd, Int.reduceSub, Int.reduceMul, Int.reduceLT, Int.reduceLE, Int.reduceEq]
  have : i = b1.length := by omega
  subst this
  simp only [go_sem, Nat.reduceBEq, Nat.reduceSub, Nat.reduceAdd, Nat.reduceMul, Nat.reduceLT, Nat.reduceLeDiff, Nat.reduceEqDiff, Int.reduceToNat, Int.reduceAdd, Int.reduceSub, Int.reduceMul, Int.reduceLT, Int.reduceLE, Int.reduceEq]
  refine AXa.go mixed (extΓ_ok cRValid_ok noΓ_ok) ( Δa_ok) (by kernel_rfl) ?_
  simp (disch := (first | assumption | omega | (simp only [List.length_take, List.length_drop, List.length_append, List.length_set, List.length_replicate, List.length_cons, List.length_nil, len_nats, len_ints, len_strs] <;> omega))) only [go_sem, Nat.reduceBEq, Nat.reduceSub, Nat.reduceAdd, Nat.reduceMul, Nat.reduceLT, Nat.reduceLeDiff, Nat.reduceEqDiff, Int.reduceToNat, Int.reduceAdd, Int.reduceSub, Int.reduceMul, Int.reduceLT, Int.reduceLE, Int.reduceEq]
  refine AXs.loop mixed (extΓ_ok cRValid_ok noΓ_ok) ( Δa_ok) (fun i : Nat => [(8, .int .i64 i), (3, .ptr 1 0), (4, .ptr 2 0), (6, .ptr 5 0)])
    (fun i => ⟨[(5, .cells [.sl 3 0 (insN a1 b1 b1.length).length 3 none, .sl 4 0 (insN a2 b2 i).length 3 none]), (4, .cells (cnts (insN a2 b2 i))), (3, .cells (cnts (insN a1 b1 b1.length))), (2, .cells [.nilS, .nilS]), (1, .cells [.fs (cnts b1) b1.length, .fs (cnts b2) b2.length])], 6⟩)
    (fun i => i ≤ b2.length) (fun i => b2.length - i) 0 (by kernel_rfl) (Nat.zero_le _) (Sub.of0 [] rfl rfl ?_ ?_) ?_
  · simp only [go_sem, insN_zero, Nat.reduceBEq, Nat.reduceSub, Nat.reduceAdd, Nat.reduceMul, Nat.reduceLT, Nat.reduceLeDiff, Nat.reduceEqDiff, Int.reduceToNat, Int.reduceAdd, Int.reduceSub, Int.reduceMul, Int.reduceLT, Int.reduceLE, Int.reduceEq]
  · simp only [go_sem, insN_zero, Nat.reduceBEq, Nat.reduceSub, Nat.reduceAdd, Nat.reduceMul, Nat.reduceLT, Nat.reduceLeDiff, Nat.reduceEqDiff, Int.reduceToNat, Int.reduceAdd, Int.reduceSub, Int.reduceMul, Int.reduceLT, Int.reduceLE, Int.reduceEq]
  intro i h1
  simp only [go_sem, Nat.reduceBEq, Nat.reduceSub, Nat.reduceAdd, Nat.reduceMul, Nat.reduceLT, Nat.reduceLeDiff, Nat.reduceEqDiff, Int.reduceToNat, Int.reduceAdd, Int.reduceSub, Int.reduceMul, Int.reduceLT, Int.reduceLE, Int.reduceEq]
  refine AXc.introP (fun h2 => ?_) (fun h2 => ?_)
  · have hi : i < b2.length := by omega
    have at1 := cnts_at b2 i hi
    have ha := f2.add f4 hi
    have hs : insN a2 b2 (i + 1) = ins (insN a2 b2 i) (((nthE b2 i).1.1, (nthE b2 i).1.2), (nthE b2 i).2) := insN_succ a2 b2 i hi
    cases hh : has (insN a2 b2 i) ((nthE b2 i).1.1, (nthE b2 i).1.2) with
    | true =>
      have hA : Δa 25 [.sl 4 0 (insN a2 b2 i).length 3 none, .agg [.str (nthE b2 i).1.1, .str (nthE b2 i).1.2, .int .i64 (nthE b2 i).2]] ⟨[(5, .cells [.sl 3 0 (insN a1 b1 b1.length).length 3 none, .sl 4 0 (insN a2 b2 i).length 3 none]), (4, .cells (cnts (insN a2 b2 i))), (3, .cells (cnts (insN a1 b1 b1.length))), (2, .cells [.nilS, .nilS]), (1, .cells [.fs (cnts b1) b1.length, .fs (cnts b2) b2.length])], 6⟩ = _ := addR_has 4 (insN a2 b2 i) _ _ _ _ _ _ rfl rfl ha hh rfl
      simp (disch := (first | assumption | omega | (simp only [List.length_take, List.length_drop, List.length_append, List.length_set, List.length_replicate, List.length_cons, List.length_nil, len_nats, len_ints, len_strs] <;> omega))) only [go_sem, at1, hA, ← hs, Nat.reduceBEq, Nat.reduceSub, Nat.reduceAdd, Nat.reduceMul, Nat.reduceLT, Nat.reduceLeDiff, Nat.reduceEqDiff, Int.reduceToNat, Int.reduceAdd, Int.reduceSub, Int.reduceMul, Int.reduceLT, Int.reduceLE, Int.reduceEq]
      refine ⟨⟨by omega, by omega⟩, AXk.intro (by kernel_rfl) ?_⟩
      simp (disch := (first | assumption | omega | (simp only [List.length_take, List.length_drop, List.length_append, List.length_set, List.length_replicate, List.length_cons, List.length_nil, len_nats, len_ints, len_strs] <;> omega))) only [go_sem, Nat.reduceBEq, Nat.reduceSub, Nat.reduceAdd, Nat.reduceMul, Nat.reduceLT, Nat.reduceLeDiff, Nat.reduceEqDiff, Int.reduceToNat, Int.reduceAdd, Int.reduceSub, Int.reduceMul, Int.reduceLT, Int.reduceLE, Int.reduceEq]
      refine loopK_norm (i + 1) (by omega) (by omega) (Sub.of0 [] rfl rfl ?_ ?_)
      · simp only [go_sem, Nat.reduceBEq, Nat.reduceSub, Nat.reduceAdd, Nat.reduceMul, Nat.reduceLT, Nat.reduceLeDiff, Nat.reduceEqDiff, Int.reduceToNat, Int.reduceAdd, Int.reduceSub, Int.reduceMul, Int.reduceLT, Int.reduceLE, Int.reduceEq]
        try simp
      · simp only [go_sem, Nat.reduceBEq, Nat.reduceSub, Nat.reduceAdd, Nat.reduceMul, Nat.reduceLT, Nat.reduceLeDiff, Nat.reduceEqDiff, Int.reduceToNat, Int.reduceAdd, Int.reduceSub, Int.reduceMul, Int.reduceLT, Int.reduceLE, Int.reduceEq]
    | false =>
      have hA : Δa 25 [.sl 4 0 (insN a2 b2 i).length 3 none, .agg [.str (nthE b2 i).1.1, .str (nthE b2 i).1.2, .int .i64 (nthE b2 i).2]] ⟨[(5, .cells [.sl 3 0 (insN a1 b1 b1.length).length 3 none, .sl 4 0 (insN a2 b2 i).length 3 none]), (4, .cells (cnts (insN a2 b2 i))), (3, .cells (cnts (insN a1 b1 b1.length))), (2, .cells [.nilS, .nilS]), (1, .cells [.fs (cnts b1) b1.length, .fs (cnts b2) b2.length])], 6⟩ = _ := addR_new 4 (insN a2 b2 i) _ _ _ _ _ _ rfl rfl ha hh rfl
      simp (disch := (first | assumption | omega | (simp only [List.length_take, List.length_drop, List.length_append, List.length_set, List.length_replicate, List.length_cons, List.length_nil, len_nats, len_ints, len_strs] <;> omega))) only [go_sem, at1, hA, ← hs, Nat.reduceBEq, Nat.reduceSub, Nat.reduceAdd, Nat.reduceMul, Nat.reduceLT, Nat.reduceLeDiff, Nat.reduceEqDiff, Int.reduceToNat, Int.reduceAdd, Int.reduceSub, Int.reduceMul, Int.reduceLT, Int.reduceLE, Int.reduceEq]
      refine ⟨⟨by omega, by omega⟩, AXk.intro (by kernel_rfl) ?_⟩
      simp (disch := (first | assumption | omega | (simp only [List.length_take, List.length_drop, List.length_append, List.length_set, List.length_replicate, List.length_cons, List.length_nil, len_nats, len_ints, len_strs] <;> omega))) only [go_sem, Nat.reduceBEq, Nat.reduceSub, Nat.reduceAdd, Nat.reduceMul, Nat.reduceLT, Nat.reduceLeDiff, Nat.reduceEqDiff, Int.reduceToNat, Int.reduceAdd, Int.reduceSub, Int.reduceMul, Int.reduceLT, Int.reduceLE, Int.reduceEq]
      refine loopK_norm (i + 1) (by omega) (by omega) (Sub.of0 [(4, 6)] rfl rfl ?_ ?_)
      · simp only [go_sem, Nat.reduceBEq, Nat.reduceSub, Nat.reduceAdd, Nat.reduceMul, Nat.reduceLT, Nat.reduceLeDiff, Nat.reduceEqDiff, Int.reduceToNat, Int.reduceAdd, Int.reduceSub, Int.reduceMul, Int.reduceLT, Int.reduceLE, Int.reduceEq]
        try simp
      · simp only [go_sem, Nat.reduceBEq, Nat.reduceSub, Nat.reduceAdd, Nat.reduceMul, Nat.reduceLT, Nat.reduceLeDiff, Nat.reduceEqDiff, Int.reduceToNat, Int.reduceAdd, Int.reduceSub, Int.reduceMul, Int.reduceLT, Int.reduceLE, Int.reduceEq]
  have : i = b2.length := by omega
  subst this
  simp only [go_sem, Nat.reduceBEq, Nat.reduceSub, Nat.reduceAdd, Nat.reduceMul, Nat.reduceLT, Nat.reduceLeDiff, Nat.reduceEqDiff, Int.reduceToNat, Int.reduceAdd, Int.reduceSub, Int.reduceMul, Int.reduceLT, Int.reduceLE, Int.reduceEq]
  refine AXa.go mixed (extΓ_ok cRValid_ok noΓ_ok) ( Δa_ok) (by kernel_rfl) ?_
  simp (disch := (first | assumption | omega | (simp only [List.length_take, List.length_drop, List.length_append, List.length_set, List.length_replicate, List.length_cons, List.length_nil, len_nats, len_ints, len_strs] <;> omega))) only [go_sem, Nat.reduceBEq, Nat.reduceSub, Nat.reduceAdd, Nat.reduceMul, Nat.reduceLT, Nat.reduceLeDiff, Nat.reduceEqDiff, Int.reduceToNat, Int.reduceAdd, Int.reduceSub, Int.reduceMul, Int.reduceLT, Int.reduceLE, Int.reduceEq]
  obtain ⟨p1, p2, p3, p4⟩ := f1.ok f3 b1.length
  obtain ⟨q1, q2, q3, q4⟩ := f2.ok f4 b2.length
  have hR : resR a1 a2 b1 b2 = if validC (insN a1 b1 b1.length) (insN a2 b2 b2.length) = true then (insN a1 b1 b1.length, insN a2 b2 b2.length, 0) else ([], [], 2) := by
    unfold resR; rw [if_pos (by rw [hv1, hv2]; rfl), insN_all, insN_all]
  rw [hR]
  generalize insN a1 b1 b1.length = R1 at p1 p2 p3 p4 ⊢
  generalize insN a2 b2 b2.length = R2 at q1 q2 q3 q4 ⊢
  simp (disch := (first | assumption | omega | (simp only [List.length_take, List.length_drop, List.length_append, List.length_set, List.length_replicate, List.length_cons, List.length_nil, len_nats, len_ints, len_strs] <;> omega))) only [go_sem, take_cnts, Δa_none, Nat.reduceBEq, Nat.reduceSub, Nat.reduceAdd, Nat.reduceMul, Nat.reduceLT, Nat.reduceLeDiff, Nat.reduceEqDiff, Int.reduceToNat, Int.reduceAdd, Int.reduceSub, Int.reduceMul, Int.reduceLT, Int.reduceLE, Int.reduceEq]
  cases hw : validC R1 R2 with
  | true =>
    simp (disch := (first | assumption | omega | (simp only [List.length_take, List.length_drop, List.length_append, List.length_set, List.length_replicate, List.length_cons, List.length_nil, len_nats, len_ints, len_strs] <;> omega))) only [go_sem, Nat.reduceBEq, Nat.reduceSub, Nat.reduceAdd, Nat.reduceMul, Nat.reduceLT, Nat.reduceLeDiff, Nat.reduceEqDiff, Int.reduceToNat, Int.reduceAdd, Int.reduceSub, Int.reduceMul, Int.reduceLT, Int.reduceLE, Int.reduceEq]
    refine ⟨Frz.slp rfl rfl (by rw [len_cnts]; omega) ?_ (pure_cnts _), Frz.slp rfl rfl (by rw [len_cnts]; omega) ?_ (pure_cnts _)⟩
    · rw [List.drop_zero, List.take_of_length_le (by rw [len_cnts]; omega)]
    · rw [List.drop_zero, List.take_of_length_le (by rw [len_cnts]; omega)]
  | false =>
    simp (disch := (first | assumption | omega | (simp only [List.length_take, List.length_drop, List.length_append, List.length_set, List.length_replicate, List.length_cons, List.length_nil, len_nats, len_ints, len_strs] <;> omega))) only [go_sem, cnts_nil, Nat.reduceBEq, Nat.reduceSub, Nat.reduceAdd, Nat.reduceMul, Nat.reduceLT, Nat.reduceLeDiff, Nat.reduceEqDiff, Int.reduceToNat, Int.reduceAdd, Int.reduceSub, Int.reduceMul, Int.reduceLT, Int.reduceLE, Int.reduceEq]
set_option maxHeartbeats 4000000 in
theorem rMerge_ok (a1 a2 b1 b2 : List Ent) (l1 : a1.length ≤ 1000000) (l2 : a2.length ≤ 1000000) (l3 : b1.length ≤ 1000000) (l4 : b2.length ≤ 1000000) (s1 : shortL a1) (s2 : shortL a2) (s3 : shortL b1) (s4 : shortL b2) :
    PCall Tryz.prog 13 [.agg [.fs (cnts a1) a1.length, .fs (cnts a2) a2.length], .agg [.fs (cnts b1) b1.length, .fs (cnts b2) b2.length]]
    (.ret (.tup [.agg [.fs (cnts (resR a1 a2 b1 b2).1) (resR a1 a2 b1 b2).1.length, .fs (cnts (resR a1 a2 b1 b2).2.1) (resR a1 a2 b1 b2).2.1.length], .int .i64 (resR a1 a2 b1 b2).2.2])) := by
  by_cases hv : (validC a1 a2 && validC b1 b2) = true
  · have hv' : validC a1 a2 = true ∧ validC b1 b2 = true := by simpa using hv
    obtain ⟨f1, f2⟩ := validC_fine hv'.1 s1 s2
    obtain ⟨f3, f4⟩ := validC_fine hv'.2 s3 s4
    by_cases e1 : a1.length = 0
    · by_cases e2 : a2.length = 0
      · exact rMergeEE a1 a2 b1 b2 f1 f2 f3 f4 hv'.1 hv'.2 e1 e2
      · exact rMergeEN a1 a2 b1 b2 f1 f2 f3 f4 hv'.1 hv'.2 e1 e2
    · by_cases e2 : a2.length = 0
      · exact rMergeNE a1 a2 b1 b2 f1 f2 f3 f4 hv'.1 hv'.2 e1 e2
      · exact rMergeNN a1 a2 b1 b2 f1 f2 f3 f4 hv'.1 hv'.2 e1 e2
  · have hr : resR a1 a2 b1 b2 = ([], [], 1) := if_neg hv
    rw [hr]
    refine PCall.walk (rs := [.cell 4 27, .tmp 5]) [0, 1, 2, 3, 4, 5, 6, 7, 8, 16, 31, 47, 61] [] mixed (extΓ_ok cRValid_ok noΓ_ok) (Δa_ok) call13 Tryz.func13 rfl Tryz.ntmps13 rfl (by kernel_rfl) (by simp) (by simp [pure_bool, pure_int, pure_str, pure_fs, pure_fp, pure_fn, pure_agg, pure_tup, pure_nilS, pure_nilP, pure_natsP, pure_intsP, pure_strsP, pure_list, pure_cntsP]) ?_
    simp (disch := (first | assumption | omega | (simp only [List.length_take, List.length_drop, List.length_append, List.length_set, List.length_replicate, List.length_cons, List.length_nil, len_nats, len_ints, len_strs] <;> omega))) only [go_sem, cnts_nil, Nat.reduceBEq, Nat.reduceSub, Nat.reduceAdd, Nat.reduceMul, Nat.reduceLT, Nat.reduceLeDiff, Nat.reduceEqDiff, Int.reduceToNat, Int.reduceAdd, Int.reduceSub, Int.reduceMul, Int.reduceLT, Int.reduceLE, Int.reduceEq]
    have hb : (!validC a1 a2 || !validC b1 b2) = true := by
      cases e1 : validC a1 a2 <;> cases e2 : validC b1 b2 <;> simp_all
    rw [hb]
    simp (disch := (first | assumption | omega | (simp only [List.length_take, List.length_drop, List.length_append, List.length_set, List.length_replicate, List.length_cons, List.length_nil, len_nats, len_ints, len_strs] <;> omega))) only [go_sem, Nat.reduceBEq, Nat.reduceSub, Nat.reduceAdd, Nat.reduceMul, Nat.reduceLT, Nat.reduceLeDiff, Nat.reduceEqDiff, Int.reduceToNat, Int.reduceAdd, Int.reduceSub, Int.reduceMul, Int.reduceLT, Int.reduceLE, Int.reduceEq]
theorem incB_inc {l : List Ent} (h : Inc l) : incB l = true := incB_t fun i hi => inc_nth h (by omega) hi
theorem fold_mem_pos {a b : List Ent} (ha : Fine a) (hb : Fine b) : ∀ e ∈ b.foldl ins a, 1 ≤ e.2 := fun e he => by
  have hi := (fold_ins_perm ha.inc b).2.1
  have hv := val_mem hi.dif he
  rw [val_fold_ins ha.inc] at hv
  have h1 := ha.val e.1
  have h2 : 0 ≤ tot b e.1 := tot_nonneg (fun x hx => by have := hb.lo x hx; omega) e.1
  have hp := (fold_ins_perm ha.inc b).1
  by_cases hk : ∃ x ∈ a, x.1 = e.1
  · obtain ⟨x, hx, hxe⟩ := hk
    have := val_mem ha.inc.dif hx
    rw [hxe] at this
    have := ha.lo x hx
    omega
  · have hb2 : ∃ x ∈ b, x.1 = e.1 := by
      have := mem_fold_ins (p := fun k => (∃ x ∈ a, x.1 = k) ∨ ∃ x ∈ b, x.1 = k) b (l := a) (fun x hx => .inl ⟨x, hx, rfl⟩) (fun x hx => .inr ⟨x, hx, rfl⟩) e he
      exact this.resolve_left hk
    obtain ⟨x, hx, hxe⟩ := hb2
    have h3 := val_mem hb.inc.dif hx
    rw [hxe, ← tot_dif hb.inc.dif] at h3
    have := hb.lo x hx
    omega
theorem vB_fold {q : Str → Bool} {a b : List Ent} (ha : vB q a = true) (hb : vB q b = true) (sa : shortL a) (sb : shortL b) :
    (resM (a ++ b)).2 = vB q (b.foldl ins a) ∧ (vB q (b.foldl ins a) = true → (resM (a ++ b)).1 = b.foldl ins a) := by
  have fa := vB_fine ha sa
  have fb := vB_fine hb sb
  have hN : ∀ e ∈ a ++ b, 1 ≤ e.2 ∧ e.2 ≤ 1000000 := fun e he => (List.mem_append.1 he).elim (fa.lo e) (fb.lo e)
  obtain ⟨p, i, d⟩ := merge_perm (b := b) fa.inc
  have hM : mapOf (a ++ b) (a ++ b).length = (a ++ b).foldl upd [] := by unfold mapOf; rw [List.take_length]
  have hq : ∀ e ∈ b.foldl ins a, q e.1.1 = true ∧ q e.1.2 = true := by
    have key : ∀ {l : List Ent}, vB q l = true → ∀ e ∈ l, q e.1.1 = true ∧ q e.1.2 = true := by
      intro l h e he
      unfold vB at h
      simp only [Bool.and_eq_true] at h
      have := List.all_eq_true.1 h.1.2 e he
      unfold goodB at this
      simp at this
      exact ⟨this.1.2, this.2⟩
    exact mem_fold_ins (p := fun k => q k.1 = true ∧ q k.2 = true) b (key ha) (key hb)
  have hval : ∀ e ∈ b.foldl ins a, val ((a ++ b).foldl upd []) e.1 = e.2 := fun e he => by
    rw [← val_perm i.dif p]; exact val_mem i.dif he
  by_cases hok : okTo (a ++ b) (a ++ b).length
  · have hb' := val_bound hN (a ++ b).length (Nat.le_refl _) hok
    rw [resM_ok hok, hM]
    have hall : (b.foldl ins a).all (goodB q) = true := List.all_eq_true.2 fun e he => by
      have h1 := fold_mem_pos fa fb e he
      have h2 := hb' e.1
      rw [hM, hval e he] at h2
      obtain ⟨q1, q2⟩ := hq e he
      unfold goodB
      simp [q1, q2]
      omega
    have hs : srt ((a ++ b).foldl upd []) = b.foldl ins a := Inc.perm_eq (srt_inc _) i ((srt_perm d).trans p.symm)
    refine ⟨?_, fun _ => hs⟩
    show decide _ = vB q _
    unfold vB
    rw [hall, incB_inc i, ← p.length_eq, Bool.and_true, Bool.and_true]
  · have hno : resM (a ++ b) = ([], false) := by unfold resM; rw [if_neg hok]
    rw [hno]
    have hf : vB q (b.foldl ins a) = false := by
      cases hv : vB q (b.foldl ins a) with
      | false => rfl
      | true =>
        exfalso
        apply hok
        intro j hj
        have h2 := (vB_iff hv).2
        have hm : val ((a ++ b).foldl upd []) (nthE (a ++ b) j).1 ≤ 1000000 := by
          rw [← val_perm i.dif p]
          exact (val_bounds (hi := 1000000) (by omega) (fun e he => by have := h2 e he; omega) _).2
        refine Int.le_trans ?_ hm
        unfold mapOf
        rw [val_fold_upd, val_fold_upd]
        have hsplit : tot (a ++ b) (nthE (a ++ b) j).1 = tot ((a ++ b).take (j + 1)) (nthE (a ++ b) j).1 + tot ((a ++ b).drop (j + 1)) (nthE (a ++ b) j).1 := by
          rw [← tot_append, List.take_append_drop]
        have := tot_nonneg (l := (a ++ b).drop (j + 1)) (fun e he => by have := hN e (List.mem_of_mem_drop he); omega) (nthE (a ++ b) j).1
        omega
    refine ⟨hf.symm, fun h => by rw [hf] at h; cases h⟩
theorem resMg_eq (a1 a2 b1 b2 : List Ent) (s1 : shortL a1) (s2 : shortL a2) (s3 : shortL b1) (s4 : shortL b2) : resMg a1 a2 b1 b2 = resR a1 a2 b1 b2 := by
  unfold resMg resR
  by_cases hv : (validC a1 a2 && validC b1 b2) = true
  · rw [if_pos hv, if_pos hv]
    unfold validC at hv
    simp only [Bool.and_eq_true] at hv
    obtain ⟨⟨v1, v2⟩, v3, v4⟩ := hv
    obtain ⟨c1, d1⟩ := vB_fold v1 v3 s1 s3
    obtain ⟨c2, d2⟩ := vB_fold v2 v4 s2 s4
    rw [c1, c2]
    unfold validC
    by_cases hw : (vB nameE (b1.foldl ins a1) && vB nameB (b2.foldl ins a2)) = true
    · have hw' : vB nameE (b1.foldl ins a1) = true ∧ vB nameB (b2.foldl ins a2) = true := by simpa using hw
      rw [if_pos hw, if_pos hw, d1 hw'.1, d2 hw'.2]
    · rw [if_neg hw, if_neg hw]
  · rw [if_neg hv, if_neg hv]
theorem fold_comm {a b : List Ent} (ha : Fine a) (hb : Fine b) : b.foldl ins a = a.foldl ins b := by
  refine Inc.val_eq (fold_ins_perm ha.inc b).2.1 (fold_ins_perm hb.inc a).2.1 (fun e he => by have := fold_mem_pos ha hb e he; omega) (fun e he => by have := fold_mem_pos hb ha e he; omega) fun k => ?_
  rw [val_fold_ins ha.inc, val_fold_ins hb.inc, tot_dif ha.inc.dif, tot_dif hb.inc.dif]
  omega
theorem resR_comm (a1 a2 b1 b2 : List Ent) (s1 : shortL a1) (s2 : shortL a2) (s3 : shortL b1) (s4 : shortL b2) : resR b1 b2 a1 a2 = resR a1 a2 b1 b2 := by
  unfold resR
  rw [Bool.and_comm]
  by_cases hv : (validC a1 a2 && validC b1 b2) = true
  · rw [if_pos hv, if_pos hv]
    have hv' : validC a1 a2 = true ∧ validC b1 b2 = true := by simpa using hv
    obtain ⟨f1, f2⟩ := validC_fine hv'.1 s1 s2
    obtain ⟨f3, f4⟩ := validC_fine hv'.2 s3 s4
    rw [fold_comm f1 f3, fold_comm f2 f4]
  · rw [if_neg hv, if_neg hv]
end Go.Proofs
