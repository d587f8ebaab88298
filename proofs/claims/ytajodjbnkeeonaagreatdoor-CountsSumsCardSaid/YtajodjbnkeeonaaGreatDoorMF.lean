/- The statement's own function: the counts of any sentences. -/
import Derived.Test.YtajodjbnkeeonaaGreatDoorMB
import Derived.Test.YtajodjbnkeeonaaGreatDoorME
import Derived.Test.YtajodjbnkeeonaaGreatDoorAbSort
import Derived.Test.YtajodjbnkeeonaaGreatDoorMC
set_option linter.unusedSimpArgs false
set_option linter.unusedVariables false
namespace Go.Proofs
open Go.Ab Go.Cnt
def tokL (t : Tok) : Bool := decide (t.1.length ≤ 100) && decide (t.2.length ≤ 100)
def totL : List (List Tok) → Nat
  | [] => 0
  | s :: ss => s.length + totL ss
def longB (ss : List (List Tok)) : Bool := !(decide (ss.length ≤ 600) && decide (totL ss ≤ 2000) && ss.all fun s => s.all tokL)
theorem totL_app (a b : List (List Tok)) : totL (a ++ b) = totL a + totL b := by
  induction a with
  | nil => simp [totL]
  | cons x a ih => simp only [List.cons_append, totL, ih]; omega
theorem totL_step (ss : List (List Tok)) (i : Nat) (h : i < ss.length) : totL (ss.take (i + 1)) = totL (ss.take i) + (nthS ss i).length := by rw [takeS ss i h, totL_app]; rfl
theorem totL_le (ss : List (List Tok)) (i : Nat) : totL (ss.take i) ≤ totL ss := by
  have : totL ss = totL (ss.take i) + totL (ss.drop i) := by rw [← totL_app, List.take_append_drop]
  omega
def fits (ss : List (List Tok)) : Prop := ss.length ≤ 1000000000000000 ∧ ∀ s ∈ ss, s.length ≤ 1000000000000000
set_option maxHeartbeats 4000000 in
theorem long_ok (ss : List (List Tok)) (hf : fits ss) : PCall Tryz.prog 6 [.fs (sents ss) ss.length] (.ret (.bool (longB ss))) := by
  obtain ⟨f1, f2⟩ := hf
  refine PCall.walk (rs := [.tmp 2]) [0, 2, 3, 4, 5, 8, 12, 23, 30, 54] [] mixed (noΓ_ok) (noΔ_ok) call6 Tryz.func6 rfl Tryz.ntmps6 rfl (by kernel_rfl) (by simp) (by simp [pure_bool, pure_int, pure_str, pure_fs, pure_fp, pure_fn, pure_agg, pure_tup, pure_nilS, pure_nilP, pure_natsP, pure_intsP, pure_strsP, pure_list, pure_cntsP, pure_sentsP]) ?_
  simp only [go_sem, Nat.reduceBEq, Nat.reduceSub, Nat.reduceAdd, Nat.reduceMul, Nat.reduceLT, Nat.reduceLeDiff, Nat.reduceEqDiff, Int.reduceToNat, Int.reduceAdd, Int.reduceSub, Int.reduceMul, Int.reduceLT, Int.reduceLE, Int.reduceEq]
  refine AXc.introP (fun h0 => ?_) (fun h0 => ?_)
  · simp only [go_sem, Nat.reduceBEq, Nat.reduceSub, Nat.reduceAdd, Nat.reduceMul, Nat.reduceLT, Nat.reduceLeDiff, Nat.reduceEqDiff, Int.reduceToNat, Int.reduceAdd, Int.reduceSub, Int.reduceMul, Int.reduceLT, Int.reduceLE, Int.reduceEq]
    unfold longB
    rw [decide_eq_false (by omega)]; rfl
  have h0' : ss.length ≤ 600 := by omega
  simp only [go_sem, Nat.reduceBEq, Nat.reduceSub, Nat.reduceAdd, Nat.reduceMul, Nat.reduceLT, Nat.reduceLeDiff, Nat.reduceEqDiff, Int.reduceToNat, Int.reduceAdd, Int.reduceSub, Int.reduceMul, Int.reduceLT, Int.reduceLE, Int.reduceEq]
  refine AXs.loop mixed (noΓ_ok) (noΔ_ok) (fun i : Nat => [(0, .fs (sents ss) ss.length), (3, .int .i64 (totL (ss.take i) : Nat)), (4, .int .i64 i)]) (fun _ => ⟨[], 0⟩) (fun i => i ≤ ss.length ∧ totL (ss.take i) ≤ 2000 ∧ ∀ k, k < i → (nthS ss k).all tokL = true) (fun i => ss.length - i) 0 (by kernel_rfl) ⟨Nat.zero_le _, by simp [totL], fun k hk => by omega⟩ (Sub.of0 [] rfl rfl ?_ ?_) ?_
  · simp only [go_sem, Nat.reduceBEq, Nat.reduceSub, Nat.reduceAdd, Nat.reduceMul, Nat.reduceLT, Nat.reduceLeDiff, Nat.reduceEqDiff, Int.reduceToNat, Int.reduceAdd, Int.reduceSub, Int.reduceMul, Int.reduceLT, Int.reduceLE, Int.reduceEq]
    rfl
  · simp only [go_sem, Nat.reduceBEq, Nat.reduceSub, Nat.reduceAdd, Nat.reduceMul, Nat.reduceLT, Nat.reduceLeDiff, Nat.reduceEqDiff, Int.reduceToNat, Int.reduceAdd, Int.reduceSub, Int.reduceMul, Int.reduceLT, Int.reduceLE, Int.reduceEq]
  rintro i ⟨h1, h2, h2'⟩
  simp only [go_sem, Nat.reduceBEq, Nat.reduceSub, Nat.reduceAdd, Nat.reduceMul, Nat.reduceLT, Nat.reduceLeDiff, Nat.reduceEqDiff, Int.reduceToNat, Int.reduceAdd, Int.reduceSub, Int.reduceMul, Int.reduceLT, Int.reduceLE, Int.reduceEq]
  refine AXc.introP (fun h3 => ?_) (fun h3 => ?_)
  · have hi : i < ss.length := by omega
    have at1 := sents_at ss i hi
    have ts := totL_step ss i hi
    have tl := totL_le ss (i + 1)
    have fi := f2 _ (sentR.nth_mem hi)
    have fi' : (nthS ss i).length ≤ 1000000000000000 := fi
    simp (disch := (first | assumption | omega | (simp only [List.length_take, List.length_drop, List.length_append, List.length_set, List.length_replicate, List.length_cons, List.length_nil, len_nats, len_ints, len_strs] <;> omega))) only [go_sem, at1, Nat.reduceBEq, Nat.reduceSub, Nat.reduceAdd, Nat.reduceMul, Nat.reduceLT, Nat.reduceLeDiff, Nat.reduceEqDiff, Int.reduceToNat, Int.reduceAdd, Int.reduceSub, Int.reduceMul, Int.reduceLT, Int.reduceLE, Int.reduceEq]
    (repeat refine And.intro (by first | omega | exact ⟨by omega, by omega⟩ | kernel_rfl | rfl | assumption | (intro h; exact ⟨h, by omega, by omega⟩) | (intro h; exact ⟨h, by omega⟩)) ?_)
    refine AXc.introP (fun h4 => ?_) (fun h4 => ?_)
    · simp (disch := (first | assumption | omega | (simp only [List.length_take, List.length_drop, List.length_append, List.length_set, List.length_replicate, List.length_cons, List.length_nil, len_nats, len_ints, len_strs] <;> omega))) only [go_sem, Nat.reduceBEq, Nat.reduceSub, Nat.reduceAdd, Nat.reduceMul, Nat.reduceLT, Nat.reduceLeDiff, Nat.reduceEqDiff, Int.reduceToNat, Int.reduceAdd, Int.reduceSub, Int.reduceMul, Int.reduceLT, Int.reduceLE, Int.reduceEq]
      unfold longB
      rw [decide_eq_false (p := totL ss ≤ 2000) (by omega)]
      simp
    have h4' : totL (ss.take (i + 1)) ≤ 2000 := by omega
    simp (disch := (first | assumption | omega | (simp only [List.length_take, List.length_drop, List.length_append, List.length_set, List.length_replicate, List.length_cons, List.length_nil, len_nats, len_ints, len_strs] <;> omega))) only [go_sem, Nat.reduceBEq, Nat.reduceSub, Nat.reduceAdd, Nat.reduceMul, Nat.reduceLT, Nat.reduceLeDiff, Nat.reduceEqDiff, Int.reduceToNat, Int.reduceAdd, Int.reduceSub, Int.reduceMul, Int.reduceLT, Int.reduceLE, Int.reduceEq]
    refine AXs.loop mixed (noΓ_ok) (noΔ_ok) (fun j : Nat => [(0, .fs (sents ss) ss.length), (3, .int .i64 (totL (ss.take (i + 1)) : Nat)), (4, .int .i64 i), (5, .int .i64 j)]) (fun _ => ⟨[], 0⟩) (fun j => j ≤ (nthS ss i).length ∧ ∀ k, k < j → tokL (nthT (nthS ss i) k) = true) (fun j => (nthS ss i).length - j) 0 (by kernel_rfl) ⟨Nat.zero_le _, fun k hk => by omega⟩ (Sub.of0 [] rfl rfl ?_ ?_) ?_
    · simp (disch := (first | assumption | omega | (simp only [List.length_take, List.length_drop, List.length_append, List.length_set, List.length_replicate, List.length_cons, List.length_nil, len_nats, len_ints, len_strs] <;> omega))) only [go_sem, Nat.reduceBEq, Nat.reduceSub, Nat.reduceAdd, Nat.reduceMul, Nat.reduceLT, Nat.reduceLeDiff, Nat.reduceEqDiff, Int.reduceToNat, Int.reduceAdd, Int.reduceSub, Int.reduceMul, Int.reduceLT, Int.reduceLE, Int.reduceEq]
      simp only [V.int.injEq, true_and]; omega
    · simp only [go_sem, Nat.reduceBEq, Nat.reduceSub, Nat.reduceAdd, Nat.reduceMul, Nat.reduceLT, Nat.reduceLeDiff, Nat.reduceEqDiff, Int.reduceToNat, Int.reduceAdd, Int.reduceSub, Int.reduceMul, Int.reduceLT, Int.reduceLE, Int.reduceEq]
    rintro j ⟨h5, h6⟩
    simp (disch := (first | assumption | omega | (simp only [List.length_take, List.length_drop, List.length_append, List.length_set, List.length_replicate, List.length_cons, List.length_nil, len_nats, len_ints, len_strs] <;> omega))) only [go_sem, at1, Nat.reduceBEq, Nat.reduceSub, Nat.reduceAdd, Nat.reduceMul, Nat.reduceLT, Nat.reduceLeDiff, Nat.reduceEqDiff, Int.reduceToNat, Int.reduceAdd, Int.reduceSub, Int.reduceMul, Int.reduceLT, Int.reduceLE, Int.reduceEq]
    (repeat refine And.intro (by first | omega | exact ⟨by omega, by omega⟩ | kernel_rfl | rfl | assumption | (intro h; exact ⟨h, by omega, by omega⟩) | (intro h; exact ⟨h, by omega⟩)) ?_)
    refine AXc.introP (fun h7 => ?_) (fun h7 => ?_)
    · have hj : j < (nthS ss i).length := by omega
      have at2 := toks_at (nthS ss i) j hj
      simp (disch := (first | assumption | omega | (simp only [List.length_take, List.length_drop, List.length_append, List.length_set, List.length_replicate, List.length_cons, List.length_nil, len_nats, len_ints, len_strs] <;> omega))) only [go_sem, at1, at2, Nat.reduceBEq, Nat.reduceSub, Nat.reduceAdd, Nat.reduceMul, Nat.reduceLT, Nat.reduceLeDiff, Nat.reduceEqDiff, Int.reduceToNat, Int.reduceAdd, Int.reduceSub, Int.reduceMul, Int.reduceLT, Int.reduceLE, Int.reduceEq]
      (repeat refine And.intro (by first | omega | exact ⟨by omega, by omega⟩ | kernel_rfl | rfl | assumption | (intro h; exact ⟨h, by omega, by omega⟩) | (intro h; exact ⟨h, by omega⟩)) ?_)
      have hb : (decide (100 < ((nthT (nthS ss i) j).1.length : Int)) || decide (100 < ((nthT (nthS ss i) j).2.length : Int))) = !tokL (nthT (nthS ss i) j) := by
        unfold tokL
        by_cases k1 : (nthT (nthS ss i) j).1.length ≤ 100 <;> by_cases k2 : (nthT (nthS ss i) j).2.length ≤ 100 <;> simp [k1, k2] <;> omega
      rw [hb]
      cases hg : tokL (nthT (nthS ss i) j) with
      | false =>
        have hb : (nthS ss i).all tokL = false := tokR.all_f (p := tokL) hj hg
        simp (disch := (first | assumption | omega | (simp only [List.length_take, List.length_drop, List.length_append, List.length_set, List.length_replicate, List.length_cons, List.length_nil, len_nats, len_ints, len_strs] <;> omega))) only [go_sem, Nat.reduceBEq, Nat.reduceSub, Nat.reduceAdd, Nat.reduceMul, Nat.reduceLT, Nat.reduceLeDiff, Nat.reduceEqDiff, Int.reduceToNat, Int.reduceAdd, Int.reduceSub, Int.reduceMul, Int.reduceLT, Int.reduceLE, Int.reduceEq]
        unfold longB
        rw [sentR.all_f (p := fun s => s.all tokL) hi hb, Bool.and_false]; rfl
      | true =>
        simp (disch := (first | assumption | omega | (simp only [List.length_take, List.length_drop, List.length_append, List.length_set, List.length_replicate, List.length_cons, List.length_nil, len_nats, len_ints, len_strs] <;> omega))) only [go_sem, Nat.reduceBEq, Nat.reduceSub, Nat.reduceAdd, Nat.reduceMul, Nat.reduceLT, Nat.reduceLeDiff, Nat.reduceEqDiff, Int.reduceToNat, Int.reduceAdd, Int.reduceSub, Int.reduceMul, Int.reduceLT, Int.reduceLE, Int.reduceEq]
        refine loopK_norm (j + 1) ⟨by omega, fun k hk => ?_⟩ (by omega) (Sub.of0 [] rfl rfl ?_ ?_)
        · by_cases hkj : k < j
          · exact h6 k hkj
          · obtain rfl : k = j := by omega
            exact hg
        · simp only [go_sem, Nat.reduceBEq, Nat.reduceSub, Nat.reduceAdd, Nat.reduceMul, Nat.reduceLT, Nat.reduceLeDiff, Nat.reduceEqDiff, Int.reduceToNat, Int.reduceAdd, Int.reduceSub, Int.reduceMul, Int.reduceLT, Int.reduceLE, Int.reduceEq]
          simp
        · simp only [go_sem, Nat.reduceBEq, Nat.reduceSub, Nat.reduceAdd, Nat.reduceMul, Nat.reduceLT, Nat.reduceLeDiff, Nat.reduceEqDiff, Int.reduceToNat, Int.reduceAdd, Int.reduceSub, Int.reduceMul, Int.reduceLT, Int.reduceLE, Int.reduceEq]
    · have hj : j = (nthS ss i).length := by omega
      subst hj
      simp only [go_sem, Nat.reduceBEq, Nat.reduceSub, Nat.reduceAdd, Nat.reduceMul, Nat.reduceLT, Nat.reduceLeDiff, Nat.reduceEqDiff, Int.reduceToNat, Int.reduceAdd, Int.reduceSub, Int.reduceMul, Int.reduceLT, Int.reduceLE, Int.reduceEq]
      refine AXa.go mixed (noΓ_ok) (noΔ_ok) (by kernel_rfl) ?_
      simp (disch := (first | assumption | omega | (simp only [List.length_take, List.length_drop, List.length_append, List.length_set, List.length_replicate, List.length_cons, List.length_nil, len_nats, len_ints, len_strs] <;> omega))) only [go_sem, Nat.reduceBEq, Nat.reduceSub, Nat.reduceAdd, Nat.reduceMul, Nat.reduceLT, Nat.reduceLeDiff, Nat.reduceEqDiff, Int.reduceToNat, Int.reduceAdd, Int.reduceSub, Int.reduceMul, Int.reduceLT, Int.reduceLE, Int.reduceEq]
      refine loopK_norm (i + 1) ⟨by omega, h4', fun k hk => ?_⟩ (by omega) (Sub.of0 [] rfl rfl ?_ ?_)
      · by_cases hki : k < i
        · exact h2' k hki
        · obtain rfl : k = i := by omega
          exact tokR.all_t (p := tokL) fun m hm => h6 m hm
      · simp only [go_sem, Nat.reduceBEq, Nat.reduceSub, Nat.reduceAdd, Nat.reduceMul, Nat.reduceLT, Nat.reduceLeDiff, Nat.reduceEqDiff, Int.reduceToNat, Int.reduceAdd, Int.reduceSub, Int.reduceMul, Int.reduceLT, Int.reduceLE, Int.reduceEq]
        simp
      · simp only [go_sem, Nat.reduceBEq, Nat.reduceSub, Nat.reduceAdd, Nat.reduceMul, Nat.reduceLT, Nat.reduceLeDiff, Nat.reduceEqDiff, Int.reduceToNat, Int.reduceAdd, Int.reduceSub, Int.reduceMul, Int.reduceLT, Int.reduceLE, Int.reduceEq]
  · have hi : i = ss.length := by omega
    subst hi
    simp only [go_sem, Nat.reduceBEq, Nat.reduceSub, Nat.reduceAdd, Nat.reduceMul, Nat.reduceLT, Nat.reduceLeDiff, Nat.reduceEqDiff, Int.reduceToNat, Int.reduceAdd, Int.reduceSub, Int.reduceMul, Int.reduceLT, Int.reduceLE, Int.reduceEq]
    refine AXa.go mixed (noΓ_ok) (noΔ_ok) (by kernel_rfl) ?_
    simp (disch := (first | assumption | omega | (simp only [List.length_take, List.length_drop, List.length_append, List.length_set, List.length_replicate, List.length_cons, List.length_nil, len_nats, len_ints, len_strs] <;> omega))) only [go_sem, Nat.reduceBEq, Nat.reduceSub, Nat.reduceAdd, Nat.reduceMul, Nat.reduceLT, Nat.reduceLeDiff, Nat.reduceEqDiff, Int.reduceToNat, Int.reduceAdd, Int.reduceSub, Int.reduceMul, Int.reduceLT, Int.reduceLE, Int.reduceEq]
    unfold longB
    rw [List.take_length] at h2
    rw [decide_eq_true h0', decide_eq_true h2, sentR.all_t (p := fun s => s.all tokL) fun m hm => h2' m hm]; rfl
noncomputable def cLong : List V → Option PR := conOf (fun ss : List (List Tok) => [.fs (sents ss) ss.length]) fits fun ss => .ret (.bool (longB ss))
theorem cLong_eq (ss : List (List Tok)) (h : fits ss) : cLong [.fs (sents ss) ss.length] = some (.ret (.bool (longB ss))) := conOf_eq (pat := fun ss : List (List Tok) => [.fs (sents ss) ss.length]) (fun x y h => by simp only [List.cons.injEq, V.fs.injEq, and_true] at h; exact sents_inj h.1) ss h
theorem cLong_ok : ∀ args r, cLong args = some r → PCall Tryz.prog 6 args r := conOf_ok long_ok
attribute [go_sem] cLong_eq
theorem resC_len (ss : List (List Tok)) : (resC ss).1.length ≤ 1000000 ∧ (resC ss).2.1.length ≤ 1000000 := by
  unfold resC
  split
  · split
    · rename_i h
      have q1 := (srt_perm (fold_upd_dif (nextA ss))).length_eq
      have q2 := (srt_perm (fold_upd_dif (emA ss))).length_eq
      exact ⟨by show (srt _).length ≤ _; omega, by show (srt _).length ≤ _; omega⟩
    · exact ⟨by simp, by simp⟩
  · exact ⟨by simp, by simp⟩
set_option maxHeartbeats 4000000 in
set_option maxRecDepth 100000 in
theorem counts_ok (ss : List (List Tok)) (hf : fits ss) : PCall Tryz.prog 3 [.fs (sents ss) ss.length] (.ret (.bool true)) := by
  refine PCall.walk (rs := [.tmp 2]) [0, 2, 3, 4, 5, 6, 8] [] mixed (extΓ_ok cLong_ok (extΓ_ok cAwake_ok (extΓ_ok cCount_ok (extΓ_ok cRCount_ok (extΓ_ok cSameC_ok noΓ_ok))))) (noΔ_ok) call3 Tryz.func3 rfl Tryz.ntmps3 rfl (by kernel_rfl) (by simp) (by simp [pure_bool, pure_int, pure_str, pure_fs, pure_fp, pure_fn, pure_agg, pure_tup, pure_nilS, pure_nilP, pure_natsP, pure_intsP, pure_strsP, pure_list, pure_cntsP, pure_sentsP]) ?_
  simp (disch := (first | assumption | omega | (simp only [List.length_take, List.length_drop, List.length_append, List.length_set, List.length_replicate, List.length_cons, List.length_nil, len_nats, len_ints, len_strs] <;> omega))) only [go_sem, Nat.reduceBEq, Nat.reduceSub, Nat.reduceAdd, Nat.reduceMul, Nat.reduceLT, Nat.reduceLeDiff, Nat.reduceEqDiff, Int.reduceToNat, Int.reduceAdd, Int.reduceSub, Int.reduceMul, Int.reduceLT, Int.reduceLE, Int.reduceEq]
  cases hb : longB ss with
  | true => simp (disch := (first | assumption | omega | (simp only [List.length_take, List.length_drop, List.length_append, List.length_set, List.length_replicate, List.length_cons, List.length_nil, len_nats, len_ints, len_strs] <;> omega))) only [go_sem, Nat.reduceBEq, Nat.reduceSub, Nat.reduceAdd, Nat.reduceMul, Nat.reduceLT, Nat.reduceLeDiff, Nat.reduceEqDiff, Int.reduceToNat, Int.reduceAdd, Int.reduceSub, Int.reduceMul, Int.reduceLT, Int.reduceLE, Int.reduceEq]
  | false =>
    obtain ⟨n1, n2⟩ := resC_len ss
    generalize hR : resC ss = R at n1 n2
    simp (disch := (first | assumption | omega | (simp only [List.length_take, List.length_drop, List.length_append, List.length_set, List.length_replicate, List.length_cons, List.length_nil, len_nats, len_ints, len_strs] <;> omega))) only [go_sem, hR, cntV, Nat.reduceBEq, Nat.reduceSub, Nat.reduceAdd, Nat.reduceMul, Nat.reduceLT, Nat.reduceLeDiff, Nat.reduceEqDiff, Int.reduceToNat, Int.reduceAdd, Int.reduceSub, Int.reduceMul, Int.reduceLT, Int.reduceLE, Int.reduceEq]
end Go.Proofs

/- A function's code cut at a place of our choice, and a region in two: there the state may be told with less, or memory frozen. -/
namespace Go.Ab
variable {C : Cfg} {P : Program} {K : Out → St → Prop} {st : List Fr} {env : Env} {h : Hp}
def takeC : Nat → Code → Option (Code × Code)
  | 0, _ => none
  | n + 1, .seq x y => match n with
    | 0 => some (x, y)
    | n + 1 => match takeC (n + 1) y with
      | some (p, q) => if isLoop x = true then none else some (.seq x p, q)
      | none => none
  | _ + 1, _ => none
theorem takeC_ok (hm : P.follows .mixedOrders = true) (hΓ : GoodC P C) : ∀ (n : Nat) (c p q : Code) (s : St) (K1 K : Out → St → Prop), takeC n c = some (p, q) → codeOK C.nt c = true → AXf C P p s K1 → (∀ o s, K1 o s → OThen (fun s => AX C P q s K) K o s) → AX C P c s K
  | 0, _, _, _, _, _, _, h, _, _, _ => by cases h
  | n + 1, c, p, q, s, K1, K, h, hc, hx, hk1 => by
    cases c <;> try (cases h; done)
    rename_i x y
    simp only [codeOK, Bool.and_eq_true] at hc
    cases n with
    | zero =>
      cases h
      exact AX.seq ((AXf_ok hm hΓ _ s _ hc.1 hx).mono hk1)
    | succ n =>
      simp only [takeC] at h
      split at h
      · rename_i p' q' e
        split at h
        · cases h
        · rename_i hl
          cases h
          unfold AXf at hx
          refine AX.seq ((AXf_ok hm hΓ x s _ hc.1 hx).mono fun o s' hk => ?_)
          cases o with
          | norm =>
            have hk' : if isLoop x = true then AX C P p' s' K1 else AXf C P p' s' K1 := hk
            rw [if_neg hl] at hk'
            exact takeC_ok hm hΓ (n + 1) y p' q s' K1 K e hc.2 hk' hk1
          | exit i => exact hk1 _ _ hk
          | ret => exact hk1 _ _ hk
          | panic v => exact hk1 _ _ hk
      · cases h
theorem AXa.cut {y : Code} (n : Nat) {p q : Code} (hn : takeC n y = some (p, q)) (hm : P.follows .mixedOrders = true) (hΓ : GoodΓ P C.Γ) (hΔ : GoodΔ P C.Δ) (hok : codeOK C.nt y = true) (hx : AXs C P K (.sem q :: st) p env h) : AXa C P K st y env h :=
  takeC_ok hm ⟨hΓ, hΔ⟩ n y p q ⟨env, h⟩ _ _ hn hok hx fun _ _ k => k
theorem ARun_seg {base : Nat} {D : Nat → Prop} {g0 : G} {H0 : Hp} {w0 : World} {ops : Array Oper} {K : Out → St → Prop} (he : Entry C base D g0 H0 w0) (hΓ : GoodC P C) (hd : ∀ o ∈ ops.toList, ∀ d, o.dst = some d → d < C.nt)
    (Q : Exit → Act → World → Prop) (js : List Nat) (rest : List Oper) (hN : ∀ s g a w, Rel C base D g0 H0 w0 g s a w → K .norm s → wpOps P ops Q js a w)
    (hQ : ∀ e a w, Aft C base D g0 H0 w0 (fun o s => match o with | .norm => False | o => K o s) e a w → Q e a w) :
    ∀ (os : List Oper) (i : Nat), ops.toList.drop i = os ++ rest → ∀ (s : St) (g : G) (a : Act) (w : World), Rel C base D g0 H0 w0 g s a w → ARun C P ops os s K → wpOps P ops Q (List.range' i os.length ++ js) a w
  | [], i, _, s, g, a, w, r, h => by simpa using hN s g a w r h
  | o :: os, i, hi, s, g, a, w, r, h => by
    have ho : ops[i]? = some o := by
      have : (ops.toList.drop i)[0]? = some o := by rw [hi]; rfl
      rw [List.getElem?_drop] at this
      rw [← Array.getElem?_toList]; simpa using this
    have hos : ops.toList.drop (i + 1) = os ++ rest := by rw [← List.drop_drop, hi]; rfl
    have hmem : o ∈ ops.toList := List.mem_of_getElem? (by rw [Array.getElem?_toList]; exact ho)
    have hdo := hd o hmem
    have hO := r.env.ops ops o
    have sem := step1_sem hΓ ops o s.env s.h
    rw [List.length_cons, List.range'_succ, List.cons_append]
    simp only [wpOps, ho]
    have dput : ∀ (b : Act) (vc : Value), b.defers = [] → (b.put o.dst vc).defers = [] := fun b vc e => by cases o.dst <;> exact e
    have go : ∀ (st : Bool) (v : V) (h' : Hp) (f : Foot), ARun C P ops os ((s.put o.dst v).hp h') K → wok C f.W = true → StepSem P C.nt ops o s.env s.h st v h' f → o.wp P a w (wpOps P ops Q (List.range' (i + 1) os.length ++ js)) Q := by
      intro st v h' f hk hw hst
      refine hst.exec g base _ w a _ Q r.post.inv hO (fun b _ => he.inD b) fun g' w' vc hv hp => ?_
      exact ARun_seg he hΓ hd Q js rest hN hQ os (i + 1) hos ((s.put o.dst v).hp h') g' _ w' ⟨(r.env.mono hp.le).put hdo hv, dput _ _ r.defers, r.step he hp hw⟩ hk
    have pan : ∀ (v : V) (R : List Nat), K (.panic v) s → PanSem P C.nt ops o s.env s.h v R → o.wp P a w (wpOps P ops Q (List.range' (i + 1) os.length ++ js)) Q := by
      intro v R hk hst
      refine hst g base _ w a _ Q r.post.inv hO (fun b _ => he.inD b) fun g' w' vc hv hp => ?_
      exact hQ _ _ _ ⟨.panic v, s, g', hk, ⟨vc, hv, rfl⟩, r.env.mono hp.le, r.defers, r.step he hp rfl⟩
    have skip : ∀ v, VRel g v undef → ARun C P ops os ((s.put o.dst v).hp s.h) K → wpOps P ops Q (List.range' (i + 1) os.length ++ js) (a.put o.dst undef) w := fun v hv hk =>
      ARun_seg he hΓ hd Q js rest hN hQ os (i + 1) hos ((s.put o.dst v).hp s.h) g _ w ⟨r.env.put hdo hv, dput _ _ r.defers, r.post⟩ hk
    unfold ARun at h
    split at h
    · rename_i hg
      have hw : Region.wanted o (yielded ops a.tmps) = true := by unfold Region.wanted; rw [hg]
      rw [if_pos hw]
      rcases fol_ok sem h with ⟨st, v, h', f, hk, hwk, hst⟩ | ⟨v, R, hk, hst⟩
      · exact .inl (go st v h' f hk hwk hst)
      · exact .inl (pan v R hk hst)
    · split at h
      rotate_left; · exact h.elim
      rename_i gb hg
      have hw := want_of hO.rel hg
      rcases folG_ok sem h with ⟨rfl, st, v, h', f, hk, hwk, hst⟩ | ⟨rfl, v, R, hk, hst⟩ | ⟨rfl, hk⟩ | ⟨v, R, hk, hst⟩
      · rw [if_pos hw]; exact .inl (go st v h' f hk hwk hst)
      · rw [if_pos hw]; exact .inl (pan v R hk hst)
      · rw [if_neg (by rw [hw]; simp)]
        exact skip _ (VRel.mk_tup rfl PW.nil) hk
      · cases gb with
        | true =>
          rw [if_pos hw]
          refine .inl ?_
          refine (hst rfl).exec g base _ w a _ Q r.post.inv hO (fun b _ => he.inD b) fun g' w' vc hv hp => ?_
          exact ARun_seg he hΓ hd Q js rest hN hQ os (i + 1) hos ((s.put o.dst (.opt true v)).hp s.h) g' _ w' ⟨(r.env.mono hp.le).put hdo (opt_rel rfl hv), dput _ _ r.defers, r.step he hp rfl⟩ hk
        | false =>
          rw [if_neg (by rw [hw]; simp)]
          exact skip _ (opt_undef rfl) hk
def KSplit (C : Cfg) (P : Program) (K : Out → St → Prop) (st : List Fr) (y : Code) (os : List Oper) (k : Nat) : Out → St → Prop
  | .norm, s => ∃ s', (Sub C s s' ∨ (C.Wm = [] ∧ ∃ F, Fz C.nx F s s')) ∧ AXr C P K (.sem y :: st) ⟨os⟩ (os.drop k) s'.env s'.h
  | .exit i, s => unst C P K st (.exit i) s
  | .ret, s => unst C P K st .ret s
  | .panic v, s => unst C P K st (.panic v) s
theorem AXa.split (k : Nat) {id : Nat} {os : List Oper} {y : Code} (hm : P.follows .mixedOrders = true) (hΓ : GoodΓ P C.Γ) (hΔ : GoodΔ P C.Δ) (hok : codeOK C.nt (.seq (.region id ⟨os⟩ false) y) = true) (hx : AXr C P (KSplit C P K st y os k) [] ⟨os⟩ (os.take k) env h) :
    AXa C P K st (.seq (.region id ⟨os⟩ false) y) env h := by
  simp only [codeOK, Bool.and_eq_true] at hok
  refine AX.seq fun base D g0 H0 w0 g a w he r => wp_region ?_
  have hy : ∀ o s, unst C P K (.sem y :: st) o s → OThen (fun s => AX C P y s (unst C P K st)) (unst C P K st) o s := fun o s hk => by
    cases o with
    | norm => exact hk
    | exit i => exact hk
    | ret => exact hk
    | panic v => exact hk
  have hq : ∀ e a w, Aft C base D g0 H0 w0 (OTrim C.keep (unst C P K (.sem y :: st))) e a w → Aft C base D g0 H0 w0 (OThen (fun s => AX C P y s (unst C P K st)) (unst C P K st)) e a w := fun e a w ⟨o, s, g, h1, h2, h3⟩ => by
    cases o with
    | norm => exact ⟨.norm, s.trim C.keep, g, hy .norm _ h1, h2, h3.env.trim C.keep, h3.defers, h3.post⟩
    | exit i => exact ⟨_, s, g, hy (.exit i) _ h1, h2, h3⟩
    | ret => exact ⟨_, s, g, hy .ret _ h1, h2, h3⟩
    | panic v => exact ⟨_, s, g, hy (.panic v) _ h1, h2, h3⟩
  have hd := opsOK_dst hok.1.1
  have hlen : (⟨os⟩ : Array Oper).size = os.length := rfl
  rw [List.range_eq_range', hlen]
  by_cases hk : k ≤ os.length
  · have hr : List.range' 0 os.length = List.range' 0 (os.take k).length ++ List.range' k (os.drop k).length := by
      rw [List.length_take, List.length_drop, Nat.min_eq_left hk]
      have := @List.range'_append_1 0 k (os.length - k)
      rw [Nat.zero_add] at this
      rw [this]; congr 1; omega
    rw [hr]
    refine ARun_seg (K := OTrim C.keep (KSplit C P K st y os k)) he ⟨hΓ, hΔ⟩ hd _ _ (os.drop k) (fun s g a w r hk2 => ?_) (fun e a w ⟨o, s, g, h1, h2, h3⟩ => ?_) (os.take k) 0 (by simp) ⟨env, h⟩ g a w r hx
    · obtain ⟨s', hs, hx'⟩ := hk2
      have r1 : Rel C base D g0 H0 w0 g (s.trim C.keep) a w := ⟨r.env.trim C.keep, r.defers, r.post⟩
      have hR : ∃ g', Rel C base D g0 H0 w0 g' s' a w := by
        rcases hs with hs | ⟨hW, F, hs⟩
        · exact r1.sub he hs
        · exact r1.freeze he hW hs
      obtain ⟨g', r'⟩ := hR
      exact ARun_ok he ⟨hΓ, hΔ⟩ hd _ hq (os.drop k) k rfl s' g' a w r' hx'
    · cases o with
      | norm => exact h1.elim
      | exit i => exact ⟨.exit i, s, g, h1, h2, h3⟩
      | ret => exact ⟨.ret, s, g, h1, h2, h3⟩
      | panic v => exact ⟨.panic v, s, g, h1, h2, h3⟩
  · have ht : os.take k = os := List.take_of_length_le (by omega)
    have hdk : os.drop k = [] := List.drop_eq_nil_of_le (by omega)
    rw [ht] at hx
    have hr : List.range' 0 os.length = List.range' 0 os.length ++ [] := by simp
    rw [hr]
    refine ARun_seg (K := OTrim C.keep (KSplit C P K st y os k)) he ⟨hΓ, hΔ⟩ hd _ _ [] (fun s g a w r hk2 => ?_) (fun e a w ⟨o, s, g, h1, h2, h3⟩ => ?_) os 0 (by simp) ⟨env, h⟩ g a w r hx
    · obtain ⟨s', hs, hx'⟩ := hk2
      have r1 : Rel C base D g0 H0 w0 g (s.trim C.keep) a w := ⟨r.env.trim C.keep, r.defers, r.post⟩
      have hR : ∃ g', Rel C base D g0 H0 w0 g' s' a w := by
        rcases hs with hs | ⟨hW, F, hs⟩
        · exact r1.sub he hs
        · exact r1.freeze he hW hs
      obtain ⟨g', r'⟩ := hR
      rw [hdk] at hx'
      exact ARun_ok (ops := ⟨os⟩) he ⟨hΓ, hΔ⟩ hd _ hq [] os.length (by simp) s' g' a w r' hx'
    · cases o with
      | norm => exact h1.elim
      | exit i => exact ⟨.exit i, s, g, h1, h2, h3⟩
      | ret => exact ⟨.ret, s, g, h1, h2, h3⟩
      | panic v => exact ⟨.panic v, s, g, h1, h2, h3⟩
theorem ksplit_fz {y : Code} {os : List Oper} {k : Nat} {env' : Env} {bs bs' : List (Nat × Blk)} {n n' : Nat} (fl : List Nat) (hW : C.Wm = []) (h0 : C.nx = 0) (hl : (fl.all fun b => (lookB bs b).isSome) = true)
    (he : fzE (· ∈ fl) n' ⟨bs, n⟩ env env') (hh : fzH (· ∈ fl) n' bs bs') (hx : AXr C P K (.sem y :: st) ⟨os⟩ (os.drop k) env' ⟨bs', n'⟩) : KSplit C P K st y os k .norm ⟨env, ⟨bs, n⟩⟩ := by
  refine ⟨⟨env', ⟨bs', n'⟩⟩, .inr ⟨hW, (· ∈ fl), fzE_ok he, fun b x' e => ?_, fun b hb => ⟨by omega, ?_⟩, fun b hb => by omega, by rw [h0]; exact Nat.zero_le _⟩, hx⟩
  · obtain ⟨h1, h2, x, h3, h4⟩ := fzH_ok hh b x' e
    exact ⟨h1, h2, x, by rw [get_mk]; exact h3, h4⟩
  · have := List.all_eq_true.1 hl b hb
    rw [Option.isSome_iff_exists] at this
    rw [get_mk]; exact this
def KTo (C : Cfg) (P : Program) (K : Out → St → Prop) (st : List Fr) (env' : Env) (h' : Hp) : Out → St → Prop
  | .norm, s => Sub C s ⟨env', h'⟩ ∨ (C.Wm = [] ∧ ∃ F, Fz C.nx F s ⟨env', h'⟩)
  | .exit i, s => unst C P K st (.exit i) s
  | .ret, s => unst C P K st .ret s
  | .panic v, s => unst C P K st (.panic v) s
theorem AXr.mono {K K' : Out → St → Prop} {ops : Array Oper} : ∀ {os : List Oper} {env : Env} {h : Hp}, (∀ o s, K o s → K' o s) → AXr C P K [] ops os env h → AXr C P K' [] ops os env h := by
  have key : ∀ (os : List Oper) (s : St) (K K' : Out → St → Prop), (∀ o s, K o s → K' o s) → ARun C P ops os s K → ARun C P ops os s K' := by
    intro os
    induction os with
    | nil => intro s K K' hk h; exact hk _ _ h
    | cons o os ih =>
      intro s K K' hk h
      unfold ARun at h ⊢
      split at h
      · unfold fol at h ⊢
        split at h
        · exact ⟨h.1, h.2.1, ih _ _ _ hk h.2.2⟩
        · exact ⟨h.1, hk _ _ h.2⟩
        · exact h
      · split at h
        · unfold folG at h ⊢
          split at h
          · exact ⟨h.1, ih _ _ _ hk h.2⟩
          · split at h
            · rename_i hb; rw [if_pos hb]; exact ⟨h.1, h.2.1, ih _ _ _ hk h.2.2⟩
            · rename_i hb; rw [if_neg hb]; exact ih _ _ _ hk h
          · split at h
            · rename_i hb; rw [if_pos hb]; exact ⟨h.1, hk _ _ h.2⟩
            · rename_i hb; rw [if_neg hb]; exact ih _ _ _ hk h
          · exact ⟨h.1, ih _ _ _ hk h.2⟩
        · exact h
  intro os env h hk hx
  refine key os ⟨env, h⟩ _ _ (fun o s k => ?_) hx
  cases o with
  | norm => exact hk _ _ k
  | exit i => exact hk _ _ k
  | ret => exact hk _ _ k
  | panic v => exact hk _ _ k
theorem AXa.splitTo (k : Nat) (env' : Env) (h' : Hp) {id : Nat} {os : List Oper} {y : Code} (hm : P.follows .mixedOrders = true) (hΓ : GoodΓ P C.Γ) (hΔ : GoodΔ P C.Δ) (hok : codeOK C.nt (.seq (.region id ⟨os⟩ false) y) = true)
    (hx : AXr C P (KTo C P K st env' h') [] ⟨os⟩ (os.take k) env h) (hc : AXr C P K (.sem y :: st) ⟨os⟩ (os.drop k) env' h') : AXa C P K st (.seq (.region id ⟨os⟩ false) y) env h :=
  AXa.split k hm hΓ hΔ hok (AXr.mono (fun o s hk => by
    cases o with
    | norm => exact ⟨_, hk, hc⟩
    | exit i => exact hk
    | ret => exact hk
    | panic v => exact hk) hx)
theorem kto_fz {env' : Env} {bs bs' : List (Nat × Blk)} {n n' : Nat} (fl : List Nat) (hW : C.Wm = []) (h0 : C.nx = 0) (hl : (fl.all fun b => (lookB bs b).isSome) = true)
    (he : fzE (· ∈ fl) n' ⟨bs, n⟩ env env') (hh : fzH (· ∈ fl) n' bs bs') : KTo C P K st env' ⟨bs', n'⟩ .norm ⟨env, ⟨bs, n⟩⟩ := by
  refine .inr ⟨hW, (· ∈ fl), fzE_ok he, fun b x' e => ?_, fun b hb => ⟨by omega, ?_⟩, fun b hb => by omega, by rw [h0]; exact Nat.zero_le _⟩
  · obtain ⟨h1, h2, x, h3, h4⟩ := fzH_ok hh b x' e
    exact ⟨h1, h2, x, by rw [get_mk]; exact h3, h4⟩
  · have := List.all_eq_true.1 hl b hb
    rw [Option.isSome_iff_exists] at this
    rw [get_mk]; exact this
theorem AXa.cutTo (n : Nat) (env' : Env) (h' : Hp) {y p q : Code} (hn : takeC n y = some (p, q)) (hm : P.follows .mixedOrders = true) (hΓ : GoodΓ P C.Γ) (hΔ : GoodΔ P C.Δ) (hok : codeOK C.nt y = true) (hx : AXs C P (KTo C P K st env' h') [] p env h)
    (hc : AXa C P K st q env' h') : AXa C P K st y env h :=
  takeC_ok hm ⟨hΓ, hΔ⟩ n y p q ⟨env, h⟩ _ _ hn hok hx fun o s k => by
    cases o with
    | norm =>
      rcases k with k | ⟨hW, F, k⟩
      · exact AX.sub k hc
      · exact AX.freeze hW k hc
    | exit i => exact k
    | ret => exact k
    | panic v => exact k
theorem kto_ret (st : List Fr) (env' : Env) (h' : Hp) (s : St) : KTo C P K st env' h' .ret s = unst C P K st .ret s := rfl
def skV : SR → V
  | .ok true _ v _ _ => .opt false v
  | _ => undefV
theorem axg1_any {ops : Array Oper} {os : List Oper} (d : Tmp) (r : SR) : AXg1 C P K st ops os (some d) (some false) r env h = AXr C P K st ops os ((d, skV r) :: env) h := by
  apply propext
  cases r with
  | ok st' pre v h' f =>
    cases st' with
    | true => exact ⟨fun k => k.2, fun k => ⟨fun e => (by cases e), k⟩⟩
    | false => exact Iff.rfl
  | pan pre v R => exact Iff.rfl
  | bad => exact ⟨fun k => k.2, fun k => ⟨rfl, k⟩⟩
theorem pick_fany (a : V) (y : Bool) (H : Hp) : pick1 (.opt true (.bool false)) a (.bool y) H = .ok true True (.bool y) H ⟨[], [], 0, 0⟩ := by
  unfold pick1
  cases ha : a.val <;> simp [V.val, V.cond]
attribute [go_sem] List.take_succ_cons List.drop_succ_cons
theorem PCall.walkA {nt : Nat} (keep : List Nat) (fz : List Nat) {Γ : FuncId → List V → Option PR} {Δ : FuncId → List V → Hp → Option AR} {f : FuncId} {fn : Func} {c : Code} {args : List V} {r : PR} {rs : List ResultVar}
    (hm : P.follows .mixedOrders = true) (hΓ : GoodΓ P Γ) (hΔ : GoodΔ P Δ) (hc : Callable P f) (hf : P.funcs[f]? = some fn) (hb : fn.body = some c) (hnt : fn.ntmps = nt) (hrs : fn.results.toList = rs) (hok : codeOK nt c = true) (hle : args.length ≤ nt)
    (hpure : ∀ x ∈ args, Pure x) (h : AXa ⟨nt, keepL keep, Γ, Δ, 0, [], keepL fz⟩ P (EndR P rs r) [] c (argEnv 0 args) ⟨[], 0⟩) : PCall P f args r := by
  refine PCall.of (C := ⟨nt, keepL keep, Γ, Δ, 0, [], keepL fz⟩) hc hf hb hnt hle hpure rfl rfl ?_
  refine AX.mono h fun o s hk => ?_
  subst hrs
  cases o with
  | norm => exact hk
  | ret => exact hk
  | exit i => exact hk.elim
  | panic v => exact hk
end Go.Ab

/- Sums of counts; what is counted in sentences put together. No program in sight. -/
namespace Go.Cnt
def wsum (p : Key → Bool) : List Ent → Int
  | [] => 0
  | e :: l => (if p e.1 = true then e.2 else 0) + wsum p l
theorem wsum_app (p : Key → Bool) (l r : List Ent) : wsum p (l ++ r) = wsum p l + wsum p r := by
  induction l with
  | nil => simp [wsum]
  | cons e l ih => simp only [List.cons_append, wsum, ih]; omega
theorem wsum_perm (p : Key → Bool) {l r : List Ent} (h : l.Perm r) : wsum p l = wsum p r := by
  induction h with
  | nil => rfl
  | cons e _ ih => simp only [wsum, ih]
  | swap a b l => simp only [wsum]; omega
  | trans _ _ ih1 ih2 => exact ih1.trans ih2
theorem wsum_upd (p : Key → Bool) (l : List Ent) (x : Ent) : wsum p (upd l x) = wsum p l + (if p x.1 = true then x.2 else 0) := by
  induction l with
  | nil => simp [upd, wsum]
  | cons e l ih =>
    rw [upd]
    by_cases h : e.1 = x.1
    · rw [if_pos h]
      simp only [wsum, ← h]
      split <;> omega
    · rw [if_neg h, wsum, wsum, ih]; omega
theorem wsum_fold (p : Key → Bool) : ∀ (xs l : List Ent), wsum p (xs.foldl upd l) = wsum p l + wsum p xs
  | [], l => by simp [wsum]
  | x :: xs, l => by rw [List.foldl_cons, wsum_fold p xs, wsum_upd, wsum]; omega
theorem wsum_ins (p : Key → Bool) (xs : List Ent) : wsum p (xs.foldl ins []) = wsum p xs := by
  have := fold_perm xs (l := []) (m := []) .nil .nil (.refl _)
  rw [wsum_perm p this.1, wsum_fold]
  simp [wsum]
def cntT (a : Str) : List Tok → Int
  | [] => 0
  | t :: s => (if t.2 = a then 1 else 0) + cntT a s
def isA (a : Str) (k : Key) : Bool := decide (k.1 = a)
def isB (a : Str) (k : Key) : Bool := decide (k.2 = a)
theorem wsumA_ev (a : Str) : ∀ (s : List Tok) (p : Str), wsum (isA a) (evN p s ++ [((lastT p s, []), 1)]) = (if p = a then 1 else 0) + cntT a s
  | [], p => by simp [evN, lastT, wsum, isA, cntT]
  | t :: s, p => by
    have := wsumA_ev a s t.2
    rw [evN, lastT, List.cons_append, wsum, this, cntT]
    simp [isA]
theorem wsumB_ev (a : Str) (ha : a ≠ []) : ∀ (s : List Tok) (p : Str), wsum (isB a) (evN p s ++ [((lastT p s, []), 1)]) = cntT a s
  | [], p => by simp [evN, lastT, wsum, isB, cntT]; exact ha
  | t :: s, p => by
    have := wsumB_ev a ha s t.2
    rw [evN, lastT, List.cons_append, wsum, this, cntT]
    simp [isB]
theorem wsumA_em (a : Str) : ∀ (s : List Tok), wsum (isA a) (emS s) = cntT a s
  | [] => rfl
  | t :: s => by
    have := wsumA_em a s
    unfold emS at this ⊢
    rw [List.map_cons, wsum, this, cntT]
    simp [isA]
theorem wsum_flat (p : Key → Bool) (f g : List Tok → List Ent) (h : ∀ s, wsum p (f s) = wsum p (g s)) : ∀ ss : List (List Tok), wsum p (ss.flatMap f) = wsum p (ss.flatMap g)
  | [] => rfl
  | s :: ss => by rw [List.flatMap_cons, List.flatMap_cons, wsum_app, wsum_app, h, wsum_flat p f g h ss]
theorem sumA (a : Str) (ha : a ≠ []) : ∀ ss : List (List Tok), wsum (isA a) (nextA ss) = wsum (isA a) (emA ss)
  | [] => rfl
  | s :: ss => by
    unfold nextA emA
    rw [List.flatMap_cons, List.flatMap_cons, wsum_app, wsum_app]
    have h1 := sumA a ha ss
    unfold nextA emA at h1
    rw [h1, nextS, wsumA_ev, wsumA_em, if_neg (fun h => ha h.symm)]; omega
theorem sumB (a : Str) (ha : a ≠ []) : ∀ ss : List (List Tok), wsum (isB a) (nextA ss) = wsum (isA a) (emA ss)
  | [] => rfl
  | s :: ss => by
    unfold nextA emA
    rw [List.flatMap_cons, List.flatMap_cons, wsum_app, wsum_app]
    have h1 := sumB a ha ss
    unfold nextA emA at h1
    rw [h1, nextS, wsumB_ev a ha, wsumA_em]
theorem wsum_ones : ∀ {l : List Ent}, Ones l → wsum (fun _ => true) l = l.length
  | [], _ => rfl
  | e :: l, h => by
    rw [wsum, wsum_ones fun x hx => h x (List.mem_cons_of_mem _ hx), h e (List.mem_cons_self ..), List.length_cons]
    simp; omega
theorem nextA_app (a b : List (List Tok)) : nextA (a ++ b) = nextA a ++ nextA b := by simp [nextA]
theorem emA_app (a b : List (List Tok)) : emA (a ++ b) = emA a ++ emA b := by simp [emA]
theorem wsum_mono {p : Key → Bool} {l : List Ent} (h : ∀ e ∈ l, 0 ≤ e.2 ∧ e.2 ≤ 1000000) : 0 ≤ wsum p l ∧ wsum p l ≤ 1000000 * l.length := by
  induction l with
  | nil => simp [wsum]
  | cons e l ih =>
    have h1 := h e (List.mem_cons_self ..)
    have h2 := ih fun x hx => h x (List.mem_cons_of_mem _ hx)
    rw [wsum, List.length_cons]
    split <;> omega
theorem tot_pos : ∀ {l : List Ent}, Ones l → ∀ {x : Ent}, x ∈ l → 1 ≤ tot l x.1
  | e :: l, h, x, hx => by
    have h1 := h e (List.mem_cons_self ..)
    have hl : Ones l := fun x hx => h x (List.mem_cons_of_mem _ hx)
    have h2 := hl.tot x.1
    rw [tot]
    rcases List.mem_cons.1 hx with rfl | hx
    · rw [if_pos rfl]; omega
    · have := tot_pos hl hx
      split <;> omega
end Go.Cnt
