/- Counts put together: slices.Concat. -/
import Derived.Test.YtajodjbnkeeonaaGreatDoorAbSort
import Derived.Test.YtajodjbnkeeonaaGreatDoorM2
import Derived.Test.YtajodjbnkeeonaaGreatDoorAbHeap
set_option linter.unusedSimpArgs false
set_option linter.unusedVariables false
namespace Go.Proofs
open Go.Ab Go.Cnt
theorem Tryz.info37 : infoT Tryz.prog 37 = some (3, 40, true) := by kernel_rfl
attribute [go_sem] Tryz.info37 Int.sub_zero
def zeroC (n : Nat) : List V := (List.replicate n [V.str [], V.str [], V.int .i64 0]).flatten
theorem zeroC_eq (n : Nat) : zerosE (some (.agg ([(.string ⟨([] : List UInt8).toArray⟩), (.string ⟨([] : List UInt8).toArray⟩), (.int .i64 0)] : List Value).toArray)) n = zeroC n := rfl
theorem zeroC_pure (n : Nat) : ∀ x ∈ zeroC n, Pure x := by
  intro x hx
  unfold zeroC at hx
  obtain ⟨l, hl, hx⟩ := List.mem_flatten.1 hx
  have := (List.mem_replicate.1 hl).2
  subst this
  simp at hx
  rcases hx with rfl | rfl
  · exact .str _
  · exact .int _ _
theorem grow0_ok : NCall Tryz.prog 66 [.nilS, .int .i64 0] [] [] .nilS ⟨[], 0⟩ := by
  refine NCall.walk (rs := [.tmp 4]) [0, 1, 4, 6, 16] [] 0 mixed (noΓ_ok) (noΔ_ok) call66 Tryz.func66 rfl Tryz.ntmps66 rfl (by kernel_rfl) (by simp) (by simp) (by simp) ?_
  simp only [go_sem, Nat.reduceBEq, Nat.reduceSub, Nat.reduceAdd, Nat.reduceMul, Nat.reduceLT, Nat.reduceLeDiff, Nat.reduceEqDiff, Int.reduceToNat, Int.reduceAdd, Int.reduceSub, Int.reduceMul, Int.reduceLT, Int.reduceLE, Int.reduceEq]
  refine ⟨[(4, .nilS)], Sub.of0 [] rfl rfl ?_ ?_, rfl⟩
  · simp only [go_sem, Nat.reduceBEq, Nat.reduceSub, Nat.reduceAdd, Nat.reduceMul, Nat.reduceLT, Nat.reduceLeDiff, Nat.reduceEqDiff, Int.reduceToNat, Int.reduceAdd, Int.reduceSub, Int.reduceMul, Int.reduceLT, Int.reduceLE, Int.reduceEq]
  · simp only [go_sem, Nat.reduceBEq, Nat.reduceSub, Nat.reduceAdd, Nat.reduceMul, Nat.reduceLT, Nat.reduceLeDiff, Nat.reduceEqDiff, Int.reduceToNat, Int.reduceAdd, Int.reduceSub, Int.reduceMul, Int.reduceLT, Int.reduceLE, Int.reduceEq]
theorem grow_ok (n : Nat) (h0 : 0 < n) (h1 : n ≤ 1000000) : NCall Tryz.prog 66 [.nilS, .int .i64 n] [] [] (.sl 0 0 0 3 none) ⟨[(0, .cells (zeroC n))], 1⟩ := by
  have h0' : 0 < (n : Int) := by omega
  have h1' : (n : Int) ≤ 1000000 := by omega
  have h2' : ¬ (n : Int) < 0 := by omega
  refine NCall.walk (rs := [.tmp 4]) [0, 1, 4, 6, 16] [] 0 mixed (noΓ_ok) (noΔ_ok) call66 Tryz.func66 rfl Tryz.ntmps66 rfl (by kernel_rfl) (by simp) (by simp) (by simp) ?_
  simp (disch := (first | assumption | omega | (simp only [List.length_take, List.length_drop, List.length_append, List.length_set, List.length_replicate, List.length_cons, List.length_nil, len_nats, len_ints, len_strs] <;> omega))) only [go_sem, h0', h1', h2', decide_true, decide_false, zeroC_eq, Nat.reduceBEq, Nat.reduceSub, Nat.reduceAdd, Nat.reduceMul, Nat.reduceLT, Nat.reduceLeDiff, Nat.reduceEqDiff, Int.reduceToNat, Int.reduceAdd, Int.reduceSub, Int.reduceMul, Int.reduceLT, Int.reduceLE, Int.reduceEq]
  refine ⟨by omega, [(4, .sl 0 0 0 3 none)], Sub.of0 [] rfl rfl ?_ ?_, rfl⟩
  · simp only [go_sem, Nat.reduceBEq, Nat.reduceSub, Nat.reduceAdd, Nat.reduceMul, Nat.reduceLT, Nat.reduceLeDiff, Nat.reduceEqDiff, Int.reduceToNat, Int.reduceAdd, Int.reduceSub, Int.reduceMul, Int.reduceLT, Int.reduceLE, Int.reduceEq]
  · simp only [go_sem, Nat.reduceBEq, Nat.reduceSub, Nat.reduceAdd, Nat.reduceMul, Nat.reduceLT, Nat.reduceLeDiff, Nat.reduceEqDiff, Int.reduceToNat, Int.reduceAdd, Int.reduceSub, Int.reduceMul, Int.reduceLT, Int.reduceLE, Int.reduceEq]
    exact lrel_same (zeroC_pure n)
theorem nilInt_pure (k : IntKind) (n : Int) : ∀ x ∈ [V.nilS, V.int k n], Pure x := by
  intro x hx
  simp only [List.mem_cons, List.not_mem_nil, or_false] at hx
  rcases hx with rfl | rfl
  · exact .nilS
  · exact .int _ _
def GrowR (args : List V) (H : Hp) (r : AR) : Prop :=
  ∃ n : Nat, args = [.nilS, .int .i64 n] ∧ n ≤ 1000000 ∧ (∀ b x, H.get b = some x → b < H.next) ∧
    r = if n = 0 then ⟨True, .nilS, H, [], []⟩ else ⟨True, .sl H.next 0 0 3 none, ⟨(H.next, .cells (zeroC n)) :: H.bs, H.next + 1⟩, [], []⟩
theorem growR_ok : ∀ args H r, GrowR args H r → HCall Tryz.prog 66 args H r := by
  rintro args H r ⟨n, rfl, hn, hk, rfl⟩
  by_cases h0 : n = 0
  · subst h0
    rw [if_pos rfl]
    exact HCall.none grow0_ok .nilS [] _ H rfl .nil (lrel_same (nilInt_pure _ _)) (fun i x hx => by simp at hx) (fun i x hx => by simp at hx) hk
  · rw [if_neg h0]
    exact HCall.fresh (F := []) (grow_ok n (by omega) hn) (zeroC_pure n) [] _ H rfl .nil (lrel_same (nilInt_pure _ _)) (fun i x hx => by simp at hx) (fun i x hx => by simp at hx) hk
theorem growR_uniq {args : List V} {H : Hp} {r r' : AR} (h : GrowR args H r) (h' : GrowR args H r') : r' = r := by
  obtain ⟨n, rfl, _, _, rfl⟩ := h
  obtain ⟨m, he, _, _, rfl⟩ := h'
  simp only [List.cons.injEq, V.int.injEq, and_true, true_and] at he
  have : n = m := by omega
  subst this
  rfl
theorem growR_eq (n : Nat) (z : Int) (bs : List (Nat × Blk)) (nx : Nat) (hz : z = n) (h0 : 0 < n) (hn : n ≤ 1000000) (hk : ((keysB bs).all fun b => decide (b < nx)) = true) :
    conD GrowR [.nilS, .int .i64 z] ⟨bs, nx⟩ = some ⟨True, .sl nx 0 0 3 none, ⟨(nx, .cells (zeroC n)) :: bs, nx + 1⟩, [], []⟩ := by
  subst hz
  have h : GrowR [.nilS, .int .i64 n] ⟨bs, nx⟩ ⟨True, .sl nx 0 0 3 none, ⟨(nx, .cells (zeroC n)) :: bs, nx + 1⟩, [], []⟩ := ⟨n, rfl, hn, keysLt hk, by rw [if_neg (by omega)]⟩
  exact conD_eq h fun r' h' => growR_uniq h h'
theorem growR_eq0 (bs : List (Nat × Blk)) (nx : Nat) (hk : ((keysB bs).all fun b => decide (b < nx)) = true) : conD GrowR [.nilS, .int .i64 0] ⟨bs, nx⟩ = some ⟨True, .nilS, ⟨bs, nx⟩, [], []⟩ := by
  have h : GrowR [.nilS, .int .i64 0] ⟨bs, nx⟩ ⟨True, .nilS, ⟨bs, nx⟩, [], []⟩ := ⟨0, rfl, by omega, keysLt hk, by rw [if_pos rfl]⟩
  exact conD_eq h fun r' h' => growR_uniq h h'
noncomputable def Δg : FuncId → List V → Hp → Option AR := extΔ 66 (conD GrowR) noΔ
theorem Δg_ok : GoodΔ Tryz.prog Δg := extΔ_ok (conD_ok growR_ok) noΔ_ok
set_option maxHeartbeats 4000000 in
theorem concat_ok (a c : List Ent) (ha : a.length ≤ 100000) (hc : c.length ≤ 100000) (hne : 0 < a.length + c.length) : NCall Tryz.prog 45 [.sl 0 0 2 1 (some 2)] [.cells [.fs (cnts a) a.length, .fs (cnts c) c.length]] []
    (.sl 1 0 (a ++ c).length 3 none) ⟨[(1, .cells (cnts (a ++ c))), (0, .cells [.fs (cnts a) a.length, .fs (cnts c) c.length])], 2⟩ := by
  refine NCall.walk (rs := [.tmp 2]) [0, 2, 3, 5, 6, 8, 9, 10, 11, 12, 20, 25, 26, 27, 28] [] 1 mixed (noΓ_ok) (Δg_ok) call45 Tryz.func45 rfl Tryz.ntmps45 rfl (by kernel_rfl) (by simp) (by simp) (by simp) ?_
  simp only [go_sem, Nat.reduceBEq, Nat.reduceSub, Nat.reduceAdd, Nat.reduceMul, Nat.reduceLT, Nat.reduceLeDiff, Nat.reduceEqDiff, Int.reduceToNat, Int.reduceAdd, Int.reduceSub, Int.reduceMul, Int.reduceLT, Int.reduceLE, Int.reduceEq]
  have k1 : ¬ ((a.length : Int) < 0) := by omega
  have k2 : ¬ ((a.length : Int) + (c.length : Int) < 0) := by omega
  refine AXs.rounds mixed noΓ_ok Δg_ok [(), ()] (by kernel_rfl) ?_
  simp (disch := (first | assumption | omega | (simp only [List.length_take, List.length_drop, List.length_append, List.length_set, List.length_replicate, List.length_cons, List.length_nil, len_nats, len_ints, len_strs] <;> omega))) only [go_sem, k1, k2, decide_false, Int.zero_add, Nat.reduceBEq, Nat.reduceSub, Nat.reduceAdd, Nat.reduceMul, Nat.reduceLT, Nat.reduceLeDiff, Nat.reduceEqDiff, Int.reduceToNat, Int.reduceAdd, Int.reduceSub, Int.reduceMul, Int.reduceLT, Int.reduceLE, Int.reduceEq]
  refine AXa.go mixed (noΓ_ok) ( Δg_ok) (by kernel_rfl) ?_
  have hg := growR_eq (a.length + c.length) ((a.length : Int) + (c.length : Int)) [(0, .cells [.fs (cnts a) a.length, .fs (cnts c) c.length])] 1 (by omega) hne (by omega) (by rfl)
  have hg' : Δg 66 [.nilS, .int .i64 ((a.length : Int) + (c.length : Int))] ⟨[(0, .cells [.fs (cnts a) a.length, .fs (cnts c) c.length])], 1⟩ = _ := hg
  simp (disch := (first | assumption | omega | (simp only [List.length_take, List.length_drop, List.length_append, List.length_set, List.length_replicate, List.length_cons, List.length_nil, len_nats, len_ints, len_strs] <;> omega))) only [go_sem, hg', Nat.reduceBEq, Nat.reduceSub, Nat.reduceAdd, Nat.reduceMul, Nat.reduceLT, Nat.reduceLeDiff, Nat.reduceEqDiff, Int.reduceToNat, Int.reduceAdd, Int.reduceSub, Int.reduceMul, Int.reduceLT, Int.reduceLE, Int.reduceEq]
  clear hg hg'
  rcases Nat.eq_zero_or_pos a.length with ha0 | ha0
  · obtain rfl : a = [] := List.eq_nil_of_length_eq_zero ha0
    have c1 : ¬ c.length = 0 := by simp at hne; omega
    refine AXs.rounds mixed noΓ_ok Δg_ok [(), ()] (by kernel_rfl) ?_
    simp (disch := (first | assumption | omega | (simp only [List.length_take, List.length_drop, List.length_append, List.length_set, List.length_replicate, List.length_cons, List.length_nil, len_nats, len_ints, len_strs] <;> omega))) only [go_sem, cnts_nil, one_cnts, c1, Nat.reduceBEq, Nat.reduceSub, Nat.reduceAdd, Nat.reduceMul, Nat.reduceLT, Nat.reduceLeDiff, Nat.reduceEqDiff, Int.reduceToNat, Int.reduceAdd, Int.reduceSub, Int.reduceMul, Int.reduceLT, Int.reduceLE, Int.reduceEq]
    refine ⟨by omega, ?_⟩
    refine AXa.go mixed (noΓ_ok) ( Δg_ok) (by kernel_rfl) ?_
    simp only [go_sem, Nat.reduceBEq, Nat.reduceSub, Nat.reduceAdd, Nat.reduceMul, Nat.reduceLT, Nat.reduceLeDiff, Nat.reduceEqDiff, Int.reduceToNat, Int.reduceAdd, Int.reduceSub, Int.reduceMul, Int.reduceLT, Int.reduceLE, Int.reduceEq]
    refine ⟨[(2, .sl 1 0 c.length 3 none)], Sub.of [(1, 2)] rfl ?_ ?_ (Nat.le_succ _) (fun b hb _ => ?_), ?_⟩
    · simp only [go_sem, Nat.reduceBEq, Nat.reduceSub, Nat.reduceAdd, Nat.reduceMul, Nat.reduceLT, Nat.reduceLeDiff, Nat.reduceEqDiff, Int.reduceToNat, Int.reduceAdd, Int.reduceSub, Int.reduceMul, Int.reduceLT, Int.reduceLE, Int.reduceEq]
    · simp only [go_sem, Nat.reduceBEq, Nat.reduceSub, Nat.reduceAdd, Nat.reduceMul, Nat.reduceLT, Nat.reduceLeDiff, Nat.reduceEqDiff, Int.reduceToNat, Int.reduceAdd, Int.reduceSub, Int.reduceMul, Int.reduceLT, Int.reduceLE, Int.reduceEq]
      exact fun x hx => (nomatch hx)
    · obtain rfl : b = 0 := Nat.lt_one_iff.1 hb
      rfl
    · rfl
  · have a1 : ¬ a.length = 0 := by omega
    rcases Nat.eq_zero_or_pos c.length with hc0 | hc0
    · obtain rfl : c = [] := List.eq_nil_of_length_eq_zero hc0
      refine AXs.rounds mixed noΓ_ok Δg_ok [(), ()] (by kernel_rfl) ?_
      simp (disch := (first | assumption | omega | (simp only [List.length_take, List.length_drop, List.length_append, List.length_set, List.length_replicate, List.length_cons, List.length_nil, len_nats, len_ints, len_strs] <;> omega))) only [go_sem, cnts_nil, one_cnts, a1, Nat.reduceBEq, Nat.reduceSub, Nat.reduceAdd, Nat.reduceMul, Nat.reduceLT, Nat.reduceLeDiff, Nat.reduceEqDiff, Int.reduceToNat, Int.reduceAdd, Int.reduceSub, Int.reduceMul, Int.reduceLT, Int.reduceLE, Int.reduceEq]
      refine ⟨by omega, ?_⟩
      refine AXa.go mixed (noΓ_ok) ( Δg_ok) (by kernel_rfl) ?_
      simp only [go_sem, Nat.reduceBEq, Nat.reduceSub, Nat.reduceAdd, Nat.reduceMul, Nat.reduceLT, Nat.reduceLeDiff, Nat.reduceEqDiff, Int.reduceToNat, Int.reduceAdd, Int.reduceSub, Int.reduceMul, Int.reduceLT, Int.reduceLE, Int.reduceEq]
      refine ⟨[(2, .sl 1 0 a.length 3 none)], Sub.of [(1, 2)] rfl ?_ ?_ (Nat.le_succ _) (fun b hb _ => ?_), ?_⟩
      · simp only [go_sem, Nat.reduceBEq, Nat.reduceSub, Nat.reduceAdd, Nat.reduceMul, Nat.reduceLT, Nat.reduceLeDiff, Nat.reduceEqDiff, Int.reduceToNat, Int.reduceAdd, Int.reduceSub, Int.reduceMul, Int.reduceLT, Int.reduceLE, Int.reduceEq]
      · simp only [go_sem, Nat.reduceBEq, Nat.reduceSub, Nat.reduceAdd, Nat.reduceMul, Nat.reduceLT, Nat.reduceLeDiff, Nat.reduceEqDiff, Int.reduceToNat, Int.reduceAdd, Int.reduceSub, Int.reduceMul, Int.reduceLT, Int.reduceLE, Int.reduceEq]
        exact fun x hx => (nomatch hx)
      · obtain rfl : b = 0 := Nat.lt_one_iff.1 hb
        rfl
      · simp [lookE]
    · have c1 : ¬ c.length = 0 := by omega
      refine AXs.rounds mixed noΓ_ok Δg_ok [(), ()] (by kernel_rfl) ?_
      simp (disch := (first | assumption | omega | (simp only [List.length_take, List.length_drop, List.length_append, List.length_set, List.length_replicate, List.length_cons, List.length_nil, len_nats, len_ints, len_strs] <;> omega))) only [go_sem, one_cnts, a1, c1, Nat.reduceBEq, Nat.reduceSub, Nat.reduceAdd, Nat.reduceMul, Nat.reduceLT, Nat.reduceLeDiff, Nat.reduceEqDiff, Int.reduceToNat, Int.reduceAdd, Int.reduceSub, Int.reduceMul, Int.reduceLT, Int.reduceLE, Int.reduceEq]
      refine ⟨by omega, by omega, ?_⟩
      refine AXa.go mixed (noΓ_ok) ( Δg_ok) (by kernel_rfl) ?_
      simp only [go_sem, Nat.reduceBEq, Nat.reduceSub, Nat.reduceAdd, Nat.reduceMul, Nat.reduceLT, Nat.reduceLeDiff, Nat.reduceEqDiff, Int.reduceToNat, Int.reduceAdd, Int.reduceSub, Int.reduceMul, Int.reduceLT, Int.reduceLE, Int.reduceEq]
      refine ⟨[(2, .sl 1 0 (a ++ c).length 3 none)], Sub.of [(1, 3)] rfl ?_ ?_ (Nat.le_succ _) (fun b hb _ => ?_), ?_⟩
      · simp only [go_sem, Nat.reduceBEq, Nat.reduceSub, Nat.reduceAdd, Nat.reduceMul, Nat.reduceLT, Nat.reduceLeDiff, Nat.reduceEqDiff, Int.reduceToNat, Int.reduceAdd, Int.reduceSub, Int.reduceMul, Int.reduceLT, Int.reduceLE, Int.reduceEq]
        simp
      · simp only [go_sem, Nat.reduceBEq, Nat.reduceSub, Nat.reduceAdd, Nat.reduceMul, Nat.reduceLT, Nat.reduceLeDiff, Nat.reduceEqDiff, Int.reduceToNat, Int.reduceAdd, Int.reduceSub, Int.reduceMul, Int.reduceLT, Int.reduceLE, Int.reduceEq]
        rw [cnts_append, List.take_of_length_le (by rw [len_cnts]; omega)]
        exact lrel_same fun x hx => (List.mem_append.1 hx).elim (pure_cnts a x) (pure_cnts c x)
      · obtain rfl : b = 0 := Nat.lt_one_iff.1 hb
        rfl
      · rfl
theorem concat0_ok : NCall Tryz.prog 45 [.sl 0 0 2 1 (some 2)] [.cells [.fs [] 0, .fs [] 0]] [] .nilS ⟨[(0, .cells [.fs [] 0, .fs [] 0])], 1⟩ := by
  refine NCall.walk (rs := [.tmp 2]) [0, 2, 3, 5, 6, 8, 9, 10, 11, 12, 20, 25, 26, 27, 28] [] 1 mixed (noΓ_ok) (Δg_ok) call45 Tryz.func45 rfl Tryz.ntmps45 rfl (by kernel_rfl) (by simp) (by simp) (by simp) ?_
  simp only [go_sem, Nat.reduceBEq, Nat.reduceSub, Nat.reduceAdd, Nat.reduceMul, Nat.reduceLT, Nat.reduceLeDiff, Nat.reduceEqDiff, Int.reduceToNat, Int.reduceAdd, Int.reduceSub, Int.reduceMul, Int.reduceLT, Int.reduceLE, Int.reduceEq]
  refine AXs.rounds mixed noΓ_ok Δg_ok [(), ()] (by kernel_rfl) ?_
  simp (disch := (first | assumption | omega | (simp only [List.length_take, List.length_drop, List.length_append, List.length_set, List.length_replicate, List.length_cons, List.length_nil, len_nats, len_ints, len_strs] <;> omega))) only [go_sem, decide_false, Int.zero_add, Nat.reduceBEq, Nat.reduceSub, Nat.reduceAdd, Nat.reduceMul, Nat.reduceLT, Nat.reduceLeDiff, Nat.reduceEqDiff, Int.reduceToNat, Int.reduceAdd, Int.reduceSub, Int.reduceMul, Int.reduceLT, Int.reduceLE, Int.reduceEq]
  refine AXa.go mixed (noΓ_ok) ( Δg_ok) (by kernel_rfl) ?_
  have hg : Δg 66 [.nilS, .int .i64 0] ⟨[(0, .cells [.fs [] 0, .fs [] 0])], 1⟩ = _ := growR_eq0 [(0, .cells [.fs [] 0, .fs [] 0])] 1 (by rfl)
  simp (disch := (first | assumption | omega | (simp only [List.length_take, List.length_drop, List.length_append, List.length_set, List.length_replicate, List.length_cons, List.length_nil, len_nats, len_ints, len_strs] <;> omega))) only [go_sem, hg, Nat.reduceBEq, Nat.reduceSub, Nat.reduceAdd, Nat.reduceMul, Nat.reduceLT, Nat.reduceLeDiff, Nat.reduceEqDiff, Int.reduceToNat, Int.reduceAdd, Int.reduceSub, Int.reduceMul, Int.reduceLT, Int.reduceLE, Int.reduceEq]
  refine AXs.rounds mixed noΓ_ok Δg_ok [(), ()] (by kernel_rfl) ?_
  simp (disch := (first | assumption | omega | (simp only [List.length_take, List.length_drop, List.length_append, List.length_set, List.length_replicate, List.length_cons, List.length_nil, len_nats, len_ints, len_strs] <;> omega))) only [go_sem, Nat.reduceBEq, Nat.reduceSub, Nat.reduceAdd, Nat.reduceMul, Nat.reduceLT, Nat.reduceLeDiff, Nat.reduceEqDiff, Int.reduceToNat, Int.reduceAdd, Int.reduceSub, Int.reduceMul, Int.reduceLT, Int.reduceLE, Int.reduceEq]
  refine AXa.go mixed (noΓ_ok) ( Δg_ok) (by kernel_rfl) ?_
  simp only [go_sem, Nat.reduceBEq, Nat.reduceSub, Nat.reduceAdd, Nat.reduceMul, Nat.reduceLT, Nat.reduceLeDiff, Nat.reduceEqDiff, Int.reduceToNat, Int.reduceAdd, Int.reduceSub, Int.reduceMul, Int.reduceLT, Int.reduceLE, Int.reduceEq]
  refine ⟨[(2, .nilS)], Sub.of [] rfl ?_ ?_ (Nat.le_refl _) (fun b hb _ => ?_), rfl⟩
  · simp only [go_sem, Nat.reduceBEq, Nat.reduceSub, Nat.reduceAdd, Nat.reduceMul, Nat.reduceLT, Nat.reduceLeDiff, Nat.reduceEqDiff, Int.reduceToNat, Int.reduceAdd, Int.reduceSub, Int.reduceMul, Int.reduceLT, Int.reduceLE, Int.reduceEq]
  · simp only [go_sem, Nat.reduceBEq, Nat.reduceSub, Nat.reduceAdd, Nat.reduceMul, Nat.reduceLT, Nat.reduceLeDiff, Nat.reduceEqDiff, Int.reduceToNat, Int.reduceAdd, Int.reduceSub, Int.reduceMul, Int.reduceLT, Int.reduceLE, Int.reduceEq]
    exact fun x hx => (nomatch hx)
  · obtain rfl : b = 0 := Nat.lt_one_iff.1 hb
    rfl
def ConcatR (args : List V) (H : Hp) (r : AR) : Prop :=
  ∃ (b : Nat) (a c : List Ent), args = [.sl b 0 2 1 (some 2)] ∧ H.get b = some (.cells [.fs (cnts a) a.length, .fs (cnts c) c.length]) ∧ a.length ≤ 100000 ∧ c.length ≤ 100000 ∧ (∀ b x, H.get b = some x → b < H.next) ∧
    r = if a.length + c.length = 0 then ⟨True, .nilS, H, [b], []⟩ else ⟨True, .sl H.next 0 (a ++ c).length 3 none, ⟨(H.next, .cells (cnts (a ++ c))) :: H.bs, H.next + 1⟩, [b], []⟩
theorem concatR_ok : ∀ args H r, ConcatR args H r → HCall Tryz.prog 45 args H r := by
  rintro args H r ⟨b, a, c, rfl, hb, ha, hc, hk, rfl⟩
  have hF' : ∀ (i : Nat) (x : Blk), ([Blk.cells [.fs (cnts a) a.length, .fs (cnts c) c.length]] : List Blk)[i]? = some x → ∀ π N, RnB π N x x := by
    intro i x hx π N
    match i with
    | 0 =>
      cases hx
      exact .cells (lrel_same fun x hx => by
        simp only [List.mem_cons, List.not_mem_nil, or_false] at hx
        rcases hx with rfl | rfl
        · exact .fs (pure_cnts a)
        · exact .fs (pure_cnts c))
    | i + 1 => simp at hx
  have hF : ∀ (i : Nat) (x : Blk), ([Blk.cells [.fs (cnts a) a.length, .fs (cnts c) c.length]] : List Blk)[i]? = some x → ∃ b', [b][i]? = some b' ∧ H.get b' = some x ∧ RnB (fun i => [b].getD i 0) (· < 1) x x := by
    intro i x hx
    match i with
    | 0 => exact ⟨b, rfl, by cases hx; exact hb, hF' 0 x hx _ _⟩
    | i + 1 => simp at hx
  have hargs : LRel (Rn (fun i => [b].getD i 0) (· < 1)) [V.sl 0 0 2 1 (some 2)] [.sl b 0 2 1 (some 2)] := by
    refine ⟨rfl, fun i x y hx hy => ?_⟩
    match i with
    | 0 => cases hx; cases hy; exact .sl (π := fun i => [b].getD i 0) (b := 0) (Nat.lt_one_iff.2 rfl) (.inr rfl)
    | i + 1 => simp at hx
  by_cases h0 : a.length + c.length = 0
  · rw [if_pos h0]
    obtain rfl : a = [] := List.eq_nil_of_length_eq_zero (by omega)
    obtain rfl : c = [] := List.eq_nil_of_length_eq_zero (by omega)
    exact HCall.none concat0_ok .nilS [b] _ H rfl (by simp) hargs hF hF' hk
  · rw [if_neg h0]
    have pc : ∀ x ∈ cnts (a ++ c), Pure x := pure_cnts _
    exact HCall.fresh (F := [.cells [.fs (cnts a) a.length, .fs (cnts c) c.length]]) (concat_ok a c ha hc (by omega)) pc [b] _ H rfl (by simp) hargs hF hF' hk
theorem concatR_eq (b : Nat) (a c : List Ent) (bs : List (Nat × Blk)) (nx : Nat) (hb : lookB bs b = some (.cells [.fs (cnts a) a.length, .fs (cnts c) c.length])) (ha : a.length ≤ 100000) (hc : c.length ≤ 100000) (hk : ((keysB bs).all fun b => decide (b < nx)) = true) :
    conD ConcatR [.sl b 0 2 1 (some 2)] ⟨bs, nx⟩ = some (if a.length + c.length = 0 then ⟨True, .nilS, ⟨bs, nx⟩, [b], []⟩ else ⟨True, .sl nx 0 (a ++ c).length 3 none, ⟨(nx, .cells (cnts (a ++ c))) :: bs, nx + 1⟩, [b], []⟩) := by
  have hg : (⟨bs, nx⟩ : Hp).get b = some (.cells [.fs (cnts a) a.length, .fs (cnts c) c.length]) := (lookB_eq bs b).trans hb
  refine conD_eq ⟨b, a, c, rfl, hg, ha, hc, keysLt hk, rfl⟩ ?_
  rintro r' ⟨b', a', c', he, hb', _, _, _, rfl⟩
  simp only [List.cons.injEq, V.sl.injEq, and_true] at he
  subst he
  rw [hg] at hb'
  simp only [Option.some.injEq, Blk.cells.injEq, List.cons.injEq, V.fs.injEq, and_true] at hb'
  obtain ⟨⟨h1, _⟩, h2, _⟩ := hb'
  rw [cnts_inj h1, cnts_inj h2]
end Go.Proofs

/- Whether two abstract values, and two abstract heaps, are the same. -/
namespace Go.Ab
def beqLv (f : V → V → Bool) : List V → List V → Bool
  | [], [] => true
  | a :: r, b :: s => f a b && beqLv f r s
  | _, _ => false
def beqN : Nat → V → V → Bool
  | 0, _, _ => false
  | n + 1, x, y =>
    match x, y with
    | .bool a, .bool b => a == b
    | .int k a, .int k' b => decide (k = k') && decide (a = b)
    | .str a, .str b => decide (a = b)
    | .nilS, .nilS => true
    | .sl b o l s c, .sl b' o' l' s' c' => Nat.beq b b' && Nat.beq o o' && Nat.beq l l' && Nat.beq s s' && decide (c = c')
    | .fs cs n1, .fs cs' n2 => Nat.beq n1 n2 && beqLv (beqN n) cs cs'
    | .nilP, .nilP => true
    | .ptr b o, .ptr b' o' => Nat.beq b b' && Nat.beq o o'
    | .fp cs, .fp cs' => beqLv (beqN n) cs cs'
    | .nilM, .nilM => true
    | .map b, .map b' => Nat.beq b b'
    | .fn f cs, .fn f' cs' => Nat.beq f f' && beqLv (beqN n) cs cs'
    | .bnd f cs, .bnd f' cs' => Nat.beq f f' && beqLv (beqN n) cs cs'
    | .nilF, .nilF => true
    | .ifc t v, .ifc t' v' => Nat.beq t t' && beqN n v v'
    | .nilI, .nilI => true
    | .agg cs, .agg cs' => beqLv (beqN n) cs cs'
    | .tup cs, .tup cs' => beqLv (beqN n) cs cs'
    | .any, .any => true
    | .opt b v, .opt b' v' => (b == b') && beqN n v v'
    | _, _ => false
def beqV (x y : V) : Bool := beqN 12 x y
def beqVs (l r : List V) : Bool := beqLv (beqN 12) l r
theorem beqL_eq {f : V → V → Bool} (hf : ∀ a b, f a b = true → a = b) : ∀ {l r : List V}, beqLv f l r = true → l = r
  | [], r, h => by cases r <;> simp [beqLv] at h; rfl
  | a :: l, r, h => by
    cases r with
    | nil => simp [beqLv] at h
    | cons b s =>
      simp [beqLv] at h
      rw [hf a b h.1, beqL_eq hf h.2]
theorem beqN_eq : ∀ (n : Nat) (a b : V), beqN n a b = true → a = b
  | 0, a, b, h => by simp [beqN] at h
  | n + 1, a, b, h => by
    have ih := beqN_eq n
    have il : ∀ {l r : List V}, beqLv (beqN n) l r = true → l = r := beqL_eq ih
    unfold beqN at h
    split at h <;> (try simp only [Bool.and_eq_true, Nat.beq_eq, decide_eq_true_eq, beq_iff_eq] at h) <;> first
      | rfl
      | (rw [h]; done)
      | (rw [h.1, h.2]; done)
      | (rw [h.1, il h.2]; done)
      | (rw [il h]; done)
      | (rw [h.1, ih _ _ h.2]; done)
      | (simp [h]; done)
      | (cases h; done)
theorem beqV_eq {a b : V} (h : beqV a b = true) : a = b := beqN_eq _ _ _ h
theorem beqVs_eq {l r : List V} (h : beqVs l r = true) : l = r := beqL_eq (beqN_eq _) h
def beqEs : List (Nat × V × V) → List (Nat × V × V) → Bool
  | [], [] => true
  | a :: r, b :: s => Nat.beq a.1 b.1 && beqV a.2.1 b.2.1 && beqV a.2.2 b.2.2 && beqEs r s
  | _, _ => false
theorem beqEs_eq : ∀ {a b : List (Nat × V × V)}, beqEs a b = true → a = b
  | [], b, h => by cases b <;> simp [beqEs] at h; rfl
  | (n, x, y) :: r, b, h => by
    cases b with
    | nil => simp [beqEs] at h
    | cons q s =>
      obtain ⟨m, x', y'⟩ := q
      simp [beqEs] at h
      rw [h.1.1.1, beqV_eq h.1.1.2, beqV_eq h.1.2, beqEs_eq h.2]
def beqB : Blk → Blk → Bool
  | .cells cs, .cells cs' => beqVs cs cs'
  | .mp es c, .mp es' c' => Nat.beq c c' && beqEs es es'
  | .it m bs l s t c, .it m' bs' l' s' t' c' => decide (m = m' ∧ bs = bs' ∧ l = l' ∧ s = s' ∧ t = t' ∧ c = c')
  | .ty t cs, .ty t' cs' => Nat.beq t t' && beqVs cs cs'
  | _, _ => false
theorem beqB_eq {a b : Blk} (h : beqB a b = true) : a = b := by
  cases a <;> cases b <;> simp [beqB] at h
  · rw [beqVs_eq h]
  · rw [h.1, beqEs_eq h.2]
  · obtain ⟨h1, h2, h3, h4, h5, h6⟩ := h
    rw [h1, h2, h3, h4, h5, h6]
  · rw [h.1, beqVs_eq h.2]
def beqBs : List (Nat × Blk) → List (Nat × Blk) → Bool
  | [], [] => true
  | a :: r, b :: s => Nat.beq a.1 b.1 && beqB a.2 b.2 && beqBs r s
  | _, _ => false
theorem beqBs_eq : ∀ {a b : List (Nat × Blk)}, beqBs a b = true → a = b
  | [], b, h => by cases b <;> simp [beqBs] at h; rfl
  | (n, x) :: r, b, h => by
    cases b with
    | nil => simp [beqBs] at h
    | cons q s =>
      obtain ⟨m, x'⟩ := q
      simp [beqBs] at h
      rw [h.1.1, beqB_eq h.1.2, beqBs_eq h.2]
def beqH (a b : Hp) : Bool := Nat.beq a.next b.next && beqBs a.bs b.bs
theorem beqH_eq {a b : Hp} (h : beqH a b = true) : a = b := by
  obtain ⟨bs, n⟩ := a
  obtain ⟨bs', n'⟩ := b
  simp [beqH] at h
  rw [h.1, beqBs_eq h.2]
end Go.Ab
