/- Two counts together: the statement's own function. -/
import Derived.Test.YtajodjbnkeeonaaGreatDoorMA
import Derived.Test.YtajodjbnkeeonaaGreatDoorKAM
set_option linter.unusedSimpArgs false
set_option linter.unusedVariables false
namespace Go.Proofs
open Go.Ab Go.Cnt
theorem keyT37 (a b : Str) (n : Int) : keyT Tryz.prog 37 (.agg [.str a, .str b, .int .i64 n]) = true := by kernel_rfl
theorem eqV37 (a b : Str) (n : Int) : eqV Tryz.prog 37 (.agg [.str a, .str b, .int .i64 n]) (.agg [.str a, .str b, .int .i64 n]) = some true := by
  unfold eqV
  rw [Tryz.underlying37]
  simp only [keyT37, Bool.and_self]
  simp [keyEqs, keyEq1]
theorem neq37 (a b : Str) (n : Int) (H : Hp) : aBin Tryz.prog .neq 37 (.agg [.str a, .str b, .int .i64 n]) (.agg [.str a, .str b, .int .i64 n]) H = ⟨True, .bool false, H, [], []⟩ := by
  have h : aBin Tryz.prog .neq 37 (.agg [.str a, .str b, .int .i64 n]) (.agg [.str a, .str b, .int .i64 n]) H = XR.ar H (xEq Tryz.prog .neq 37 (.agg [.str a, .str b, .int .i64 n]) (.agg [.str a, .str b, .int .i64 n]) H) := by unfold aBin; rfl
  rw [h]
  unfold xEq
  rw [eqV37]
  rfl
set_option maxHeartbeats 4000000 in
theorem same_ok (l : List Ent) (hl : l.length ≤ 1000000) : PCall Tryz.prog 20 [.fs (cnts l) l.length, .fs (cnts l) l.length] (.ret (.bool true)) := by
  refine PCall.walk (rs := [.tmp 4]) [0, 1, 4, 5, 10, 14, 25] [] mixed (noΓ_ok) (noΔ_ok) call20 Tryz.func20 rfl Tryz.ntmps20 rfl (by kernel_rfl) (by simp) (by simp [pure_bool, pure_int, pure_str, pure_fs, pure_fp, pure_fn, pure_agg, pure_tup, pure_nilS, pure_nilP, pure_natsP, pure_intsP, pure_strsP, pure_list, pure_cntsP]) ?_
  simp (disch := (first | assumption | omega | (simp only [List.length_take, List.length_drop, List.length_append, List.length_set, List.length_replicate, List.length_cons, List.length_nil, len_nats, len_ints, len_strs] <;> omega))) only [go_sem, Nat.reduceBEq, Nat.reduceSub, Nat.reduceAdd, Nat.reduceMul, Nat.reduceLT, Nat.reduceLeDiff, Nat.reduceEqDiff, Int.reduceToNat, Int.reduceAdd, Int.reduceSub, Int.reduceMul, Int.reduceLT, Int.reduceLE, Int.reduceEq]
  refine AXs.loop mixed (noΓ_ok) (noΔ_ok) (fun i : Nat => [(0, .fs (cnts l) l.length), (1, .fs (cnts l) l.length), (5, .int .i64 i)]) (fun _ => ⟨[], 0⟩) (fun i => i ≤ l.length) (fun i => l.length - i) 0 (by kernel_rfl) (Nat.zero_le _) (Sub.of0 [] rfl rfl ?_ ?_) ?_
  · simp only [go_sem, Nat.reduceBEq, Nat.reduceSub, Nat.reduceAdd, Nat.reduceMul, Nat.reduceLT, Nat.reduceLeDiff, Nat.reduceEqDiff, Int.reduceToNat, Int.reduceAdd, Int.reduceSub, Int.reduceMul, Int.reduceLT, Int.reduceLE, Int.reduceEq]
  · simp only [go_sem, Nat.reduceBEq, Nat.reduceSub, Nat.reduceAdd, Nat.reduceMul, Nat.reduceLT, Nat.reduceLeDiff, Nat.reduceEqDiff, Int.reduceToNat, Int.reduceAdd, Int.reduceSub, Int.reduceMul, Int.reduceLT, Int.reduceLE, Int.reduceEq]
  intro i h1
  simp only [go_sem, Nat.reduceBEq, Nat.reduceSub, Nat.reduceAdd, Nat.reduceMul, Nat.reduceLT, Nat.reduceLeDiff, Nat.reduceEqDiff, Int.reduceToNat, Int.reduceAdd, Int.reduceSub, Int.reduceMul, Int.reduceLT, Int.reduceLE, Int.reduceEq]
  refine AXc.introP (fun h2 => ?_) (fun h2 => ?_)
  · have at1 := cnts_at l i (by omega)
    simp (disch := (first | assumption | omega | (simp only [List.length_take, List.length_drop, List.length_append, List.length_set, List.length_replicate, List.length_cons, List.length_nil, len_nats, len_ints, len_strs] <;> omega))) only [go_sem, at1, neq37, Nat.reduceBEq, Nat.reduceSub, Nat.reduceAdd, Nat.reduceMul, Nat.reduceLT, Nat.reduceLeDiff, Nat.reduceEqDiff, Int.reduceToNat, Int.reduceAdd, Int.reduceSub, Int.reduceMul, Int.reduceLT, Int.reduceLE, Int.reduceEq]
    refine ⟨⟨by omega, by omega⟩, ⟨by omega, by omega⟩, loopK_norm (i + 1) (by omega) (by omega) (Sub.of0 [] rfl rfl ?_ ?_)⟩
    · simp (disch := (first | assumption | omega | (simp only [List.length_take, List.length_drop, List.length_append, List.length_set, List.length_replicate, List.length_cons, List.length_nil, len_nats, len_ints, len_strs] <;> omega))) only [go_sem, Nat.reduceBEq, Nat.reduceSub, Nat.reduceAdd, Nat.reduceMul, Nat.reduceLT, Nat.reduceLeDiff, Nat.reduceEqDiff, Int.reduceToNat, Int.reduceAdd, Int.reduceSub, Int.reduceMul, Int.reduceLT, Int.reduceLE, Int.reduceEq]
      simp
    · simp only [go_sem, Nat.reduceBEq, Nat.reduceSub, Nat.reduceAdd, Nat.reduceMul, Nat.reduceLT, Nat.reduceLeDiff, Nat.reduceEqDiff, Int.reduceToNat, Int.reduceAdd, Int.reduceSub, Int.reduceMul, Int.reduceLT, Int.reduceLE, Int.reduceEq]
  · simp only [go_sem, Nat.reduceBEq, Nat.reduceSub, Nat.reduceAdd, Nat.reduceMul, Nat.reduceLT, Nat.reduceLeDiff, Nat.reduceEqDiff, Int.reduceToNat, Int.reduceAdd, Int.reduceSub, Int.reduceMul, Int.reduceLT, Int.reduceLE, Int.reduceEq]
    refine AXa.go mixed (noΓ_ok) (noΔ_ok) (by kernel_rfl) ?_
    simp (disch := (first | assumption | omega | (simp only [List.length_take, List.length_drop, List.length_append, List.length_set, List.length_replicate, List.length_cons, List.length_nil, len_nats, len_ints, len_strs] <;> omega))) only [go_sem, Nat.reduceBEq, Nat.reduceSub, Nat.reduceAdd, Nat.reduceMul, Nat.reduceLT, Nat.reduceLeDiff, Nat.reduceEqDiff, Int.reduceToNat, Int.reduceAdd, Int.reduceSub, Int.reduceMul, Int.reduceLT, Int.reduceLE, Int.reduceEq]
noncomputable def cSame : List V → Option PR := conOf (fun l : List Ent => [.fs (cnts l) l.length, .fs (cnts l) l.length]) (fun l => l.length ≤ 1000000) fun _ => .ret (.bool true)
theorem cSame_eq (l : List Ent) (hl : l.length ≤ 1000000) : cSame [.fs (cnts l) l.length, .fs (cnts l) l.length] = some (.ret (.bool true)) :=
  conOf_eq (pat := fun l : List Ent => [.fs (cnts l) l.length, .fs (cnts l) l.length]) (fun x y h => by simp at h; exact cnts_inj h.1) l hl
theorem cSame_ok : ∀ args r, cSame args = some r → PCall Tryz.prog 20 args r := conOf_ok fun l hl => same_ok l hl
attribute [go_sem] cSame_eq
theorem sameCounts_ok (a b : List Ent) (ha : a.length ≤ 1000000) (hb : b.length ≤ 1000000) : PCall Tryz.prog 10 [.agg [.fs (cnts a) a.length, .fs (cnts b) b.length], .agg [.fs (cnts a) a.length, .fs (cnts b) b.length]] (.ret (.bool true)) := by
  refine PCall.walk (rs := [.tmp 4]) [0, 1, 2, 3, 4] [] mixed (extΓ_ok cSame_ok noΓ_ok) (noΔ_ok) call10 Tryz.func10 rfl Tryz.ntmps10 rfl (by kernel_rfl) (by simp) (by simp [pure_bool, pure_int, pure_str, pure_fs, pure_fp, pure_fn, pure_agg, pure_tup, pure_nilS, pure_nilP, pure_natsP, pure_intsP, pure_strsP, pure_list, pure_cntsP]) ?_
  simp (disch := (first | assumption | omega | (simp only [List.length_take, List.length_drop, List.length_append, List.length_set, List.length_replicate, List.length_cons, List.length_nil, len_nats, len_ints, len_strs] <;> omega))) only [go_sem, Nat.reduceBEq, Nat.reduceSub, Nat.reduceAdd, Nat.reduceMul, Nat.reduceLT, Nat.reduceLeDiff, Nat.reduceEqDiff, Int.reduceToNat, Int.reduceAdd, Int.reduceSub, Int.reduceMul, Int.reduceLT, Int.reduceLE, Int.reduceEq]
noncomputable def cSameC : List V → Option PR := conOf (fun p : List Ent × List Ent => [.agg [.fs (cnts p.1) p.1.length, .fs (cnts p.2) p.2.length], .agg [.fs (cnts p.1) p.1.length, .fs (cnts p.2) p.2.length]]) (fun p => p.1.length ≤ 1000000 ∧ p.2.length ≤ 1000000) fun _ => .ret (.bool true)
theorem cSameC_eq (a b : List Ent) (ha : a.length ≤ 1000000) (hb : b.length ≤ 1000000) : cSameC [.agg [.fs (cnts a) a.length, .fs (cnts b) b.length], .agg [.fs (cnts a) a.length, .fs (cnts b) b.length]] = some (.ret (.bool true)) :=
  conOf_eq (pat := fun p : List Ent × List Ent => [.agg [.fs (cnts p.1) p.1.length, .fs (cnts p.2) p.2.length], .agg [.fs (cnts p.1) p.1.length, .fs (cnts p.2) p.2.length]]) (fun x y h => by
    simp only [List.cons.injEq, V.agg.injEq, V.fs.injEq, and_true] at h
    exact Prod.ext (cnts_inj h.1.1.1) (cnts_inj h.1.2.1)) (a, b) ⟨ha, hb⟩
theorem cSameC_ok : ∀ args r, cSameC args = some r → PCall Tryz.prog 10 args r := conOf_ok fun p hp => sameCounts_ok p.1 p.2 hp.1 hp.2
attribute [go_sem] cSameC_eq
def nameL (s : Str) : Bool := decide (s.length ≤ 100)
def entL (e : Ent) : Bool := nameL e.1.1 && nameL e.1.2
def listL (l : List Ent) : Bool := decide (l.length ≤ 600) && l.all entL
def nthL (ls : List (List Ent)) (i : Nat) : List Ent := ls.getD i []
def cellsL (ls : List (List Ent)) : List V := ls.map fun l => .fs (cnts l) l.length
theorem cellsL_at : ∀ (ls : List (List Ent)) (i : Nat), i < ls.length → (cellsL ls).drop i = .fs (cnts (nthL ls i)) (nthL ls i).length :: cellsL (ls.drop (i + 1))
  | [], _, h => by simp at h
  | l :: ls, 0, _ => rfl
  | l :: ls, i + 1, h => by
    have := cellsL_at ls i (by simpa using h)
    simpa [cellsL, nthL] using this
theorem pure_cellsL (ls : List (List Ent)) : ∀ x ∈ cellsL ls, Pure x := fun x hx => by
  obtain ⟨l, _, rfl⟩ := List.mem_map.1 hx
  exact .fs (pure_cnts l)
theorem pure_cellsLP (ls : List (List Ent)) : (∀ x ∈ cellsL ls, Pure x) ↔ True := ⟨fun _ => trivial, fun _ => pure_cellsL ls⟩
theorem lrel_cellsL {π : Nat → Nat} {N : Nat → Prop} (ls : List (List Ent)) : LRel (Rn π N) (cellsL ls) (cellsL ls) ↔ True := ⟨fun _ => trivial, fun _ => lrel_same (pure_cellsL ls)⟩
theorem cellsL_len (ls : List (List Ent)) : (cellsL ls).length = ls.length := by simp [cellsL]
theorem allL_t {p : List Ent → Bool} : ∀ {ls : List (List Ent)}, (∀ i, i < ls.length → p (nthL ls i) = true) → ls.all p = true
  | [], _ => rfl
  | e :: l, h => by
    rw [List.all_cons, allL_t (ls := l) fun i hi => h (i + 1) (by simpa using hi)]
    have := h 0 (by simp)
    simpa [nthL] using this
theorem nthL_mem {ls : List (List Ent)} {i : Nat} (h : i < ls.length) : nthL ls i ∈ ls := by
  unfold nthL
  rw [List.getD_eq_getElem?_getD, List.getElem?_eq_getElem h]
  exact List.getElem_mem h
theorem allL_f {p : List Ent → Bool} {ls : List (List Ent)} {i : Nat} (hi : i < ls.length) (h : p (nthL ls i) = false) : ls.all p = false := by
  cases e : ls.all p with
  | false => rfl
  | true => rw [List.all_eq_true.1 e _ (nthL_mem hi)] at h; cases h
set_option maxHeartbeats 4000000 in
theorem large_ok (ls : List (List Ent)) (hls : ls.length ≤ 1000) : PCall Tryz.prog 11 [.fs (cellsL ls) ls.length] (.ret (.bool (!ls.all listL))) := by
  refine PCall.walk (rs := [.tmp 2]) [0, 2, 3, 4, 8, 16, 23, 47] [] mixed (noΓ_ok) (noΔ_ok) call11 Tryz.func11 rfl Tryz.ntmps11 rfl (by kernel_rfl) (by simp) (by simp [pure_bool, pure_int, pure_str, pure_fs, pure_fp, pure_fn, pure_agg, pure_tup, pure_nilS, pure_nilP, pure_natsP, pure_intsP, pure_strsP, pure_list, pure_cntsP, pure_cellsLP]) ?_
  simp (disch := (first | assumption | omega | (simp only [List.length_take, List.length_drop, List.length_append, List.length_set, List.length_replicate, List.length_cons, List.length_nil, len_nats, len_ints, len_strs] <;> omega))) only [go_sem, Nat.reduceBEq, Nat.reduceSub, Nat.reduceAdd, Nat.reduceMul, Nat.reduceLT, Nat.reduceLeDiff, Nat.reduceEqDiff, Int.reduceToNat, Int.reduceAdd, Int.reduceSub, Int.reduceMul, Int.reduceLT, Int.reduceLE, Int.reduceEq]
  refine AXs.loop mixed (noΓ_ok) (noΔ_ok) (fun i : Nat => [(0, .fs (cellsL ls) ls.length), (3, .int .i64 i)]) (fun _ => ⟨[], 0⟩) (fun i => i ≤ ls.length ∧ ∀ j, j < i → listL (nthL ls j) = true) (fun i => ls.length - i) 0 (by kernel_rfl) ⟨Nat.zero_le _, fun j hj => by omega⟩ (Sub.of0 [] rfl rfl ?_ ?_) ?_
  · simp only [go_sem, Nat.reduceBEq, Nat.reduceSub, Nat.reduceAdd, Nat.reduceMul, Nat.reduceLT, Nat.reduceLeDiff, Nat.reduceEqDiff, Int.reduceToNat, Int.reduceAdd, Int.reduceSub, Int.reduceMul, Int.reduceLT, Int.reduceLE, Int.reduceEq]
    exact pure_cellsL ls
  · simp only [go_sem, Nat.reduceBEq, Nat.reduceSub, Nat.reduceAdd, Nat.reduceMul, Nat.reduceLT, Nat.reduceLeDiff, Nat.reduceEqDiff, Int.reduceToNat, Int.reduceAdd, Int.reduceSub, Int.reduceMul, Int.reduceLT, Int.reduceLE, Int.reduceEq]
  rintro i ⟨h1, h2⟩
  simp only [go_sem, Nat.reduceBEq, Nat.reduceSub, Nat.reduceAdd, Nat.reduceMul, Nat.reduceLT, Nat.reduceLeDiff, Nat.reduceEqDiff, Int.reduceToNat, Int.reduceAdd, Int.reduceSub, Int.reduceMul, Int.reduceLT, Int.reduceLE, Int.reduceEq]
  refine AXc.introP (fun h3 => ?_) (fun h3 => ?_)
  · have hi : i < ls.length := by omega
    have at1 := cellsL_at ls i hi
    simp (disch := (first | assumption | omega | (simp only [List.length_take, List.length_drop, List.length_append, List.length_set, List.length_replicate, List.length_cons, List.length_nil, len_nats, len_ints, len_strs] <;> omega))) only [go_sem, at1, Nat.reduceBEq, Nat.reduceSub, Nat.reduceAdd, Nat.reduceMul, Nat.reduceLT, Nat.reduceLeDiff, Nat.reduceEqDiff, Int.reduceToNat, Int.reduceAdd, Int.reduceSub, Int.reduceMul, Int.reduceLT, Int.reduceLE, Int.reduceEq]
    refine ⟨⟨by omega, by omega⟩, by omega, ?_⟩
    refine AXc.introP (fun h4 => ?_) (fun h4 => ?_)
    · simp (disch := (first | assumption | omega | (simp only [List.length_take, List.length_drop, List.length_append, List.length_set, List.length_replicate, List.length_cons, List.length_nil, len_nats, len_ints, len_strs] <;> omega))) only [go_sem, Nat.reduceBEq, Nat.reduceSub, Nat.reduceAdd, Nat.reduceMul, Nat.reduceLT, Nat.reduceLeDiff, Nat.reduceEqDiff, Int.reduceToNat, Int.reduceAdd, Int.reduceSub, Int.reduceMul, Int.reduceLT, Int.reduceLE, Int.reduceEq]
      have : listL (nthL ls i) = false := by unfold listL; rw [decide_eq_false (by omega)]; rfl
      rw [allL_f hi this]; rfl
    · have h4' : (nthL ls i).length ≤ 600 := by omega
      simp (disch := (first | assumption | omega | (simp only [List.length_take, List.length_drop, List.length_append, List.length_set, List.length_replicate, List.length_cons, List.length_nil, len_nats, len_ints, len_strs] <;> omega))) only [go_sem, Nat.reduceBEq, Nat.reduceSub, Nat.reduceAdd, Nat.reduceMul, Nat.reduceLT, Nat.reduceLeDiff, Nat.reduceEqDiff, Int.reduceToNat, Int.reduceAdd, Int.reduceSub, Int.reduceMul, Int.reduceLT, Int.reduceLE, Int.reduceEq]
      refine AXs.loop mixed (noΓ_ok) (noΔ_ok) (fun j : Nat => [(0, .fs (cellsL ls) ls.length), (3, .int .i64 i), (4, .int .i64 j)]) (fun _ => ⟨[], 0⟩) (fun j => j ≤ (nthL ls i).length ∧ ∀ k, k < j → entL (nthE (nthL ls i) k) = true) (fun j => (nthL ls i).length - j) 0 (by kernel_rfl) ⟨Nat.zero_le _, fun j hj => by omega⟩ (Sub.of0 [] rfl rfl ?_ ?_) ?_
      · simp only [go_sem, Nat.reduceBEq, Nat.reduceSub, Nat.reduceAdd, Nat.reduceMul, Nat.reduceLT, Nat.reduceLeDiff, Nat.reduceEqDiff, Int.reduceToNat, Int.reduceAdd, Int.reduceSub, Int.reduceMul, Int.reduceLT, Int.reduceLE, Int.reduceEq]
        exact pure_cellsL ls
      · simp only [go_sem, Nat.reduceBEq, Nat.reduceSub, Nat.reduceAdd, Nat.reduceMul, Nat.reduceLT, Nat.reduceLeDiff, Nat.reduceEqDiff, Int.reduceToNat, Int.reduceAdd, Int.reduceSub, Int.reduceMul, Int.reduceLT, Int.reduceLE, Int.reduceEq]
      rintro j ⟨h5, h6⟩
      simp (disch := (first | assumption | omega | (simp only [List.length_take, List.length_drop, List.length_append, List.length_set, List.length_replicate, List.length_cons, List.length_nil, len_nats, len_ints, len_strs] <;> omega))) only [go_sem, at1, Nat.reduceBEq, Nat.reduceSub, Nat.reduceAdd, Nat.reduceMul, Nat.reduceLT, Nat.reduceLeDiff, Nat.reduceEqDiff, Int.reduceToNat, Int.reduceAdd, Int.reduceSub, Int.reduceMul, Int.reduceLT, Int.reduceLE, Int.reduceEq]
      refine ⟨⟨by omega, by omega⟩, by omega, ?_⟩
      refine AXc.introP (fun h7 => ?_) (fun h7 => ?_)
      · have hj : j < (nthL ls i).length := by omega
        have at2 := cnts_at (nthL ls i) j hj
        simp (disch := (first | assumption | omega | (simp only [List.length_take, List.length_drop, List.length_append, List.length_set, List.length_replicate, List.length_cons, List.length_nil, len_nats, len_ints, len_strs] <;> omega))) only [go_sem, at1, at2, Nat.reduceBEq, Nat.reduceSub, Nat.reduceAdd, Nat.reduceMul, Nat.reduceLT, Nat.reduceLeDiff, Nat.reduceEqDiff, Int.reduceToNat, Int.reduceAdd, Int.reduceSub, Int.reduceMul, Int.reduceLT, Int.reduceLE, Int.reduceEq]
        refine ⟨⟨by omega, by omega⟩, by omega, ⟨by omega, by omega⟩, fun h => ⟨h, by omega, by omega⟩, fun h => ⟨h, by omega⟩, fun h => ⟨h, by omega, by omega⟩, ?_⟩
        have hb : (decide (100 < ((nthE (nthL ls i) j).1.1.length : Int)) || decide (100 < ((nthE (nthL ls i) j).1.2.length : Int))) = !entL (nthE (nthL ls i) j) := by
          unfold entL nameL
          by_cases k1 : (nthE (nthL ls i) j).1.1.length ≤ 100 <;> by_cases k2 : (nthE (nthL ls i) j).1.2.length ≤ 100 <;> simp [k1, k2] <;> omega
        rw [hb]
        cases hg : entL (nthE (nthL ls i) j) with
        | false =>
          simp (disch := (first | assumption | omega | (simp only [List.length_take, List.length_drop, List.length_append, List.length_set, List.length_replicate, List.length_cons, List.length_nil, len_nats, len_ints, len_strs] <;> omega))) only [go_sem, Nat.reduceBEq, Nat.reduceSub, Nat.reduceAdd, Nat.reduceMul, Nat.reduceLT, Nat.reduceLeDiff, Nat.reduceEqDiff, Int.reduceToNat, Int.reduceAdd, Int.reduceSub, Int.reduceMul, Int.reduceLT, Int.reduceLE, Int.reduceEq]
          have : listL (nthL ls i) = false := by unfold listL; rw [all_f hj hg, Bool.and_false]
          rw [allL_f hi this]; rfl
        | true =>
          simp (disch := (first | assumption | omega | (simp only [List.length_take, List.length_drop, List.length_append, List.length_set, List.length_replicate, List.length_cons, List.length_nil, len_nats, len_ints, len_strs] <;> omega))) only [go_sem, Nat.reduceBEq, Nat.reduceSub, Nat.reduceAdd, Nat.reduceMul, Nat.reduceLT, Nat.reduceLeDiff, Nat.reduceEqDiff, Int.reduceToNat, Int.reduceAdd, Int.reduceSub, Int.reduceMul, Int.reduceLT, Int.reduceLE, Int.reduceEq]
          refine loopK_norm (j + 1) ⟨by omega, fun k hk => ?_⟩ (by omega) (Sub.of0 [] rfl rfl ?_ ?_)
          · by_cases hkj : k < j
            · exact h6 k hkj
            · obtain rfl : k = j := by omega
              exact hg
          · simp only [go_sem, Nat.reduceBEq, Nat.reduceSub, Nat.reduceAdd, Nat.reduceMul, Nat.reduceLT, Nat.reduceLeDiff, Nat.reduceEqDiff, Int.reduceToNat, Int.reduceAdd, Int.reduceSub, Int.reduceMul, Int.reduceLT, Int.reduceLE, Int.reduceEq]
            refine ⟨pure_cellsL ls, ?_⟩
            simp
          · simp only [go_sem, Nat.reduceBEq, Nat.reduceSub, Nat.reduceAdd, Nat.reduceMul, Nat.reduceLT, Nat.reduceLeDiff, Nat.reduceEqDiff, Int.reduceToNat, Int.reduceAdd, Int.reduceSub, Int.reduceMul, Int.reduceLT, Int.reduceLE, Int.reduceEq]
      · simp only [go_sem, Nat.reduceBEq, Nat.reduceSub, Nat.reduceAdd, Nat.reduceMul, Nat.reduceLT, Nat.reduceLeDiff, Nat.reduceEqDiff, Int.reduceToNat, Int.reduceAdd, Int.reduceSub, Int.reduceMul, Int.reduceLT, Int.reduceLE, Int.reduceEq]
        refine AXa.go mixed (noΓ_ok) (noΔ_ok) (by kernel_rfl) ?_
        simp (disch := (first | assumption | omega | (simp only [List.length_take, List.length_drop, List.length_append, List.length_set, List.length_replicate, List.length_cons, List.length_nil, len_nats, len_ints, len_strs] <;> omega))) only [go_sem, Nat.reduceBEq, Nat.reduceSub, Nat.reduceAdd, Nat.reduceMul, Nat.reduceLT, Nat.reduceLeDiff, Nat.reduceEqDiff, Int.reduceToNat, Int.reduceAdd, Int.reduceSub, Int.reduceMul, Int.reduceLT, Int.reduceLE, Int.reduceEq]
        refine loopK_norm (i + 1) ⟨by omega, fun k hk => ?_⟩ (by omega) (Sub.of0 [] rfl rfl ?_ ?_)
        · by_cases hki : k < i
          · exact h2 k hki
          · obtain rfl : k = i := by omega
            unfold listL
            rw [decide_eq_true h4', all_t fun m hm => h6 m (by omega)]; rfl
        · simp only [go_sem, Nat.reduceBEq, Nat.reduceSub, Nat.reduceAdd, Nat.reduceMul, Nat.reduceLT, Nat.reduceLeDiff, Nat.reduceEqDiff, Int.reduceToNat, Int.reduceAdd, Int.reduceSub, Int.reduceMul, Int.reduceLT, Int.reduceLE, Int.reduceEq]
          refine ⟨pure_cellsL ls, ?_⟩
          simp
        · simp only [go_sem, Nat.reduceBEq, Nat.reduceSub, Nat.reduceAdd, Nat.reduceMul, Nat.reduceLT, Nat.reduceLeDiff, Nat.reduceEqDiff, Int.reduceToNat, Int.reduceAdd, Int.reduceSub, Int.reduceMul, Int.reduceLT, Int.reduceLE, Int.reduceEq]
  · have : i = ls.length := by omega
    subst this
    simp only [go_sem, Nat.reduceBEq, Nat.reduceSub, Nat.reduceAdd, Nat.reduceMul, Nat.reduceLT, Nat.reduceLeDiff, Nat.reduceEqDiff, Int.reduceToNat, Int.reduceAdd, Int.reduceSub, Int.reduceMul, Int.reduceLT, Int.reduceLE, Int.reduceEq]
    refine AXa.go mixed (noΓ_ok) (noΔ_ok) (by kernel_rfl) ?_
    simp (disch := (first | assumption | omega | (simp only [List.length_take, List.length_drop, List.length_append, List.length_set, List.length_replicate, List.length_cons, List.length_nil, len_nats, len_ints, len_strs] <;> omega))) only [go_sem, Nat.reduceBEq, Nat.reduceSub, Nat.reduceAdd, Nat.reduceMul, Nat.reduceLT, Nat.reduceLeDiff, Nat.reduceEqDiff, Int.reduceToNat, Int.reduceAdd, Int.reduceSub, Int.reduceMul, Int.reduceLT, Int.reduceLE, Int.reduceEq]
    rw [allL_t fun j hj => h2 j hj]; rfl
noncomputable def cLarge : List V → Option PR := conOf (fun ls : List (List Ent) => [.fs (cellsL ls) ls.length]) (fun ls => ls.length ≤ 1000) fun ls => .ret (.bool (!ls.all listL))
theorem cellsL_inj : ∀ {l r : List (List Ent)}, cellsL l = cellsL r → l = r
  | [], [], _ => rfl
  | [], e :: r, h => by simp [cellsL] at h
  | e :: l, [], h => by simp [cellsL] at h
  | e :: l, e' :: r, h => by
    simp only [cellsL, List.map_cons, List.cons.injEq, V.fs.injEq] at h
    rw [cnts_inj h.1.1, cellsL_inj h.2]
theorem cLarge_eq (a b c d : List Ent) : cLarge [.fs [.fs (cnts a) a.length, .fs (cnts b) b.length, .fs (cnts c) c.length, .fs (cnts d) d.length] 4] = some (.ret (.bool (!(listL a && (listL b && (listL c && listL d)))))) := by
  have := conOf_eq (pat := fun ls : List (List Ent) => [.fs (cellsL ls) ls.length]) (cond := fun ls => ls.length ≤ 1000) (res := fun ls => .ret (.bool (!ls.all listL))) (fun x y h => by simp at h; exact cellsL_inj h.1) [a, b, c, d] (by simp)
  simp only [List.all_cons, List.all_nil, Bool.and_true] at this
  exact this
theorem cLarge_ok : ∀ args r, cLarge args = some r → PCall Tryz.prog 11 args r := conOf_ok fun ls h => large_ok ls h
attribute [go_sem] cLarge_eq
noncomputable def cAwake : List V → Option PR := conOf (fun _ : Unit => []) (fun _ => True) fun _ => .ret (.bool true)
theorem cAwake_eq : cAwake [] = some (.ret (.bool true)) := conOf_eq (pat := fun _ : Unit => []) (fun _ _ _ => rfl) () trivial
theorem cAwake_ok : ∀ args r, cAwake args = some r → PCall Tryz.prog 7 args r := conOf_ok fun _ _ => awake_call
attribute [go_sem] cAwake_eq
abbrev Four := (List Ent × List Ent) × (List Ent × List Ent)
def pat4 (p : Four) : List V := [.agg [.fs (cnts p.1.1) p.1.1.length, .fs (cnts p.1.2) p.1.2.length], .agg [.fs (cnts p.2.1) p.2.1.length, .fs (cnts p.2.2) p.2.2.length]]
theorem pat4_inj (x y : Four) (h : pat4 x = pat4 y) : x = y := by
  simp only [pat4, List.cons.injEq, V.agg.injEq, V.fs.injEq, and_true] at h
  exact Prod.ext (Prod.ext (cnts_inj h.1.1.1) (cnts_inj h.1.2.1)) (Prod.ext (cnts_inj h.2.1.1) (cnts_inj h.2.2.1))
def resV (r : List Ent × List Ent × Int) : PR := .ret (.tup [.agg [.fs (cnts r.1) r.1.length, .fs (cnts r.2.1) r.2.1.length], .int .i64 r.2.2])
noncomputable def cMg : List V → Option PR := conOf pat4 (fun p => (p.1.1.length ≤ 1000000 ∧ p.1.2.length ≤ 1000000) ∧ p.2.1.length ≤ 1000000 ∧ p.2.2.length ≤ 1000000) fun p => resV (resMg p.1.1 p.1.2 p.2.1 p.2.2)
theorem cMg_eq (a1 a2 b1 b2 : List Ent) (h1 : a1.length ≤ 1000000) (h2 : a2.length ≤ 1000000) (h3 : b1.length ≤ 1000000) (h4 : b2.length ≤ 1000000) :
    cMg [.agg [.fs (cnts a1) a1.length, .fs (cnts a2) a2.length], .agg [.fs (cnts b1) b1.length, .fs (cnts b2) b2.length]] = some (resV (resMg a1 a2 b1 b2)) := conOf_eq pat4_inj ((a1, a2), (b1, b2)) ⟨⟨h1, h2⟩, h3, h4⟩
theorem cMg_ok : ∀ args r, cMg args = some r → PCall Tryz.prog 12 args r := conOf_ok fun p h => Merge_ok p.1.1 p.1.2 p.2.1 p.2.2 h.1.1 h.1.2 h.2.1 h.2.2
noncomputable def cRM : List V → Option PR := conOf pat4 (fun p => ((p.1.1.length ≤ 1000000 ∧ p.1.2.length ≤ 1000000) ∧ p.2.1.length ≤ 1000000 ∧ p.2.2.length ≤ 1000000) ∧ (shortL p.1.1 ∧ shortL p.1.2) ∧ shortL p.2.1 ∧ shortL p.2.2) fun p => resV (resR p.1.1 p.1.2 p.2.1 p.2.2)
theorem cRM_eq (a1 a2 b1 b2 : List Ent) (h1 : a1.length ≤ 1000000) (h2 : a2.length ≤ 1000000) (h3 : b1.length ≤ 1000000) (h4 : b2.length ≤ 1000000) (s1 : shortL a1) (s2 : shortL a2) (s3 : shortL b1) (s4 : shortL b2) :
    cRM [.agg [.fs (cnts a1) a1.length, .fs (cnts a2) a2.length], .agg [.fs (cnts b1) b1.length, .fs (cnts b2) b2.length]] = some (resV (resR a1 a2 b1 b2)) := conOf_eq pat4_inj ((a1, a2), (b1, b2)) ⟨⟨⟨h1, h2⟩, h3, h4⟩, ⟨s1, s2⟩, s3, s4⟩
theorem cRM_ok : ∀ args r, cRM args = some r → PCall Tryz.prog 13 args r := conOf_ok fun p h => rMerge_ok p.1.1 p.1.2 p.2.1 p.2.2 h.1.1.1 h.1.1.2 h.1.2.1 h.1.2.2 h.2.1.1 h.2.1.2 h.2.2.1 h.2.2.2
attribute [go_sem] cMg_eq cRM_eq
theorem listL_iff {l : List Ent} (h : listL l = true) : l.length ≤ 600 ∧ shortL l := by
  unfold listL at h
  simp only [Bool.and_eq_true, decide_eq_true_eq] at h
  refine ⟨h.1, fun e he => ?_⟩
  have := List.all_eq_true.1 h.2 e he
  unfold entL nameL at this
  simp only [Bool.and_eq_true, decide_eq_true_eq] at this
  exact ⟨by omega, by omega⟩
theorem resR_len (a1 a2 b1 b2 : List Ent) (h1 : a1.length ≤ 600) (h2 : a2.length ≤ 600) (h3 : b1.length ≤ 600) (h4 : b2.length ≤ 600) : (resR a1 a2 b1 b2).1.length ≤ 1000000 ∧ (resR a1 a2 b1 b2).2.1.length ≤ 1000000 := by
  have k1 := fold_ins_len b1 a1
  have k2 := fold_ins_len b2 a2
  unfold resR
  split
  · split
    · exact ⟨by show (b1.foldl ins a1).length ≤ _; omega, by show (b2.foldl ins a2).length ≤ _; omega⟩
    · exact ⟨by simp, by simp⟩
  · exact ⟨by simp, by simp⟩
set_option maxHeartbeats 4000000 in
set_option maxRecDepth 100000 in
theorem merges_ok (a1 a2 b1 b2 : List Ent) : PCall Tryz.prog 4 [.agg [.fs (cnts a1) a1.length, .fs (cnts a2) a2.length], .agg [.fs (cnts b1) b1.length, .fs (cnts b2) b2.length]] (.ret (.bool true)) := by
  refine PCall.walk (rs := [.tmp 4]) [0, 1, 2, 3, 4, 5, 6, 7, 8, 9, 10, 20] [] mixed (extΓ_ok cLarge_ok (extΓ_ok cAwake_ok (extΓ_ok cMg_ok (extΓ_ok cRM_ok (extΓ_ok cSameC_ok noΓ_ok))))) (noΔ_ok) call4 Tryz.func4 rfl Tryz.ntmps4 rfl (by kernel_rfl) (by simp) (by simp [pure_bool, pure_int, pure_str, pure_fs, pure_fp, pure_fn, pure_agg, pure_tup, pure_nilS, pure_nilP, pure_natsP, pure_intsP, pure_strsP, pure_list, pure_cntsP]) ?_
  simp (disch := (first | assumption | omega | (simp only [List.length_take, List.length_drop, List.length_append, List.length_set, List.length_replicate, List.length_cons, List.length_nil, len_nats, len_ints, len_strs] <;> omega))) only [go_sem, Nat.reduceBEq, Nat.reduceSub, Nat.reduceAdd, Nat.reduceMul, Nat.reduceLT, Nat.reduceLeDiff, Nat.reduceEqDiff, Int.reduceToNat, Int.reduceAdd, Int.reduceSub, Int.reduceMul, Int.reduceLT, Int.reduceLE, Int.reduceEq]
  cases hb : (listL a1 && (listL a2 && (listL b1 && listL b2))) with
  | false => simp (disch := (first | assumption | omega | (simp only [List.length_take, List.length_drop, List.length_append, List.length_set, List.length_replicate, List.length_cons, List.length_nil, len_nats, len_ints, len_strs] <;> omega))) only [go_sem, Nat.reduceBEq, Nat.reduceSub, Nat.reduceAdd, Nat.reduceMul, Nat.reduceLT, Nat.reduceLeDiff, Nat.reduceEqDiff, Int.reduceToNat, Int.reduceAdd, Int.reduceSub, Int.reduceMul, Int.reduceLT, Int.reduceLE, Int.reduceEq]
  | true =>
    have hb' : listL a1 = true ∧ listL a2 = true ∧ listL b1 = true ∧ listL b2 = true := by simpa using hb
    obtain ⟨m1, s1⟩ := listL_iff hb'.1
    obtain ⟨m2, s2⟩ := listL_iff hb'.2.1
    obtain ⟨m3, s3⟩ := listL_iff hb'.2.2.1
    obtain ⟨m4, s4⟩ := listL_iff hb'.2.2.2
    have e1 := resMg_eq a1 a2 b1 b2 s1 s2 s3 s4
    have e3 := (resMg_eq b1 b2 a1 a2 s3 s4 s1 s2).trans (resR_comm a1 a2 b1 b2 s1 s2 s3 s4)
    obtain ⟨n1, n2⟩ := resR_len a1 a2 b1 b2 m1 m2 m3 m4
    generalize hR : resR a1 a2 b1 b2 = R at e1 e3 n1 n2
    simp (disch := (first | assumption | omega | (simp only [List.length_take, List.length_drop, List.length_append, List.length_set, List.length_replicate, List.length_cons, List.length_nil, len_nats, len_ints, len_strs] <;> omega))) only [go_sem, e1, e3, hR, resV, Nat.reduceBEq, Nat.reduceSub, Nat.reduceAdd, Nat.reduceMul, Nat.reduceLT, Nat.reduceLeDiff, Nat.reduceEqDiff, Int.reduceToNat, Int.reduceAdd, Int.reduceSub, Int.reduceMul, Int.reduceLT, Int.reduceLE, Int.reduceEq]
end Go.Proofs
