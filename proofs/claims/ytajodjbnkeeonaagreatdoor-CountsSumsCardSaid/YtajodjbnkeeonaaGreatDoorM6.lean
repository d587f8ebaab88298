/- A map's counts in their order. -/
import Derived.Test.YtajodjbnkeeonaaGreatDoorM5
import Derived.Test.YtajodjbnkeeonaaGreatDoorK1Ev
set_option linter.unusedSimpArgs false
set_option linter.unusedVariables false
namespace Go.Proofs
open Go.Ab Go.Cnt
noncomputable def Δs : FuncId → List V → Hp → Option AR := extΔ 41 (conD SortR) noΔ
theorem Δs_ok : GoodΔ Tryz.prog Δs := extΔ_ok (conD_ok sortR_ok) noΔ_ok
def colV (l : List Ent) : V := match l with | [] => .nilS | _ => .sl 2 0 l.length 3 none
def colBs (l : List Ent) (bs : List (Nat × Blk)) : List (Nat × Blk) := match l with | [] => bs | _ => (2, .cells (cnts l)) :: bs
def leftOK (m col : List Ent) (left : List Nat) : Prop := left.Nodup ∧ (∀ i ∈ left, i < m.length) ∧ (col ++ left.map (nthE m)).Perm m
theorem stm_eq : ∀ (k : Nat) (m : List Ent), (mpF k m).map (·.1) = (List.range m.length).map (k + ·)
  | k, [] => rfl
  | k, e :: m => by
    rw [mpF, List.map_cons, stm_eq (k + 1) m, List.length_cons, List.range_succ_eq_map, List.map_cons, List.map_map]
    simp only [Nat.add_zero, List.cons.injEq, true_and]
    apply List.map_congr_left
    intro i _
    show k + 1 + i = k + (i + 1)
    omega
theorem stm_mem {m : List Ent} {i : Nat} : i ∈ (mpF 0 m).map (·.1) ↔ i < m.length := by
  rw [stm_eq]; simp
theorem nthE_cons (e : Ent) (m : List Ent) (i : Nat) : nthE (e :: m) (i + 1) = nthE m i := by simp [nthE]
theorem map_nthE : ∀ m : List Ent, (List.range m.length).map (nthE m) = m
  | [] => rfl
  | e :: m => by
    rw [List.length_cons, List.range_succ_eq_map, List.map_cons, List.map_map]
    have : (List.range m.length).map (nthE (e :: m) ∘ Nat.succ) = (List.range m.length).map (nthE m) := List.map_congr_left fun i _ => nthE_cons e m i
    rw [this, map_nthE m]
    rfl
theorem left_start (m : List Ent) : leftOK m [] ((mpF 0 m).map (·.1)) := by
  refine ⟨?_, fun i h => stm_mem.1 h, ?_⟩
  · rw [stm_eq]; simpa using List.nodup_range
  · rw [stm_eq]
    have : (List.range m.length).map (0 + ·) = List.range m.length := by simp
    rw [this, List.nil_append, map_nthE]
theorem mpF_mem : ∀ (k : Nat) (m : List Ent) (e : Nat × V × V), e ∈ mpF k m → ∃ i, i < m.length ∧ e = (k + i, .agg [.str (nthE m i).1.1, .str (nthE m i).1.2], .int .i64 (nthE m i).2)
  | _, [], e, h => by cases h
  | k, a :: m, e, h => by
    rw [mpF] at h
    rcases List.mem_cons.1 h with rfl | h
    · exact ⟨0, by simp, rfl⟩
    · obtain ⟨i, hi, rfl⟩ := mpF_mem (k + 1) m e h
      exact ⟨i + 1, by simpa using hi, by rw [nthE_cons, show k + 1 + i = k + (i + 1) by omega]⟩
theorem findBorn_mpF : ∀ (k : Nat) (m : List Ent) (i : Nat), i < m.length → findBorn (k + i) (mpF k m) = some (.agg [.str (nthE m i).1.1, .str (nthE m i).1.2], .int .i64 (nthE m i).2)
  | _, [], _, h => by simp at h
  | k, a :: m, 0, _ => by
    unfold mpF findBorn
    rw [show Nat.beq (k, V.agg [.str a.1.1, .str a.1.2], V.int .i64 a.2).1 (k + 0) = true by simp]
    rfl
  | k, a :: m, i + 1, h => by
    unfold mpF findBorn
    rw [show Nat.beq (k, V.agg [.str a.1.1, .str a.1.2], V.int .i64 a.2).1 (k + (i + 1)) = false by
      show Nat.beq k (k + (i + 1)) = false
      cases e : Nat.beq k (k + (i + 1)) with
      | false => rfl
      | true => have := Nat.eq_of_beq_eq_true e; omega]
    show findBorn (k + (i + 1)) (mpF (k + 1) m) = _
    rw [show k + (i + 1) = k + 1 + i by omega, findBorn_mpF (k + 1) m i (by simpa using h), nthE_cons]
theorem left_nil {m col : List Ent} {left : List Nat} (h : leftOK m col left) (hn : ∀ e ∈ mpF 0 m, left.contains e.1 = false) : col.Perm m := by
  have hl : left = [] := by
    cases left with
    | nil => rfl
    | cons i r =>
      have hi := h.2.1 i (List.mem_cons_self ..)
      obtain ⟨e, he, hei⟩ := List.mem_map.1 (stm_mem.2 hi)
      have := hn e he
      rw [hei] at this
      simp at this
  have := h.2.2
  rw [hl] at this
  simpa using this
theorem filter_ne (left : List Nat) (i : Nat) : (left.filter fun n => !Nat.beq n i) = left.filter (fun n => decide (n ≠ i)) := by
  apply List.filter_congr
  intro n _
  by_cases h : n = i
  · subst h; simp
  · cases e : Nat.beq n i with
    | true => exact absurd (Nat.eq_of_beq_eq_true e) h
    | false => simp [h]
theorem left_perm {left : List Nat} {i : Nat} (hn : left.Nodup) (hi : i ∈ left) : left.Perm (i :: left.filter fun n => decide (n ≠ i)) := by
  induction left with
  | nil => cases hi
  | cons a l ih =>
    have hn' := List.nodup_cons.1 hn
    by_cases ha : a = i
    · subst ha
      rw [List.filter_cons_of_neg (by simp), List.filter_eq_self.2 (fun x hx => by simp; rintro rfl; exact hn'.1 hx)]
    · have hil : i ∈ l := by rcases List.mem_cons.1 hi with h | h; exact absurd h.symm ha; exact h
      rw [List.filter_cons_of_pos (by simpa using ha)]
      exact ((ih hn'.2 hil).cons a).trans (.swap ..)
theorem left_step {m col : List Ent} {left : List Nat} {i : Nat} (h : leftOK m col left) (hi : left.contains i = true) : leftOK m (col ++ [nthE m i]) (left.filter fun n => !Nat.beq n i) ∧ (left.filter fun n => !Nat.beq n i).length < left.length := by
  have hi' : i ∈ left := by simpa using hi
  have hp := left_perm h.1 hi'
  rw [filter_ne]
  refine ⟨⟨h.1.filter _, fun j hj => h.2.1 j (List.mem_filter.1 hj).1, ?_⟩, by have := hp.length_eq; simp only [List.length_cons] at this; omega⟩
  rw [List.append_assoc, List.singleton_append, ← List.map_cons]
  exact ((hp.symm.map (nthE m)).append_left col).trans h.2.2
theorem srt_congr {l m : List Ent} (hm : Dif m) (h : l.Perm m) : srt l = srt m :=
  Inc.perm_eq (srt_inc l) (srt_inc m) ((srt_perm (hm.perm h.symm)).trans (h.trans (srt_perm hm).symm))
set_option maxHeartbeats 4000000 in
theorem sorted_ok (m : List Ent) (hm : Dif m) (hl : m.length ≤ 1000000) (hne : 0 < m.length) : NCall Tryz.prog 23 [.map 0] [.mp (mpF 0 m) m.length] []
    (.sl 1 0 m.length 3 none) ⟨[(1, .cells (cnts (srt m))), (0, .mp (mpF 0 m) m.length)], 2⟩ := by
  refine NCall.walk (rs := [.tmp 2]) [0, 2, 3, 4, 6, 8] [] 1 mixed (noΓ_ok) (Δs_ok) call23 Tryz.func23 rfl Tryz.ntmps23 rfl (by kernel_rfl) (by simp) (by simp) (by simp) ?_
  simp only [go_sem, Nat.reduceBEq, Nat.reduceSub, Nat.reduceAdd, Nat.reduceMul, Nat.reduceLT, Nat.reduceLeDiff, Nat.reduceEqDiff, Int.reduceToNat, Int.reduceAdd, Int.reduceSub, Int.reduceMul, Int.reduceLT, Int.reduceLE, Int.reduceEq]
  refine AXs.loop mixed (noΓ_ok) ( Δs_ok) (fun p : List Ent × List Nat × Option Nat => [(2, colV p.1), (6, .ptr 1 0)]) (fun p => ⟨colBs p.1 [(1, .it (some 0) ((mpF 0 m).map (·.1)) p.2.1 m.length m.length p.2.2), (0, .mp (mpF 0 m) m.length)], 3⟩) (fun p => leftOK m p.1 p.2.1) (fun p => p.2.1.length)
    ([], (mpF 0 m).map (·.1), none) (by kernel_rfl) (left_start m) (Sub.of [] rfl ?_ ?_ (by decide) (fun b hb _ => ?_)) ?_
  · simp only [go_sem, colV, Nat.reduceBEq, Nat.reduceSub, Nat.reduceAdd, Nat.reduceMul, Nat.reduceLT, Nat.reduceLeDiff, Nat.reduceEqDiff, Int.reduceToNat, Int.reduceAdd, Int.reduceSub, Int.reduceMul, Int.reduceLT, Int.reduceLE, Int.reduceEq]
  · simp only [go_sem, colBs, Nat.reduceBEq, Nat.reduceSub, Nat.reduceAdd, Nat.reduceMul, Nat.reduceLT, Nat.reduceLeDiff, Nat.reduceEqDiff, Int.reduceToNat, Int.reduceAdd, Int.reduceSub, Int.reduceMul, Int.reduceLT, Int.reduceLE, Int.reduceEq]
    exact rnb_mp m m _ _ rfl rfl
  · obtain rfl : b = 0 := Nat.lt_one_iff.1 hb
    rfl
  rintro ⟨col, left, cur⟩ hp
  dsimp only at hp ⊢
  rcases col with _ | ⟨c0, col⟩
  · simp only [go_sem, colV, colBs, Nat.reduceBEq, Nat.reduceSub, Nat.reduceAdd, Nat.reduceMul, Nat.reduceLT, Nat.reduceLeDiff, Nat.reduceEqDiff, Int.reduceToNat, Int.reduceAdd, Int.reduceSub, Int.reduceMul, Int.reduceLT, Int.reduceLE, Int.reduceEq]
    refine AXw.intro rfl rfl rfl (Nat.le_refl _) (fun x hx => stm_mem.1 hx) (Nat.le_refl _) (fun h0 => ?_) (fun e he h1 => ?_)
    · have := (left_nil hp h0).length_eq
      simp at this; omega
    · obtain ⟨i, hi, rfl⟩ := mpF_mem 0 m e he
      rw [Nat.zero_add] at h1 ⊢
      have hf := findBorn_mpF 0 m i hi
      rw [Nat.zero_add] at hf
      simp (disch := (first | assumption | omega | (simp only [List.length_take, List.length_drop, List.length_append, List.length_set, List.length_replicate, List.length_cons, List.length_nil, len_nats, len_ints, len_strs] <;> omega))) only [go_sem, hf, List.getElem?_cons_zero, List.getElem?_cons_succ, Nat.reduceBEq, Nat.reduceSub, Nat.reduceAdd, Nat.reduceMul, Nat.reduceLT, Nat.reduceLeDiff, Nat.reduceEqDiff, Int.reduceToNat, Int.reduceAdd, Int.reduceSub, Int.reduceMul, Int.reduceLT, Int.reduceLE, Int.reduceEq]
      have hs := left_step hp h1
      refine loopK_norm ([nthE m i], left.filter (fun n => !Nat.beq n i), some i) hs.1 hs.2 (Sub.of [(2, 5)] rfl ?_ ?_ (by decide) (fun b hb _ => ?_))
      · simp only [go_sem, Nat.reduceBEq, Nat.reduceSub, Nat.reduceAdd, Nat.reduceMul, Nat.reduceLT, Nat.reduceLeDiff, Nat.reduceEqDiff, Int.reduceToNat, Int.reduceAdd, Int.reduceSub, Int.reduceMul, Int.reduceLT, Int.reduceLE, Int.reduceEq]
      · simp only [go_sem, cnts_cons, cnts_nil, Nat.reduceBEq, Nat.reduceSub, Nat.reduceAdd, Nat.reduceMul, Nat.reduceLT, Nat.reduceLeDiff, Nat.reduceEqDiff, Int.reduceToNat, Int.reduceAdd, Int.reduceSub, Int.reduceMul, Int.reduceLT, Int.reduceLE, Int.reduceEq]
        exact rnb_mp m m _ _ rfl rfl
      · obtain rfl : b = 0 := Nat.lt_one_iff.1 hb
        rfl
  · simp only [go_sem, colV, colBs, Nat.reduceBEq, Nat.reduceSub, Nat.reduceAdd, Nat.reduceMul, Nat.reduceLT, Nat.reduceLeDiff, Nat.reduceEqDiff, Int.reduceToNat, Int.reduceAdd, Int.reduceSub, Int.reduceMul, Int.reduceLT, Int.reduceLE, Int.reduceEq]
    refine AXw.intro rfl rfl rfl (Nat.le_refl _) (fun x hx => stm_mem.1 hx) (Nat.le_refl _) (fun h0 => ?_) (fun e he h1 => ?_)
    · simp only [go_sem, Nat.reduceBEq, Nat.reduceSub, Nat.reduceAdd, Nat.reduceMul, Nat.reduceLT, Nat.reduceLeDiff, Nat.reduceEqDiff, Int.reduceToNat, Int.reduceAdd, Int.reduceSub, Int.reduceMul, Int.reduceLT, Int.reduceLE, Int.reduceEq]
      refine AXa.go mixed (noΓ_ok) ( Δs_ok) (by kernel_rfl) ?_
      have hpm := left_nil hp h0
      have hS : Δs 41 [.sl 2 0 (col.length + 1) 3 none, .fn 42 []] ⟨[(2, .cells (cnts (c0 :: col))), (0, .mp (mpF 0 m) m.length)], 3⟩ = _ :=
        sortR_eq (b := 2) (n := col.length + 1) (l := c0 :: col) (H := ⟨[(2, .cells (cnts (c0 :: col))), (0, .mp (mpF 0 m) m.length)], 3⟩) rfl rfl (hm.perm hpm.symm) (by have := hpm.length_eq; omega)
      simp only [go_sem, hS, Nat.reduceBEq, Nat.reduceSub, Nat.reduceAdd, Nat.reduceMul, Nat.reduceLT, Nat.reduceLeDiff, Nat.reduceEqDiff, Int.reduceToNat, Int.reduceAdd, Int.reduceSub, Int.reduceMul, Int.reduceLT, Int.reduceLE, Int.reduceEq]
      have hlen := hpm.length_eq
      refine ⟨[(2, .sl 1 0 m.length 3 none)], Sub.of [(1, 2)] rfl ?_ ?_ (Nat.le_succ _) (fun b hb _ => ?_), rfl⟩
      · simp only [go_sem, Nat.reduceBEq, Nat.reduceSub, Nat.reduceAdd, Nat.reduceMul, Nat.reduceLT, Nat.reduceLeDiff, Nat.reduceEqDiff, Int.reduceToNat, Int.reduceAdd, Int.reduceSub, Int.reduceMul, Int.reduceLT, Int.reduceLE, Int.reduceEq]
        simp only [List.length_cons] at hlen
        exact hlen
      · rw [srt_congr hm hpm]
        simp only [go_sem, Nat.reduceBEq, Nat.reduceSub, Nat.reduceAdd, Nat.reduceMul, Nat.reduceLT, Nat.reduceLeDiff, Nat.reduceEqDiff, Int.reduceToNat, Int.reduceAdd, Int.reduceSub, Int.reduceMul, Int.reduceLT, Int.reduceLE, Int.reduceEq]
        exact rnb_mp m m _ _ rfl rfl
      · obtain rfl : b = 0 := Nat.lt_one_iff.1 hb
        rfl
    · obtain ⟨i, hi, rfl⟩ := mpF_mem 0 m e he
      rw [Nat.zero_add] at h1 ⊢
      have hf := findBorn_mpF 0 m i hi
      rw [Nat.zero_add] at hf
      simp (disch := (first | assumption | omega | (simp only [List.length_take, List.length_drop, List.length_append, List.length_set, List.length_replicate, List.length_cons, List.length_nil, len_nats, len_ints, len_strs] <;> omega))) only [go_sem, hf, List.getElem?_cons_zero, List.getElem?_cons_succ, Nat.reduceBEq, Nat.reduceSub, Nat.reduceAdd, Nat.reduceMul, Nat.reduceLT, Nat.reduceLeDiff, Nat.reduceEqDiff, Int.reduceToNat, Int.reduceAdd, Int.reduceSub, Int.reduceMul, Int.reduceLT, Int.reduceLE, Int.reduceEq]
      have hs := left_step hp h1
      have hlen := hp.2.2.length_eq
      simp only [List.length_append, List.length_cons] at hlen
      refine ⟨by omega, loopK_norm (c0 :: (col ++ [nthE m i]), left.filter (fun n => !Nat.beq n i), some i) hs.1 hs.2 (Sub.of [(2, 5)] rfl ?_ ?_ (by decide) (fun b hb _ => ?_))⟩
      · simp only [go_sem, Nat.reduceBEq, Nat.reduceSub, Nat.reduceAdd, Nat.reduceMul, Nat.reduceLT, Nat.reduceLeDiff, Nat.reduceEqDiff, Int.reduceToNat, Int.reduceAdd, Int.reduceSub, Int.reduceMul, Int.reduceLT, Int.reduceLE, Int.reduceEq]
        simp
      · simp only [go_sem, Nat.reduceBEq, Nat.reduceSub, Nat.reduceAdd, Nat.reduceMul, Nat.reduceLT, Nat.reduceLeDiff, Nat.reduceEqDiff, Int.reduceToNat, Int.reduceAdd, Int.reduceSub, Int.reduceMul, Int.reduceLT, Int.reduceLE, Int.reduceEq]
        refine ⟨?_, rnb_mp m m _ _ rfl rfl⟩
        rw [List.take_of_length_le (by rw [len_cnts]; simp)]
        have e : cnts (c0 :: (col ++ [nthE m i])) = cnts (c0 :: col) ++ [V.str (nthE m i).1.1, V.str (nthE m i).1.2, V.int .i64 (nthE m i).2] := by
          rw [← List.cons_append, cnts_append]; rfl
        rw [← e]
        exact lrel_same (pure_cnts _)
      · obtain rfl : b = 0 := Nat.lt_one_iff.1 hb
        rfl
theorem sortNil : PCall Tryz.prog 41 [.fs [] 0, .fn 42 []] (.ret (.tup [])) :=
  eAns_ok mixed0 Γ1_ok (canL_ok can1) (spec1_ok rfl) (fun x hx => by
    simp only [List.mem_cons, List.not_mem_nil, or_false] at hx
    rcases hx with rfl | rfl
    · exact .fs fun _ h => nomatch h
    · exact .fn fun _ h => nomatch h) (by kernel_rfl : eAns E1 Tryz.prog 60 41 [.fs [] 0, .fn 42 []] = some (.tup []))
noncomputable def cSortNil : List V → Option PR := conOf (fun _ : Unit => [.fs [] 0, .fn 42 []]) (fun _ => True) fun _ => .ret (.tup [])
theorem cSortNil_eq : cSortNil [.fs [] 0, .fn 42 []] = some (.ret (.tup [])) := conOf_eq (pat := fun _ : Unit => [.fs [] 0, .fn 42 []]) (fun _ _ _ => rfl) () trivial
theorem cSortNil_ok : ∀ args r, cSortNil args = some r → PCall Tryz.prog 41 args r := conOf_ok fun _ _ => sortNil
attribute [go_sem] cSortNil_eq
theorem sorted0_ok : NCall Tryz.prog 23 [.map 0] [.mp (mpF 0 []) 0] [] .nilS ⟨[(0, .mp (mpF 0 []) 0)], 1⟩ := by
  refine NCall.walk (rs := [.tmp 2]) [0, 2, 3, 4, 6, 8] [] 1 mixed (extΓ_ok cSortNil_ok noΓ_ok) (noΔ_ok) call23 Tryz.func23 rfl Tryz.ntmps23 rfl (by kernel_rfl) (by simp) (by simp) (by simp) ?_
  simp only [go_sem, Nat.reduceBEq, Nat.reduceSub, Nat.reduceAdd, Nat.reduceMul, Nat.reduceLT, Nat.reduceLeDiff, Nat.reduceEqDiff, Int.reduceToNat, Int.reduceAdd, Int.reduceSub, Int.reduceMul, Int.reduceLT, Int.reduceLE, Int.reduceEq]
  refine AXs.rounds mixed (extΓ_ok cSortNil_ok noΓ_ok) noΔ_ok [] (by kernel_rfl) ?_
  simp only [go_sem, Nat.reduceBEq, Nat.reduceSub, Nat.reduceAdd, Nat.reduceMul, Nat.reduceLT, Nat.reduceLeDiff, Nat.reduceEqDiff, Int.reduceToNat, Int.reduceAdd, Int.reduceSub, Int.reduceMul, Int.reduceLT, Int.reduceLE, Int.reduceEq]
  refine AXw.intro rfl rfl rfl (Nat.le_refl _) (fun x hx => by simp [mpF] at hx) (Nat.le_refl _) (fun h0 => ?_) (fun e he h1 => by simp [mpF] at he)
  simp only [go_sem, Nat.reduceBEq, Nat.reduceSub, Nat.reduceAdd, Nat.reduceMul, Nat.reduceLT, Nat.reduceLeDiff, Nat.reduceEqDiff, Int.reduceToNat, Int.reduceAdd, Int.reduceSub, Int.reduceMul, Int.reduceLT, Int.reduceLE, Int.reduceEq]
  refine AXa.go mixed (extΓ_ok cSortNil_ok noΓ_ok) (noΔ_ok) (by kernel_rfl) ?_
  simp only [go_sem, Nat.reduceBEq, Nat.reduceSub, Nat.reduceAdd, Nat.reduceMul, Nat.reduceLT, Nat.reduceLeDiff, Nat.reduceEqDiff, Int.reduceToNat, Int.reduceAdd, Int.reduceSub, Int.reduceMul, Int.reduceLT, Int.reduceLE, Int.reduceEq]
  refine ⟨[(2, .nilS)], Sub.of [] rfl ?_ ?_ (Nat.le_refl _) (fun b hb _ => ?_), rfl⟩
  · simp only [go_sem, Nat.reduceBEq, Nat.reduceSub, Nat.reduceAdd, Nat.reduceMul, Nat.reduceLT, Nat.reduceLeDiff, Nat.reduceEqDiff, Int.reduceToNat, Int.reduceAdd, Int.reduceSub, Int.reduceMul, Int.reduceLT, Int.reduceLE, Int.reduceEq]
  · simp only [go_sem, Nat.reduceBEq, Nat.reduceSub, Nat.reduceAdd, Nat.reduceMul, Nat.reduceLT, Nat.reduceLeDiff, Nat.reduceEqDiff, Int.reduceToNat, Int.reduceAdd, Int.reduceSub, Int.reduceMul, Int.reduceLT, Int.reduceLE, Int.reduceEq]
    exact rnb_mp [] [] 0 0 rfl rfl
  · obtain rfl : b = 0 := Nat.lt_one_iff.1 hb
    rfl
def SortedR (args : List V) (H : Hp) (r : AR) : Prop :=
  ∃ (b : Nat) (m : List Ent), args = [.map b] ∧ H.get b = some (.mp (mpF 0 m) m.length) ∧ Dif m ∧ m.length ≤ 1000000 ∧ (∀ b x, H.get b = some x → b < H.next) ∧
    r = if m.length = 0 then ⟨True, .nilS, H, [b], []⟩ else ⟨True, .sl H.next 0 m.length 3 none, ⟨(H.next, .cells (cnts (srt m))) :: H.bs, H.next + 1⟩, [b], []⟩
theorem mpF_inj : ∀ {i : Nat} {l r : List Ent}, mpF i l = mpF i r → l = r
  | _, [], [], _ => rfl
  | _, [], _ :: _, h => by rw [mpF, mpF] at h; cases h
  | _, _ :: _, [], h => by rw [mpF, mpF] at h; cases h
  | i, a :: l, b :: r, h => by
    rw [mpF, mpF] at h
    simp only [List.cons.injEq, Prod.mk.injEq, true_and, V.agg.injEq, V.str.injEq, V.int.injEq, and_true] at h
    obtain ⟨⟨⟨h1, h2⟩, h3⟩, h4⟩ := h
    rw [mpF_inj h4]
    congr 1
    exact Prod.ext (Prod.ext h1 h2) h3
theorem sortedR_ok : ∀ args H r, SortedR args H r → HCall Tryz.prog 23 args H r := by
  rintro args H r ⟨b, m, rfl, hb, hm, hl, hk, rfl⟩
  have hF' : ∀ (i : Nat) (x : Blk), ([Blk.mp (mpF 0 m) m.length] : List Blk)[i]? = some x → ∀ π N, RnB π N x x := by
    intro i x hx π N
    match i with
    | 0 => cases hx; exact rnb_mp m m _ _ rfl rfl
    | i + 1 => simp at hx
  have hF : ∀ (i : Nat) (x : Blk), ([Blk.mp (mpF 0 m) m.length] : List Blk)[i]? = some x → ∃ b', [b][i]? = some b' ∧ H.get b' = some x ∧ RnB (fun i => [b].getD i 0) (· < 1) x x := by
    intro i x hx
    match i with
    | 0 => exact ⟨b, rfl, by cases hx; exact hb, hF' 0 x hx _ _⟩
    | i + 1 => simp at hx
  have hargs : LRel (Rn (fun i => [b].getD i 0) (· < 1)) [V.map 0] [.map b] := by
    refine ⟨rfl, fun i x y hx hy => ?_⟩
    match i with
    | 0 => cases hx; cases hy; exact .map (π := fun i => [b].getD i 0) (b := 0) (Nat.lt_one_iff.2 rfl)
    | i + 1 => simp at hx
  by_cases h0 : m.length = 0
  · rw [if_pos h0]
    obtain rfl : m = [] := List.eq_nil_of_length_eq_zero h0
    exact HCall.none sorted0_ok .nilS [b] _ H rfl (by simp) hargs hF hF' hk
  · rw [if_neg h0]
    exact HCall.fresh (F := [.mp (mpF 0 m) m.length]) (sorted_ok m hm hl (by omega)) (pure_cnts _) [b] _ H rfl (by simp) hargs hF hF' hk
theorem sortedR_eq (b : Nat) (m : List Ent) (bs : List (Nat × Blk)) (nx : Nat) (hb : lookB bs b = some (.mp (mpF 0 m) m.length)) (hm : Dif m) (hl : m.length ≤ 1000000) (hk : ((keysB bs).all fun b => decide (b < nx)) = true) :
    conD SortedR [.map b] ⟨bs, nx⟩ = some (if m.length = 0 then ⟨True, .nilS, ⟨bs, nx⟩, [b], []⟩ else ⟨True, .sl nx 0 m.length 3 none, ⟨(nx, .cells (cnts (srt m))) :: bs, nx + 1⟩, [b], []⟩) := by
  have hg : (⟨bs, nx⟩ : Hp).get b = some (.mp (mpF 0 m) m.length) := (lookB_eq bs b).trans hb
  refine conD_eq ⟨b, m, rfl, hg, hm, hl, keysLt hk, rfl⟩ ?_
  rintro r' ⟨b', m', he, hb', _, _, _, rfl⟩
  simp only [List.cons.injEq, V.map.injEq, and_true] at he
  subst he
  rw [hg] at hb'
  simp only [Option.some.injEq, Blk.mp.injEq] at hb'
  rw [mpF_inj hb'.1]
end Go.Proofs
