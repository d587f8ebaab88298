/- A count put into a list in its order, as the reference does. -/
import Derived.Test.YtajodjbnkeeonaaGreatDoorM4
import Derived.Test.YtajodjbnkeeonaaGreatDoorM7
set_option linter.unusedSimpArgs false
set_option linter.unusedVariables false
namespace Go.Proofs
open Go.Ab Go.Cnt
def placed (l : List Ent) (k : Key) (p : Nat) : Prop := p ≤ l.length ∧ (∀ j, j < p → lt (nthE l j).1 k = true) ∧ ∀ j, p ≤ j → j < l.length → lt (nthE l j).1 k = false
theorem inc_nth {l : List Ent} (h : Inc l) {i j : Nat} (hij : i < j) (hj : j < l.length) : lt (nthE l i).1 (nthE l j).1 = true := by
  have := List.pairwise_iff_getElem.1 h i j (by omega) hj hij
  unfold nthE
  rw [List.getD_eq_getElem?_getD, List.getD_eq_getElem?_getD, List.getElem?_eq_getElem (by omega), List.getElem?_eq_getElem hj]
  exact this
theorem ins_at : ∀ (l : List Ent) (x : Ent) (p : Nat), placed l x.1 p → (p < l.length ∧ (nthE l p).1 = x.1 → ins l x = l.set p ((nthE l p).1, (nthE l p).2 + x.2)) ∧ (¬ (p < l.length ∧ (nthE l p).1 = x.1) → ins l x = l.take p ++ x :: l.drop p)
  | [], x, p, h => by
    have hp : p = 0 := by have := h.1; simpa using this
    subst hp
    simp [ins]
  | e :: l, x, 0, h => by
    have h0 : lt e.1 x.1 = false := h.2.2 0 (Nat.le_refl _) (by simp)
    rw [ins, h0]
    simp only [Bool.false_eq_true, if_false]
    constructor
    · rintro ⟨_, he⟩
      have he' : e.1 = x.1 := he
      rw [if_pos he']; rfl
    · intro hn
      have he' : ¬ e.1 = x.1 := fun he => hn ⟨by simp, he⟩
      rw [if_neg he']; rfl
  | e :: l, x, p + 1, h => by
    have h0 : lt e.1 x.1 = true := h.2.1 0 (by omega)
    obtain ⟨k1, k2⟩ := ins_at l x p ⟨by have := h.1; simpa using this, fun j hj => by have := h.2.1 (j + 1) (by omega); rwa [nthE_cons] at this, fun j hj hl => by have := h.2.2 (j + 1) (by omega) (by simpa using hl); rwa [nthE_cons] at this⟩
    rw [ins, h0]
    simp only [if_true, nthE_cons, List.length_cons, List.set_cons_succ, List.take_succ_cons, List.drop_succ_cons, List.cons_append]
    constructor
    · rintro ⟨a, b⟩; rw [k1 ⟨by omega, b⟩]
    · intro hn; rw [k2 fun ⟨a, b⟩ => hn ⟨by omega, b⟩]
theorem cnts_set : ∀ (l : List Ent) (i : Nat) (e : Ent), i < l.length → (cnts l).take (i * 3) ++ (entV e ++ (cnts l).drop (i * 3 + 3)) = cnts (l.set i e)
  | [], _, _, h => by simp at h
  | a :: l, 0, e, _ => rfl
  | a :: l, i + 1, e, h => by
    rw [cnts_cons, List.set_cons_succ, cnts_cons, ← cnts_set l i e (by simpa using h)]
    rw [show (i + 1) * 3 = i * 3 + 1 + 1 + 1 by omega, show i * 3 + 1 + 1 + 1 + 3 = i * 3 + 3 + 1 + 1 + 1 by omega]
    simp only [List.take_succ_cons, List.drop_succ_cons, List.cons_append]
theorem cnts_set2 : ∀ (l : List Ent) (i : Nat) (n : Int), i < l.length → (cnts l).set (i * 3 + 2) (.int .i64 n) = cnts (l.set i ((nthE l i).1, n))
  | [], _, _, h => by simp at h
  | a :: l, 0, n, _ => rfl
  | a :: l, i + 1, n, h => by
    rw [cnts_cons, show (a :: l).set (i + 1) ((nthE (a :: l) (i + 1)).1, n) = a :: l.set i ((nthE l i).1, n) by rw [List.set_cons_succ, nthE_cons], cnts_cons, ← cnts_set2 l i n (by simpa using h), show (i + 1) * 3 + 2 = i * 3 + 2 + 1 + 1 + 1 by omega]
    simp only [List.set_cons_succ]
theorem lt_mono {l : List Ent} (hi : Inc l) {k : Key} {m : Nat} (hm : m < l.length) : (lt (nthE l m).1 k = true → ∀ j, j ≤ m → lt (nthE l j).1 k = true) ∧ (lt (nthE l m).1 k = false → ∀ j, m ≤ j → j < l.length → lt (nthE l j).1 k = false) := by
  refine ⟨fun h j hj => ?_, fun h j hj hl => ?_⟩
  · rcases Nat.lt_or_ge j m with h1 | h1
    · exact lt_trans (inc_nth hi h1 hm) h
    · obtain rfl : j = m := by omega
      exact h
  · rcases Nat.lt_or_ge m j with h1 | h1
    · cases e : lt (nthE l j).1 k with
      | false => rfl
      | true => rw [lt_trans (inc_nth hi h1 hl) e] at h; cases h
    · obtain rfl : j = m := by omega
      exact h
theorem has_at {l : List Ent} {k : Key} {p : Nat} (hi : Inc l) (h : placed l k p) : has l k = true ↔ p < l.length ∧ (nthE l p).1 = k := by
  have key : ∀ {l : List Ent}, has l k = true ↔ ∃ e ∈ l, e.1 = k := by
    intro l
    induction l with
    | nil => simp [has]
    | cons e l ih =>
      rw [has]
      by_cases he : e.1 = k
      · simp [he]
      · rw [if_neg he, ih]; simp [he]
  rw [key]
  constructor
  · rintro ⟨e, he, rfl⟩
    obtain ⟨i, hil, rfl⟩ := List.mem_iff_getElem.1 he
    have hne : nthE l i = l[i] := by unfold nthE; rw [List.getD_eq_getElem?_getD, List.getElem?_eq_getElem hil]; rfl
    rcases Nat.lt_trichotomy i p with h1 | h1 | h1
    · have := h.2.1 i h1; rw [hne, lt_irrefl] at this; cases this
    · subst h1; exact ⟨hil, by rw [hne]⟩
    · have hpl : p < l.length := by omega
      have a := inc_nth hi h1 hil
      rw [hne] at a
      have b := h.2.2 p (Nat.le_refl _) hpl
      rw [a] at b; cases b
  · rintro ⟨h1, h2⟩; exact ⟨_, nthE_mem h1, h2⟩
def midL (l : List Ent) (x : Ent) (i : Nat) : List Ent := (l ++ [x]).take (i + 1) ++ l.drop i
theorem midL_len (l : List Ent) (x : Ent) (i : Nat) (h : i ≤ l.length) : (midL l x i).length = l.length + 1 := by simp [midL]; omega
theorem midL_start (l : List Ent) (x : Ent) : midL l x l.length = l ++ [x] := by
  unfold midL
  rw [List.drop_length, List.append_nil, List.take_of_length_le (by simp)]
theorem nthE_lt {l r : List Ent} {i : Nat} (h : l[i]? = r[i]?) : nthE l i = nthE r i := by unfold nthE; rw [List.getD_eq_getElem?_getD, List.getD_eq_getElem?_getD, h]
theorem midL_prev (l : List Ent) (x : Ent) (i : Nat) (h0 : 0 < i) (h : i ≤ l.length) : nthE (midL l x i) (i - 1) = nthE l (i - 1) := by
  apply nthE_lt
  unfold midL
  rw [List.getElem?_append_left (by simp; omega), List.getElem?_take, if_pos (by omega), List.getElem?_append_left (by omega)]
theorem midL_step (l : List Ent) (x : Ent) (i : Nat) (h0 : 0 < i) (h : i ≤ l.length) : (midL l x i).set i (nthE l (i - 1)) = midL l x (i - 1) := by
  apply List.ext_getElem?
  intro j
  rw [List.getElem?_set]
  unfold midL
  have hd : l.drop (i - 1) = nthE l (i - 1) :: l.drop i := by have := drop_nthE l (i - 1) (by omega); rwa [show i - 1 + 1 = i by omega] at this
  rw [hd, show i - 1 + 1 = i by omega]
  have l1 : ((l ++ [x]).take (i + 1)).length = i + 1 := by simp; omega
  have l2 : ((l ++ [x]).take i).length = i := by simp; omega
  by_cases hj : i = j
  · subst hj
    rw [if_pos rfl, if_pos (by simp; omega), List.getElem?_append_right (by omega), l2]
    simp
  · rw [if_neg hj]
    rcases Nat.lt_or_ge j i with h1 | h1
    · rw [List.getElem?_append_left (by omega), List.getElem?_append_left (by omega), List.getElem?_take, List.getElem?_take, if_pos (by omega), if_pos h1]
    · rw [List.getElem?_append_right (by omega), List.getElem?_append_right (by omega), l1, l2, show j - i = (j - (i + 1)) + 1 by omega, List.getElem?_cons_succ]
theorem midL_end (l : List Ent) (x : Ent) (p : Nat) (h : p ≤ l.length) : (midL l x p).set p x = l.take p ++ x :: l.drop p := by
  apply List.ext_getElem?
  intro j
  rw [List.getElem?_set]
  unfold midL
  have l1 : ((l ++ [x]).take (p + 1)).length = p + 1 := by simp; omega
  have l2 : (l.take p).length = p := by simp; omega
  by_cases hj : p = j
  · subst hj
    rw [if_pos rfl, if_pos (by simp; omega), List.getElem?_append_right (by omega), l2]
    simp
  · rw [if_neg hj]
    rcases Nat.lt_or_ge j p with h1 | h1
    · rw [List.getElem?_append_left (by omega), List.getElem?_append_left (by omega), List.getElem?_take, List.getElem?_take, if_pos (by omega), if_pos h1, List.getElem?_append_left (by omega)]
    · rw [List.getElem?_append_right (by omega), List.getElem?_append_right (by omega), l1, l2, show j - p = (j - (p + 1)) + 1 by omega, List.getElem?_cons_succ]
section
variable {C : Cfg} {P : Program} {K : Out → St → Prop} {st : List Fr} {ops : Array Oper} {os : List Oper} {env : Env} {h : Hp}
theorem axg2_bad_f (i : Nat) (d : Tmp) (acc : List (Nat × Foot)) : AXg2 C P K st ops os i (some d) (some false) .bad acc env h = AXd C P K st ops os (i + 1) acc ((d, undefV) :: env) h := by
  show (false = false ∧ _) = _
  simp only [true_and]
  rfl
theorem axg2_pan_f (i : Nat) (d : Tmp) (pre : Prop) (v : V) (R : List Nat) (acc : List (Nat × Foot)) : AXg2 C P K st ops os i (some d) (some false) (.pan pre v R) acc env h = AXd C P K st ops os (i + 1) acc ((d, undefV) :: env) h := by
  rfl
theorem callM_none' (nd : Prop) : callM none nd h = .bad := rfl
end
attribute [go_sem] axg2_bad_f axg2_pan_f callM_none'
theorem cnts_nth2 : ∀ (l : List Ent) (i : Nat), i < l.length → nthV (cnts l) (i * 3 + 2) = .int .i64 (nthE l i).2
  | [], _, h => by simp at h
  | e :: l, 0, _ => rfl
  | e :: l, i + 1, h => by
    rw [cnts_cons, nthE_cons, ← cnts_nth2 l i (by simpa using h), show (i + 1) * 3 + 2 = i * 3 + 2 + 1 + 1 + 1 by omega]
    rfl
set_option maxHeartbeats 4000000 in
set_option maxRecDepth 100000 in
theorem add_has (l : List Ent) (x : Ent) (hl : l.length ≤ 1000000) (hi : Inc l) (hs : shortL l) (hx : shortK x.1) (hn : ∀ e ∈ l, 0 ≤ e.2 ∧ e.2 ≤ 1000000000) (hnx : 0 ≤ x.2 ∧ x.2 ≤ 1000000000) (hh : has l x.1 = true) :
    NCall Tryz.prog 25 [.sl 0 0 l.length 3 none, .agg [.str x.1.1, .str x.1.2, .int .i64 x.2]] [.cells (cnts l)] [0] (.sl 0 0 (ins l x).length 3 none) ⟨[(0, .cells (cnts (ins l x)))], 1⟩ := by
  have hx' : shortK (x.1.1, x.1.2) := hx
  refine NCall.walkW (rs := [.tmp 4]) [0, 1, 3, 4, 5, 6, 7, 8, 13, 24, 40, 63] [] 1 [0] mixed (extΓ_ok cOrder_ok noΓ_ok) (noΔ_ok) call25 Tryz.func25 rfl Tryz.ntmps25 rfl (by kernel_rfl) (by simp) (by simp) (by simp) (by simp) ?_
  simp (disch := (first | assumption | omega | (simp only [List.length_take, List.length_drop, List.length_append, List.length_set, List.length_replicate, List.length_cons, List.length_nil, len_nats, len_ints, len_strs] <;> omega))) only [go_sem, Nat.reduceBEq, Nat.reduceSub, Nat.reduceAdd, Nat.reduceMul, Nat.reduceLT, Nat.reduceLeDiff, Nat.reduceEqDiff, Int.reduceToNat, Int.reduceAdd, Int.reduceSub, Int.reduceMul, Int.reduceLT, Int.reduceLE, Int.reduceEq]
  refine AXs.loop mixed (extΓ_ok cOrder_ok noΓ_ok) (noΔ_ok) (fun p : Nat × Nat => [(0, .sl 0 0 l.length 3 none), (3, .ptr 1 0), (5, .int .i64 p.1), (6, .int .i64 p.2)]) (fun _ => ⟨[(1, .cells [.str x.1.1, .str x.1.2, .int .i64 x.2]), (0, .cells (cnts l))], 2⟩)
    (fun p => p.1 ≤ p.2 ∧ p.2 ≤ l.length ∧ (∀ j, j < p.1 → lt (nthE l j).1 x.1 = true) ∧ ∀ j, p.2 ≤ j → j < l.length → lt (nthE l j).1 x.1 = false) (fun p => p.2 - p.1) (0, l.length) (by kernel_rfl)
    ⟨Nat.zero_le _, Nat.le_refl _, fun j hj => by omega, fun j h1 h2 => by omega⟩ (Sub.of [] rfl ?_ ?_ (by decide) (fun b hb hw => absurd (Nat.lt_one_iff.1 hb) (by simpa using hw))) ?_
  · simp only [go_sem, Nat.reduceBEq, Nat.reduceSub, Nat.reduceAdd, Nat.reduceMul, Nat.reduceLT, Nat.reduceLeDiff, Nat.reduceEqDiff, Int.reduceToNat, Int.reduceAdd, Int.reduceSub, Int.reduceMul, Int.reduceLT, Int.reduceLE, Int.reduceEq]
  · simp only [go_sem, Nat.reduceBEq, Nat.reduceSub, Nat.reduceAdd, Nat.reduceMul, Nat.reduceLT, Nat.reduceLeDiff, Nat.reduceEqDiff, Int.reduceToNat, Int.reduceAdd, Int.reduceSub, Int.reduceMul, Int.reduceLT, Int.reduceLE, Int.reduceEq]
  rintro ⟨lo, hi2⟩ ⟨h1, h2, h3, h4⟩
  dsimp only at h1 h2 h3 h4 ⊢
  simp only [go_sem, Nat.reduceBEq, Nat.reduceSub, Nat.reduceAdd, Nat.reduceMul, Nat.reduceLT, Nat.reduceLeDiff, Nat.reduceEqDiff, Int.reduceToNat, Int.reduceAdd, Int.reduceSub, Int.reduceMul, Int.reduceLT, Int.reduceLE, Int.reduceEq]
  refine AXc.introP (fun h5 => ?_) (fun h5 => ?_)
  · have hm : ((lo : Int) + (hi2 : Int)) / 2 = (((lo + hi2) / 2 : Nat) : Int) := by omega
    have hml : (lo + hi2) / 2 < l.length := by omega
    have a1 := cnts_at l ((lo + hi2) / 2) hml
    have s1 : shortK ((nthE l ((lo + hi2) / 2)).1.1, (nthE l ((lo + hi2) / 2)).1.2) := hs _ (nthE_mem hml)
    simp (disch := (first | assumption | omega | (simp only [List.length_take, List.length_drop, List.length_append, List.length_set, List.length_replicate, List.length_cons, List.length_nil, len_nats, len_ints, len_strs] <;> omega))) only [go_sem, a1, hm, Nat.reduceBEq, Nat.reduceSub, Nat.reduceAdd, Nat.reduceMul, Nat.reduceLT, Nat.reduceLeDiff, Nat.reduceEqDiff, Int.reduceToNat, Int.reduceAdd, Int.reduceSub, Int.reduceMul, Int.reduceLT, Int.reduceLE, Int.reduceEq]
    refine ⟨by omega, by omega, AXk.intro (by kernel_rfl) ?_⟩
    simp only [go_sem, Nat.reduceBEq, Nat.reduceSub, Nat.reduceAdd, Nat.reduceMul, Nat.reduceLT, Nat.reduceLeDiff, Nat.reduceEqDiff, Int.reduceToNat, Int.reduceAdd, Int.reduceSub, Int.reduceMul, Int.reduceLT, Int.reduceLE, Int.reduceEq]
    refine AXc.introP (fun h6 => ?_) (fun h6 => ?_)
    · have h7 : lt (nthE l ((lo + hi2) / 2)).1 x.1 = true := (cmpK_neg _ _).1 h6
      simp (disch := (first | assumption | omega | (simp only [List.length_take, List.length_drop, List.length_append, List.length_set, List.length_replicate, List.length_cons, List.length_nil, len_nats, len_ints, len_strs] <;> omega))) only [go_sem, Nat.reduceBEq, Nat.reduceSub, Nat.reduceAdd, Nat.reduceMul, Nat.reduceLT, Nat.reduceLeDiff, Nat.reduceEqDiff, Int.reduceToNat, Int.reduceAdd, Int.reduceSub, Int.reduceMul, Int.reduceLT, Int.reduceLE, Int.reduceEq]
      refine loopK_norm ((lo + hi2) / 2 + 1, hi2) ⟨by omega, h2, fun j hj => (lt_mono hi hml).1 h7 j (by omega), h4⟩ (by dsimp only; omega) (Sub.of [] rfl ?_ ?_ (by decide) (fun b hb hw => absurd (Nat.lt_one_iff.1 hb) (by simpa using hw)))
      · simp only [go_sem, Nat.reduceBEq, Nat.reduceSub, Nat.reduceAdd, Nat.reduceMul, Nat.reduceLT, Nat.reduceLeDiff, Nat.reduceEqDiff, Int.reduceToNat, Int.reduceAdd, Int.reduceSub, Int.reduceMul, Int.reduceLT, Int.reduceLE, Int.reduceEq]
        simp
      · simp only [go_sem, Nat.reduceBEq, Nat.reduceSub, Nat.reduceAdd, Nat.reduceMul, Nat.reduceLT, Nat.reduceLeDiff, Nat.reduceEqDiff, Int.reduceToNat, Int.reduceAdd, Int.reduceSub, Int.reduceMul, Int.reduceLT, Int.reduceLE, Int.reduceEq]
    · have h6' : ¬ cmpK (nthE l ((lo + hi2) / 2)).1 x.1 < 0 := h6
      have h7 : lt (nthE l ((lo + hi2) / 2)).1 x.1 = false := (cmpK_ge _ _).1 (by omega)
      simp (disch := (first | assumption | omega | (simp only [List.length_take, List.length_drop, List.length_append, List.length_set, List.length_replicate, List.length_cons, List.length_nil, len_nats, len_ints, len_strs] <;> omega))) only [go_sem, Nat.reduceBEq, Nat.reduceSub, Nat.reduceAdd, Nat.reduceMul, Nat.reduceLT, Nat.reduceLeDiff, Nat.reduceEqDiff, Int.reduceToNat, Int.reduceAdd, Int.reduceSub, Int.reduceMul, Int.reduceLT, Int.reduceLE, Int.reduceEq]
      refine loopK_norm (lo, (lo + hi2) / 2) ⟨by dsimp only; omega, by dsimp only; omega, h3, fun j hj hjl => (lt_mono hi hml).2 h7 j hj hjl⟩ (by dsimp only; omega) (Sub.of [] rfl ?_ ?_ (by decide) (fun b hb hw => absurd (Nat.lt_one_iff.1 hb) (by simpa using hw)))
      · simp only [go_sem, Nat.reduceBEq, Nat.reduceSub, Nat.reduceAdd, Nat.reduceMul, Nat.reduceLT, Nat.reduceLeDiff, Nat.reduceEqDiff, Int.reduceToNat, Int.reduceAdd, Int.reduceSub, Int.reduceMul, Int.reduceLT, Int.reduceLE, Int.reduceEq]
      · simp only [go_sem, Nat.reduceBEq, Nat.reduceSub, Nat.reduceAdd, Nat.reduceMul, Nat.reduceLT, Nat.reduceLeDiff, Nat.reduceEqDiff, Int.reduceToNat, Int.reduceAdd, Int.reduceSub, Int.reduceMul, Int.reduceLT, Int.reduceLE, Int.reduceEq]
  · have : lo = hi2 := by omega
    subst this
    have hpl : placed l x.1 lo := ⟨h2, h3, h4⟩
    have hat := has_at hi hpl
    obtain ⟨i1, i2⟩ := ins_at l x lo hpl
    simp only [go_sem, Nat.reduceBEq, Nat.reduceSub, Nat.reduceAdd, Nat.reduceMul, Nat.reduceLT, Nat.reduceLeDiff, Nat.reduceEqDiff, Int.reduceToNat, Int.reduceAdd, Int.reduceSub, Int.reduceMul, Int.reduceLT, Int.reduceLE, Int.reduceEq]
    refine AXa.go mixed (extΓ_ok cOrder_ok noΓ_ok) (noΔ_ok) (by kernel_rfl) ?_
    obtain ⟨k1, k2⟩ := hat.1 hh
    have hins := i1 ⟨k1, k2⟩
    have a1 := cnts_at l lo k1
    have s1 : shortK ((nthE l lo).1.1, (nthE l lo).1.2) := hs _ (nthE_mem k1)
    have e1 : decide ((lo : Int) < (l.length : Int)) = true := decide_eq_true (by omega)
    have e2 : cmpK ((nthE l lo).1.1, (nthE l lo).1.2) (x.1.1, x.1.2) = 0 := (cmpK_zero _ _).2 k2
    have nb := hn _ (nthE_mem k1)
    have cs := cnts_set2 l lo ((nthE l lo).2 + x.2) k1
    simp (disch := (first | assumption | omega | (simp only [List.length_take, List.length_drop, List.length_append, List.length_set, List.length_replicate, List.length_cons, List.length_nil, len_nats, len_ints, len_strs] <;> omega))) only [go_sem, a1, e1, e2, Nat.reduceBEq, Nat.reduceSub, Nat.reduceAdd, Nat.reduceMul, Nat.reduceLT, Nat.reduceLeDiff, Nat.reduceEqDiff, Int.reduceToNat, Int.reduceAdd, Int.reduceSub, Int.reduceMul, Int.reduceLT, Int.reduceLE, Int.reduceEq]
    refine ⟨by omega, by omega, AXk.intro (by kernel_rfl) ?_⟩
    have c2 := cnts_nth2 l lo k1
    simp (disch := (first | assumption | omega | (simp only [List.length_take, List.length_drop, List.length_append, List.length_set, List.length_replicate, List.length_cons, List.length_nil, len_nats, len_ints, len_strs] <;> omega))) only [go_sem, a1, cs, c2, Nat.reduceBEq, Nat.reduceSub, Nat.reduceAdd, Nat.reduceMul, Nat.reduceLT, Nat.reduceLeDiff, Nat.reduceEqDiff, Int.reduceToNat, Int.reduceAdd, Int.reduceSub, Int.reduceMul, Int.reduceLT, Int.reduceLE, Int.reduceEq]
    refine ⟨by omega, by omega, by omega, by omega, rfl, AXk.intro (by kernel_rfl) ?_⟩
    rw [← hins]
    simp only [go_sem, Nat.reduceBEq, Nat.reduceSub, Nat.reduceAdd, Nat.reduceMul, Nat.reduceLT, Nat.reduceLeDiff, Nat.reduceEqDiff, Int.reduceToNat, Int.reduceAdd, Int.reduceSub, Int.reduceMul, Int.reduceLT, Int.reduceLE, Int.reduceEq]
    have hlen : (ins l x).length = l.length := by rw [hins]; simp
    refine ⟨[(4, .sl 0 0 l.length 3 none)], Sub.of [] rfl ?_ ?_ (by decide) (fun b hb hw => absurd (Nat.lt_one_iff.1 hb) (by simpa using hw)), by rw [hlen]; rfl⟩
    · simp only [go_sem, Nat.reduceBEq, Nat.reduceSub, Nat.reduceAdd, Nat.reduceMul, Nat.reduceLT, Nat.reduceLeDiff, Nat.reduceEqDiff, Int.reduceToNat, Int.reduceAdd, Int.reduceSub, Int.reduceMul, Int.reduceLT, Int.reduceLE, Int.reduceEq]
    · simp only [go_sem, Nat.reduceBEq, Nat.reduceSub, Nat.reduceAdd, Nat.reduceMul, Nat.reduceLT, Nat.reduceLeDiff, Nat.reduceEqDiff, Int.reduceToNat, Int.reduceAdd, Int.reduceSub, Int.reduceMul, Int.reduceLT, Int.reduceLE, Int.reduceEq]
set_option maxHeartbeats 4000000 in
set_option maxRecDepth 100000 in
theorem add_new (l : List Ent) (x : Ent) (hl : l.length ≤ 1000000) (hi : Inc l) (hs : shortL l) (hx : shortK x.1) (hn : ∀ e ∈ l, 0 ≤ e.2 ∧ e.2 ≤ 1000000000) (hnx : 0 ≤ x.2 ∧ x.2 ≤ 1000000000) (hh : has l x.1 = false) :
    NCall Tryz.prog 25 [.sl 0 0 l.length 3 none, .agg [.str x.1.1, .str x.1.2, .int .i64 x.2]] [.cells (cnts l)] [0] (.sl 1 0 (ins l x).length 3 none) ⟨[(1, .cells (cnts (ins l x)))], 2⟩ := by
  have hx' : shortK (x.1.1, x.1.2) := hx
  refine NCall.walkW (rs := [.tmp 4]) [0, 1, 3, 4, 5, 6, 7, 8, 13, 24, 40, 63] [] 1 [0] mixed (extΓ_ok cOrder_ok noΓ_ok) (noΔ_ok) call25 Tryz.func25 rfl Tryz.ntmps25 rfl (by kernel_rfl) (by simp) (by simp) (by simp) (by simp) ?_
  simp (disch := (first | assumption | omega | (simp only [List.length_take, List.length_drop, List.length_append, List.length_set, List.length_replicate, List.length_cons, List.length_nil, len_nats, len_ints, len_strs] <;> omega))) only [go_sem, Nat.reduceBEq, Nat.reduceSub, Nat.reduceAdd, Nat.reduceMul, Nat.reduceLT, Nat.reduceLeDiff, Nat.reduceEqDiff, Int.reduceToNat, Int.reduceAdd, Int.reduceSub, Int.reduceMul, Int.reduceLT, Int.reduceLE, Int.reduceEq]
  refine AXs.loop mixed (extΓ_ok cOrder_ok noΓ_ok) (noΔ_ok) (fun p : Nat × Nat => [(0, .sl 0 0 l.length 3 none), (3, .ptr 1 0), (5, .int .i64 p.1), (6, .int .i64 p.2)]) (fun _ => ⟨[(1, .cells [.str x.1.1, .str x.1.2, .int .i64 x.2]), (0, .cells (cnts l))], 2⟩)
    (fun p => p.1 ≤ p.2 ∧ p.2 ≤ l.length ∧ (∀ j, j < p.1 → lt (nthE l j).1 x.1 = true) ∧ ∀ j, p.2 ≤ j → j < l.length → lt (nthE l j).1 x.1 = false) (fun p => p.2 - p.1) (0, l.length) (by kernel_rfl)
    ⟨Nat.zero_le _, Nat.le_refl _, fun j hj => by omega, fun j h1 h2 => by omega⟩ (Sub.of [] rfl ?_ ?_ (by decide) (fun b hb hw => absurd (Nat.lt_one_iff.1 hb) (by simpa using hw))) ?_
  · simp only [go_sem, Nat.reduceBEq, Nat.reduceSub, Nat.reduceAdd, Nat.reduceMul, Nat.reduceLT, Nat.reduceLeDiff, Nat.reduceEqDiff, Int.reduceToNat, Int.reduceAdd, Int.reduceSub, Int.reduceMul, Int.reduceLT, Int.reduceLE, Int.reduceEq]
  · simp only [go_sem, Nat.reduceBEq, Nat.reduceSub, Nat.reduceAdd, Nat.reduceMul, Nat.reduceLT, Nat.reduceLeDiff, Nat.reduceEqDiff, Int.reduceToNat, Int.reduceAdd, Int.reduceSub, Int.reduceMul, Int.reduceLT, Int.reduceLE, Int.reduceEq]
  rintro ⟨lo, hi2⟩ ⟨h1, h2, h3, h4⟩
  dsimp only at h1 h2 h3 h4 ⊢
  simp only [go_sem, Nat.reduceBEq, Nat.reduceSub, Nat.reduceAdd, Nat.reduceMul, Nat.reduceLT, Nat.reduceLeDiff, Nat.reduceEqDiff, Int.reduceToNat, Int.reduceAdd, Int.reduceSub, Int.reduceMul, Int.reduceLT, Int.reduceLE, Int.reduceEq]
  refine AXc.introP (fun h5 => ?_) (fun h5 => ?_)
  · have hm : ((lo : Int) + (hi2 : Int)) / 2 = (((lo + hi2) / 2 : Nat) : Int) := by omega
    have hml : (lo + hi2) / 2 < l.length := by omega
    have a1 := cnts_at l ((lo + hi2) / 2) hml
    have s1 : shortK ((nthE l ((lo + hi2) / 2)).1.1, (nthE l ((lo + hi2) / 2)).1.2) := hs _ (nthE_mem hml)
    simp (disch := (first | assumption | omega | (simp only [List.length_take, List.length_drop, List.length_append, List.length_set, List.length_replicate, List.length_cons, List.length_nil, len_nats, len_ints, len_strs] <;> omega))) only [go_sem, a1, hm, Nat.reduceBEq, Nat.reduceSub, Nat.reduceAdd, Nat.reduceMul, Nat.reduceLT, Nat.reduceLeDiff, Nat.reduceEqDiff, Int.reduceToNat, Int.reduceAdd, Int.reduceSub, Int.reduceMul, Int.reduceLT, Int.reduceLE, Int.reduceEq]
    refine ⟨by omega, by omega, AXk.intro (by kernel_rfl) ?_⟩
    simp only [go_sem, Nat.reduceBEq, Nat.reduceSub, Nat.reduceAdd, Nat.reduceMul, Nat.reduceLT, Nat.reduceLeDiff, Nat.reduceEqDiff, Int.reduceToNat, Int.reduceAdd, Int.reduceSub, Int.reduceMul, Int.reduceLT, Int.reduceLE, Int.reduceEq]
    refine AXc.introP (fun h6 => ?_) (fun h6 => ?_)
    · have h7 : lt (nthE l ((lo + hi2) / 2)).1 x.1 = true := (cmpK_neg _ _).1 h6
      simp (disch := (first | assumption | omega | (simp only [List.length_take, List.length_drop, List.length_append, List.length_set, List.length_replicate, List.length_cons, List.length_nil, len_nats, len_ints, len_strs] <;> omega))) only [go_sem, Nat.reduceBEq, Nat.reduceSub, Nat.reduceAdd, Nat.reduceMul, Nat.reduceLT, Nat.reduceLeDiff, Nat.reduceEqDiff, Int.reduceToNat, Int.reduceAdd, Int.reduceSub, Int.reduceMul, Int.reduceLT, Int.reduceLE, Int.reduceEq]
      refine loopK_norm ((lo + hi2) / 2 + 1, hi2) ⟨by omega, h2, fun j hj => (lt_mono hi hml).1 h7 j (by omega), h4⟩ (by dsimp only; omega) (Sub.of [] rfl ?_ ?_ (by decide) (fun b hb hw => absurd (Nat.lt_one_iff.1 hb) (by simpa using hw)))
      · simp only [go_sem, Nat.reduceBEq, Nat.reduceSub, Nat.reduceAdd, Nat.reduceMul, Nat.reduceLT, Nat.reduceLeDiff, Nat.reduceEqDiff, Int.reduceToNat, Int.reduceAdd, Int.reduceSub, Int.reduceMul, Int.reduceLT, Int.reduceLE, Int.reduceEq]
        simp
      · simp only [go_sem, Nat.reduceBEq, Nat.reduceSub, Nat.reduceAdd, Nat.reduceMul, Nat.reduceLT, Nat.reduceLeDiff, Nat.reduceEqDiff, Int.reduceToNat, Int.reduceAdd, Int.reduceSub, Int.reduceMul, Int.reduceLT, Int.reduceLE, Int.reduceEq]
    · have h6' : ¬ cmpK (nthE l ((lo + hi2) / 2)).1 x.1 < 0 := h6
      have h7 : lt (nthE l ((lo + hi2) / 2)).1 x.1 = false := (cmpK_ge _ _).1 (by omega)
      simp (disch := (first | assumption | omega | (simp only [List.length_take, List.length_drop, List.length_append, List.length_set, List.length_replicate, List.length_cons, List.length_nil, len_nats, len_ints, len_strs] <;> omega))) only [go_sem, Nat.reduceBEq, Nat.reduceSub, Nat.reduceAdd, Nat.reduceMul, Nat.reduceLT, Nat.reduceLeDiff, Nat.reduceEqDiff, Int.reduceToNat, Int.reduceAdd, Int.reduceSub, Int.reduceMul, Int.reduceLT, Int.reduceLE, Int.reduceEq]
      refine loopK_norm (lo, (lo + hi2) / 2) ⟨by dsimp only; omega, by dsimp only; omega, h3, fun j hj hjl => (lt_mono hi hml).2 h7 j hj hjl⟩ (by dsimp only; omega) (Sub.of [] rfl ?_ ?_ (by decide) (fun b hb hw => absurd (Nat.lt_one_iff.1 hb) (by simpa using hw)))
      · simp only [go_sem, Nat.reduceBEq, Nat.reduceSub, Nat.reduceAdd, Nat.reduceMul, Nat.reduceLT, Nat.reduceLeDiff, Nat.reduceEqDiff, Int.reduceToNat, Int.reduceAdd, Int.reduceSub, Int.reduceMul, Int.reduceLT, Int.reduceLE, Int.reduceEq]
      · simp only [go_sem, Nat.reduceBEq, Nat.reduceSub, Nat.reduceAdd, Nat.reduceMul, Nat.reduceLT, Nat.reduceLeDiff, Nat.reduceEqDiff, Int.reduceToNat, Int.reduceAdd, Int.reduceSub, Int.reduceMul, Int.reduceLT, Int.reduceLE, Int.reduceEq]
  · have : lo = hi2 := by omega
    subst this
    have hpl : placed l x.1 lo := ⟨h2, h3, h4⟩
    have hat := has_at hi hpl
    obtain ⟨i1, i2⟩ := ins_at l x lo hpl
    simp only [go_sem, Nat.reduceBEq, Nat.reduceSub, Nat.reduceAdd, Nat.reduceMul, Nat.reduceLT, Nat.reduceLeDiff, Nat.reduceEqDiff, Int.reduceToNat, Int.reduceAdd, Int.reduceSub, Int.reduceMul, Int.reduceLT, Int.reduceLE, Int.reduceEq]
    refine AXa.go mixed (extΓ_ok cOrder_ok noΓ_ok) (noΔ_ok) (by kernel_rfl) ?_
    have hnot : ¬ (lo < l.length ∧ (nthE l lo).1 = x.1) := fun h => by rw [hat.2 h] at hh; cases hh
    have hins := i2 hnot
    rcases Nat.lt_or_ge lo l.length with k1 | k1
    · have a1 := cnts_at l lo k1
      have s1 : shortK ((nthE l lo).1.1, (nthE l lo).1.2) := hs _ (nthE_mem k1)
      have e1 : decide ((lo : Int) < (l.length : Int)) = true := decide_eq_true (by omega)
      have e2 : ¬ cmpK ((nthE l lo).1.1, (nthE l lo).1.2) (x.1.1, x.1.2) = 0 := fun e => hnot ⟨k1, (cmpK_zero _ _).1 e⟩
      simp (disch := (first | assumption | omega | (simp only [List.length_take, List.length_drop, List.length_append, List.length_set, List.length_replicate, List.length_cons, List.length_nil, len_nats, len_ints, len_strs] <;> omega))) only [go_sem, a1, e1, e2, decide_false, Nat.reduceBEq, Nat.reduceSub, Nat.reduceAdd, Nat.reduceMul, Nat.reduceLT, Nat.reduceLeDiff, Nat.reduceEqDiff, Int.reduceToNat, Int.reduceAdd, Int.reduceSub, Int.reduceMul, Int.reduceLT, Int.reduceLE, Int.reduceEq]
      refine ⟨by omega, by omega, AXk.intro (by kernel_rfl) ?_⟩
      simp (disch := (first | assumption | omega | (simp only [List.length_take, List.length_drop, List.length_append, List.length_set, List.length_replicate, List.length_cons, List.length_nil, len_nats, len_ints, len_strs] <;> omega))) only [go_sem, one_cnts, Nat.reduceBEq, Nat.reduceSub, Nat.reduceAdd, Nat.reduceMul, Nat.reduceLT, Nat.reduceLeDiff, Nat.reduceEqDiff, Int.reduceToNat, Int.reduceAdd, Int.reduceSub, Int.reduceMul, Int.reduceLT, Int.reduceLE, Int.reduceEq]
      refine ⟨by omega, rfl, ?_⟩
      refine AXs.loop mixed (extΓ_ok cOrder_ok noΓ_ok) (noΔ_ok) (fun i : Nat => [(8, .int .i64 i), (0, .sl 2 0 (l.length + 1) 3 none), (3, .ptr 1 0), (5, .int .i64 lo)]) (fun i => ⟨[(2, .cells (cnts (midL l x i))), (1, .cells [.str x.1.1, .str x.1.2, .int .i64 x.2])], 3⟩)
        (fun i => lo ≤ i ∧ i ≤ l.length) (fun i => i - lo) l.length (by kernel_rfl) ⟨by omega, Nat.le_refl _⟩ (Sub.of [(2, 3)] rfl ?_ ?_ (by decide) (fun b hb hw => absurd (Nat.lt_one_iff.1 hb) (by simpa using hw))) ?_
      · simp only [go_sem, Nat.reduceBEq, Nat.reduceSub, Nat.reduceAdd, Nat.reduceMul, Nat.reduceLT, Nat.reduceLeDiff, Nat.reduceEqDiff, Int.reduceToNat, Int.reduceAdd, Int.reduceSub, Int.reduceMul, Int.reduceLT, Int.reduceLE, Int.reduceEq]
        simp
      · simp only [go_sem, Nat.reduceBEq, Nat.reduceSub, Nat.reduceAdd, Nat.reduceMul, Nat.reduceLT, Nat.reduceLeDiff, Nat.reduceEqDiff, Int.reduceToNat, Int.reduceAdd, Int.reduceSub, Int.reduceMul, Int.reduceLT, Int.reduceLE, Int.reduceEq]
        rw [List.take_of_length_le (by rw [len_cnts]; omega), midL_start, cnts_append]
        exact lrel_same fun y hy => (List.mem_append.1 hy).elim (pure_cnts l y) (pure_cnts [x] y)
      rintro i ⟨h6, h7⟩
      simp only [go_sem, Nat.reduceBEq, Nat.reduceSub, Nat.reduceAdd, Nat.reduceMul, Nat.reduceLT, Nat.reduceLeDiff, Nat.reduceEqDiff, Int.reduceToNat, Int.reduceAdd, Int.reduceSub, Int.reduceMul, Int.reduceLT, Int.reduceLE, Int.reduceEq]
      refine AXc.introP (fun h8 => ?_) (fun h8 => ?_)
      · have hml := midL_len l x i h7
        have b1 := cnts_at (midL l x i) (i - 1) (by omega)
        rw [midL_prev l x i (by omega) h7] at b1
        have b2 := cnts_set (midL l x i) i (nthE l (i - 1)) (by omega)
        rw [midL_step l x i (by omega) h7] at b2
        simp only [entV, List.cons_append, List.nil_append] at b2
        simp (disch := (first | assumption | omega | (simp only [List.length_take, List.length_drop, List.length_append, List.length_set, List.length_replicate, List.length_cons, List.length_nil, len_nats, len_ints, len_strs] <;> omega))) only [go_sem, b1, b2, hml, Nat.reduceBEq, Nat.reduceSub, Nat.reduceAdd, Nat.reduceMul, Nat.reduceLT, Nat.reduceLeDiff, Nat.reduceEqDiff, Int.reduceToNat, Int.reduceAdd, Int.reduceSub, Int.reduceMul, Int.reduceLT, Int.reduceLE, Int.reduceEq]
        refine ⟨by omega, by omega, by omega, by omega, loopK_norm (i - 1) ⟨by omega, by omega⟩ (by omega) (Sub.of [] rfl ?_ ?_ (by decide) (fun b hb hw => absurd (Nat.lt_one_iff.1 hb) (by simpa using hw)))⟩
        · simp only [go_sem, Nat.reduceBEq, Nat.reduceSub, Nat.reduceAdd, Nat.reduceMul, Nat.reduceLT, Nat.reduceLeDiff, Nat.reduceEqDiff, Int.reduceToNat, Int.reduceAdd, Int.reduceSub, Int.reduceMul, Int.reduceLT, Int.reduceLE, Int.reduceEq]
          simp only [V.int.injEq, true_and]; omega
        · simp only [go_sem, Nat.reduceBEq, Nat.reduceSub, Nat.reduceAdd, Nat.reduceMul, Nat.reduceLT, Nat.reduceLeDiff, Nat.reduceEqDiff, Int.reduceToNat, Int.reduceAdd, Int.reduceSub, Int.reduceMul, Int.reduceLT, Int.reduceLE, Int.reduceEq]
          rw [← b2, List.append_assoc]
          exact lrel_same fun y hy => by
            have hy' : y ∈ cnts (midL l x (i - 1)) := by rw [← b2]; simpa using hy
            exact pure_cnts _ y hy'
      · have : i = lo := by omega
        subst this
        have hml := midL_len l x i h7
        have b2 := cnts_set (midL l x i) i x (by omega)
        rw [midL_end l x i h7, ← hins] at b2
        simp only [entV, List.cons_append, List.nil_append] at b2
        simp only [go_sem, Nat.reduceBEq, Nat.reduceSub, Nat.reduceAdd, Nat.reduceMul, Nat.reduceLT, Nat.reduceLeDiff, Nat.reduceEqDiff, Int.reduceToNat, Int.reduceAdd, Int.reduceSub, Int.reduceMul, Int.reduceLT, Int.reduceLE, Int.reduceEq]
        refine AXa.go mixed (extΓ_ok cOrder_ok noΓ_ok) (noΔ_ok) (by kernel_rfl) ?_
        simp (disch := (first | assumption | omega | (simp only [List.length_take, List.length_drop, List.length_append, List.length_set, List.length_replicate, List.length_cons, List.length_nil, len_nats, len_ints, len_strs] <;> omega))) only [go_sem, b2, hml, List.append_assoc, Nat.reduceBEq, Nat.reduceSub, Nat.reduceAdd, Nat.reduceMul, Nat.reduceLT, Nat.reduceLeDiff, Nat.reduceEqDiff, Int.reduceToNat, Int.reduceAdd, Int.reduceSub, Int.reduceMul, Int.reduceLT, Int.reduceLE, Int.reduceEq]
        have hlen : (ins l x).length = l.length + 1 := by rw [hins]; simp; omega
        refine ⟨by omega, by omega, [(4, .sl 1 0 (l.length + 1) 3 none)], Sub.of [(1, 2)] rfl ?_ ?_ (by decide) (fun b hb hw => absurd (Nat.lt_one_iff.1 hb) (by simpa using hw)), by rw [hlen]; rfl⟩
        · simp only [go_sem, Nat.reduceBEq, Nat.reduceSub, Nat.reduceAdd, Nat.reduceMul, Nat.reduceLT, Nat.reduceLeDiff, Nat.reduceEqDiff, Int.reduceToNat, Int.reduceAdd, Int.reduceSub, Int.reduceMul, Int.reduceLT, Int.reduceLE, Int.reduceEq]
        · simp only [go_sem, Nat.reduceBEq, Nat.reduceSub, Nat.reduceAdd, Nat.reduceMul, Nat.reduceLT, Nat.reduceLeDiff, Nat.reduceEqDiff, Int.reduceToNat, Int.reduceAdd, Int.reduceSub, Int.reduceMul, Int.reduceLT, Int.reduceLE, Int.reduceEq]
    · have e1 : decide ((lo : Int) < (l.length : Int)) = false := decide_eq_false (by omega)
      simp (disch := (first | assumption | omega | (simp only [List.length_take, List.length_drop, List.length_append, List.length_set, List.length_replicate, List.length_cons, List.length_nil, len_nats, len_ints, len_strs] <;> omega))) only [go_sem, e1, Nat.reduceBEq, Nat.reduceSub, Nat.reduceAdd, Nat.reduceMul, Nat.reduceLT, Nat.reduceLeDiff, Nat.reduceEqDiff, Int.reduceToNat, Int.reduceAdd, Int.reduceSub, Int.reduceMul, Int.reduceLT, Int.reduceLE, Int.reduceEq]
      have hd : List.drop (lo * 3) (cnts l) = [] := List.drop_eq_nil_of_le (by rw [len_cnts]; omega)
      have hc0 : cOrder [V.agg [], V.agg [V.str x.1.1, V.str x.1.2, V.int .i64 x.2]] = none := by
        unfold cOrder conOf
        rw [dif_neg]
        rintro ⟨p, hp⟩
        simp [entV] at hp
      have hbad : ∀ H, aBin Tryz.prog .eql 3 undefV.val (.int .i64 0) H = ⟨False, .any, H, [], []⟩ := fun H => by
        simp [aBin, undefV, V.val, xEq, eqV, Tryz.underlying3, XR.ar, AR.bad]
      simp (disch := (first | assumption | omega | (simp only [List.length_take, List.length_drop, List.length_append, List.length_set, List.length_replicate, List.length_cons, List.length_nil, len_nats, len_ints, len_strs] <;> omega))) only [go_sem, one_cnts, hd, List.take_nil, hc0, hbad, Nat.reduceBEq, Nat.reduceSub, Nat.reduceAdd, Nat.reduceMul, Nat.reduceLT, Nat.reduceLeDiff, Nat.reduceEqDiff, Int.reduceToNat, Int.reduceAdd, Int.reduceSub, Int.reduceMul, Int.reduceLT, Int.reduceLE, Int.reduceEq]
      refine AXk.intro (by kernel_rfl) ?_
      have hT : List.take (l.length * 3) (cnts l) = cnts l := List.take_of_length_le (by rw [len_cnts]; omega)
      simp (disch := (first | assumption | omega | (simp only [List.length_take, List.length_drop, List.length_append, List.length_set, List.length_replicate, List.length_cons, List.length_nil, len_nats, len_ints, len_strs] <;> omega))) only [go_sem, one_cnts, hT, Nat.reduceBEq, Nat.reduceSub, Nat.reduceAdd, Nat.reduceMul, Nat.reduceLT, Nat.reduceLeDiff, Nat.reduceEqDiff, Int.reduceToNat, Int.reduceAdd, Int.reduceSub, Int.reduceMul, Int.reduceLT, Int.reduceLE, Int.reduceEq]
      refine ⟨by omega, rfl, ?_⟩
      refine AXs.rounds mixed (extΓ_ok cOrder_ok noΓ_ok) noΔ_ok [] (by kernel_rfl) ?_
      have hlo : lo = l.length := by omega
      have e2 : ¬ ((lo : Int) < ((l.length + 1 : Nat) : Int) - 1) := by omega
      simp (disch := (first | assumption | omega | (simp only [List.length_take, List.length_drop, List.length_append, List.length_set, List.length_replicate, List.length_cons, List.length_nil, len_nats, len_ints, len_strs] <;> omega))) only [go_sem, e2, decide_false, Nat.reduceBEq, Nat.reduceSub, Nat.reduceAdd, Nat.reduceMul, Nat.reduceLT, Nat.reduceLeDiff, Nat.reduceEqDiff, Int.reduceToNat, Int.reduceAdd, Int.reduceSub, Int.reduceMul, Int.reduceLT, Int.reduceLE, Int.reduceEq]
      refine AXa.go mixed (extΓ_ok cOrder_ok noΓ_ok) (noΔ_ok) (by kernel_rfl) ?_
      simp (disch := (first | assumption | omega | (simp only [List.length_take, List.length_drop, List.length_append, List.length_set, List.length_replicate, List.length_cons, List.length_nil, len_nats, len_ints, len_strs] <;> omega))) only [go_sem, Nat.reduceBEq, Nat.reduceSub, Nat.reduceAdd, Nat.reduceMul, Nat.reduceLT, Nat.reduceLeDiff, Nat.reduceEqDiff, Int.reduceToNat, Int.reduceAdd, Int.reduceSub, Int.reduceMul, Int.reduceLT, Int.reduceLE, Int.reduceEq]
      have hins' : ins l x = l ++ [x] := by rw [hins, hlo]; simp
      have e3 : cnts l ++ [V.str x.1.1, V.str x.1.2, V.int .i64 x.2] = cnts (l ++ [x]) := by rw [cnts_append]; rfl
      have hlen : (ins l x).length = l.length + 1 := by rw [hins']; simp
      have hcs := cnts_set (l ++ [x]) l.length x (by simp)
      have hset : (l ++ [x]).set l.length x = l ++ [x] := by simp
      rw [hset] at hcs
      rw [e3, hlo, hins']
      refine ⟨by omega, by rw [len_cnts]; simp; omega, [(4, .sl 1 0 (l.length + 1) 3 none)], Sub.of [(1, 3)] rfl ?_ ?_ (by decide) (fun b hb hw => absurd (Nat.lt_one_iff.1 hb) (by simpa using hw)), by simp [lookE]⟩
      · simp only [go_sem, Nat.reduceBEq, Nat.reduceSub, Nat.reduceAdd, Nat.reduceMul, Nat.reduceLT, Nat.reduceLeDiff, Nat.reduceEqDiff, Int.reduceToNat, Int.reduceAdd, Int.reduceSub, Int.reduceMul, Int.reduceLT, Int.reduceLE, Int.reduceEq]
      · simp only [go_sem, Nat.reduceBEq, Nat.reduceSub, Nat.reduceAdd, Nat.reduceMul, Nat.reduceLT, Nat.reduceLeDiff, Nat.reduceEqDiff, Int.reduceToNat, Int.reduceAdd, Int.reduceSub, Int.reduceMul, Int.reduceLT, Int.reduceLE, Int.reduceEq]
        rw [List.append_assoc]
        have hcs' : List.take (l.length * 3) (cnts (l ++ [x])) ++ ([V.str x.1.1, V.str x.1.2, V.int .i64 x.2] ++ List.drop (l.length * 3 + 3) (cnts (l ++ [x]))) = cnts (l ++ [x]) := hcs
        rw [hcs']
        exact lrel_same (pure_cnts _)
end Go.Proofs
