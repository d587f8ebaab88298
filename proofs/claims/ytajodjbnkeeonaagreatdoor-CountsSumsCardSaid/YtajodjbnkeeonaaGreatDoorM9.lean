/- A first count; the contract of the reference's insertion at any heap. -/
import Derived.Test.YtajodjbnkeeonaaGreatDoorM8
import Derived.Test.YtajodjbnkeeonaaGreatDoorPlCnt
set_option linter.unusedSimpArgs false
set_option linter.unusedVariables false
namespace Go.Proofs
open Go.Ab Go.Cnt
theorem order_none (y : V) : cOrder [V.agg [], y] = none := by
  unfold cOrder conOf
  rw [dif_neg]
  rintro ⟨p, hp⟩
  simp [entV] at hp
theorem order_none' (y : V) : cOrder [undefV, y] = none := by
  unfold cOrder conOf
  rw [dif_neg]
  rintro ⟨p, hp⟩
  simp [entV, undefV] at hp
theorem eql_bad (H : Hp) : aBin Tryz.prog .eql 3 undefV.val (.int .i64 0) H = ⟨False, .any, H, [], []⟩ := by
  simp [aBin, undefV, V.val, xEq, eqV, Tryz.underlying3, XR.ar, AR.bad]
set_option maxHeartbeats 4000000 in
set_option maxRecDepth 100000 in
theorem add_nil0 (x : Ent) : NCall Tryz.prog 25 [.sl 0 0 0 3 (some 0), .agg [.str x.1.1, .str x.1.2, .int .i64 x.2]] [.cells []] [] (.sl 1 0 1 3 none) ⟨[(1, .cells (cnts [x])), (0, .cells [])], 2⟩ := by
  refine NCall.walk (rs := [.tmp 4]) [0, 1, 3, 4, 5, 6, 7, 8, 13, 24, 40, 63] [] 1 mixed (extΓ_ok cOrder_ok noΓ_ok) (noΔ_ok) call25 Tryz.func25 rfl Tryz.ntmps25 rfl (by kernel_rfl) (by simp) (by simp) (by simp) ?_
  simp only [go_sem, Nat.reduceBEq, Nat.reduceSub, Nat.reduceAdd, Nat.reduceMul, Nat.reduceLT, Nat.reduceLeDiff, Nat.reduceEqDiff, Int.reduceToNat, Int.reduceAdd, Int.reduceSub, Int.reduceMul, Int.reduceLT, Int.reduceLE, Int.reduceEq]
  refine AXs.rounds mixed (extΓ_ok cOrder_ok noΓ_ok) noΔ_ok [] (by kernel_rfl) ?_
  simp only [go_sem, Nat.reduceBEq, Nat.reduceSub, Nat.reduceAdd, Nat.reduceMul, Nat.reduceLT, Nat.reduceLeDiff, Nat.reduceEqDiff, Int.reduceToNat, Int.reduceAdd, Int.reduceSub, Int.reduceMul, Int.reduceLT, Int.reduceLE, Int.reduceEq]
  refine AXa.go mixed (extΓ_ok cOrder_ok noΓ_ok) (noΔ_ok) (by kernel_rfl) ?_
  simp only [go_sem, order_none, order_none', eql_bad, List.take_nil, List.drop_nil, Nat.reduceBEq, Nat.reduceSub, Nat.reduceAdd, Nat.reduceMul, Nat.reduceLT, Nat.reduceLeDiff, Nat.reduceEqDiff, Int.reduceToNat, Int.reduceAdd, Int.reduceSub, Int.reduceMul, Int.reduceLT, Int.reduceLE, Int.reduceEq]
  refine AXs.rounds mixed (extΓ_ok cOrder_ok noΓ_ok) noΔ_ok [] (by kernel_rfl) ?_
  simp only [go_sem, Nat.reduceBEq, Nat.reduceSub, Nat.reduceAdd, Nat.reduceMul, Nat.reduceLT, Nat.reduceLeDiff, Nat.reduceEqDiff, Int.reduceToNat, Int.reduceAdd, Int.reduceSub, Int.reduceMul, Int.reduceLT, Int.reduceLE, Int.reduceEq]
  refine AXa.go mixed (extΓ_ok cOrder_ok noΓ_ok) (noΔ_ok) (by kernel_rfl) ?_
  simp only [go_sem, Nat.reduceBEq, Nat.reduceSub, Nat.reduceAdd, Nat.reduceMul, Nat.reduceLT, Nat.reduceLeDiff, Nat.reduceEqDiff, Int.reduceToNat, Int.reduceAdd, Int.reduceSub, Int.reduceMul, Int.reduceLT, Int.reduceLE, Int.reduceEq]
  refine ⟨[(4, .sl 1 0 1 3 none)], Sub.of [(1, 3)] rfl ?_ ?_ (by decide) (fun b hb hw => ?_), rfl⟩
  · simp only [go_sem, Nat.reduceBEq, Nat.reduceSub, Nat.reduceAdd, Nat.reduceMul, Nat.reduceLT, Nat.reduceLeDiff, Nat.reduceEqDiff, Int.reduceToNat, Int.reduceAdd, Int.reduceSub, Int.reduceMul, Int.reduceLT, Int.reduceLE, Int.reduceEq]
  · simp only [go_sem, cnts_cons, cnts_nil, Nat.reduceBEq, Nat.reduceSub, Nat.reduceAdd, Nat.reduceMul, Nat.reduceLT, Nat.reduceLeDiff, Nat.reduceEqDiff, Int.reduceToNat, Int.reduceAdd, Int.reduceSub, Int.reduceMul, Int.reduceLT, Int.reduceLE, Int.reduceEq]
  · obtain rfl : b = 0 := Nat.lt_one_iff.1 hb
    rfl
def AddR (args : List V) (H : Hp) (r : AR) : Prop :=
  ∃ (b : Nat) (l : List Ent) (x : Ent), H.get b = some (.cells (cnts l)) ∧ l.length ≤ 1000000 ∧ Inc l ∧ shortL l ∧ shortK x.1 ∧ (∀ e ∈ l, 0 ≤ e.2 ∧ e.2 ≤ 1000000000) ∧ (0 ≤ x.2 ∧ x.2 ≤ 1000000000) ∧ (∀ b x, H.get b = some x → b < H.next) ∧
    ((args = [.sl b 0 l.length 3 none, .agg (entV x)] ∧ has l x.1 = true ∧ r = ⟨True, .sl b 0 (ins l x).length 3 none, H.put b (.cells (cnts (ins l x))), [b], [b]⟩) ∨
     (args = [.sl b 0 l.length 3 none, .agg (entV x)] ∧ has l x.1 = false ∧ r = ⟨True, .sl H.next 0 (ins l x).length 3 none, (H.kill b).new (.cells (cnts (ins l x))), [b], [b]⟩) ∨
     (args = [.sl b 0 0 3 (some 0), .agg (entV x)] ∧ l = [] ∧ r = ⟨True, .sl H.next 0 1 3 none, ⟨(H.next, .cells (cnts [x])) :: H.bs, H.next + 1⟩, [b], []⟩))
theorem agg_rn (π : Nat → Nat) (N : Nat → Prop) (x : Ent) : Rn π N (.agg (entV x)) (.agg (entV x)) := .same (.agg fun y hy => by
  simp only [entV, List.mem_cons, List.not_mem_nil, or_false] at hy
  rcases hy with rfl | rfl | rfl
  · exact .str _
  · exact .str _
  · exact .int _ _)
theorem addArgs (b n : Nat) (k : Option Nat) (x : Ent) : LRel (Rn (fun i => [b].getD i 0) (· < 1)) [V.sl 0 0 n 3 k, .agg (entV x)] [.sl b 0 n 3 k, .agg (entV x)] := by
  refine ⟨rfl, fun i y z hy hz => ?_⟩
  match i with
  | 0 => cases hy; cases hz; exact .sl (π := fun i => [b].getD i 0) (b := 0) (Nat.lt_one_iff.2 rfl) (.inr rfl)
  | 1 => cases hy; cases hz; exact agg_rn _ _ x
  | i + 2 => simp at hy
theorem addR_ok : ∀ args H r, AddR args H r → HCall Tryz.prog 25 args H r := by
  rintro args H r ⟨b, l, x, hb, hl, hi, hs, hx, hn, hnx, hk, h⟩
  rcases h with ⟨rfl, hh, rfl⟩ | ⟨rfl, hh, rfl⟩ | ⟨rfl, rfl, rfl⟩
  · exact HCall.put1 (add_has l x hl hi hs hx hn hnx hh) (pure_cnts l) (pure_cnts _) b _ H (addArgs b l.length none x) hb hk
  · exact HCall.move1 (add_new l x hl hi hs hx hn hnx hh) (pure_cnts l) (pure_cnts _) b _ H (addArgs b l.length none x) hb hk
  · have hF' : ∀ (i : Nat) (y : Blk), ([Blk.cells []] : List Blk)[i]? = some y → ∀ π N, RnB π N y y := by
      intro i y hy π N
      match i with
      | 0 => cases hy; exact .cells (lrel_same fun _ h => nomatch h)
      | i + 1 => simp at hy
    refine HCall.fresh (F := [.cells []]) (add_nil0 x) (pure_cnts _) [b] _ H rfl (by simp) (addArgs b 0 (some 0) x) (fun i y hy => ?_) hF' hk
    match i with
    | 0 => exact ⟨b, rfl, by cases hy; exact hb, hF' 0 y hy _ _⟩
    | i + 1 => simp at hy
theorem addR_uniq {args : List V} {H : Hp} {r r' : AR} (h : AddR args H r) (h' : AddR args H r') : r' = r := by
  obtain ⟨b, l, x, hb, _, _, _, _, _, _, _, h⟩ := h
  obtain ⟨b', l', x', hb', _, _, _, _, _, _, _, h'⟩ := h'
  have key : ∀ {n n' : Nat} {k k' : Option Nat}, ([.sl b 0 n 3 k, .agg (entV x)] : List V) = [.sl b' 0 n' 3 k', .agg (entV x')] → b = b' ∧ x = x' ∧ l = l' ∧ k = k' := by
    intro n n' k k' e
    simp only [List.cons.injEq, V.sl.injEq, V.agg.injEq, and_true, true_and] at e
    obtain ⟨⟨rfl, _, hk⟩, hx⟩ := e
    rw [hb] at hb'
    simp only [Option.some.injEq, Blk.cells.injEq] at hb'
    exact ⟨rfl, entV_inj hx, cnts_inj hb', hk⟩
  rcases h with ⟨e, hh, rfl⟩ | ⟨e, hh, rfl⟩ | ⟨e, hh, rfl⟩ <;> rcases h' with ⟨e', hh', rfl⟩ | ⟨e', hh', rfl⟩ | ⟨e', hh', rfl⟩ <;> (obtain ⟨rfl, rfl, rfl, hkk⟩ := key (e.symm.trans e')) <;> first | rfl | (exfalso; cases hkk; done) | (exfalso; rw [hh] at hh'; cases hh'; done)
end Go.Proofs

/- Two lists of counts together: how great their numbers become; no program in sight. -/
namespace Go.Cnt
def tot : List Ent → Key → Int
  | [], _ => 0
  | e :: l, k => (if e.1 = k then e.2 else 0) + tot l k
theorem tot_append : ∀ (l r : List Ent) (k : Key), tot (l ++ r) k = tot l k + tot r k
  | [], r, k => by simp [tot]
  | e :: l, r, k => by rw [List.cons_append, tot, tot, tot_append l r k]; omega
theorem tot_none {l : List Ent} {k : Key} (h : ∀ e ∈ l, e.1 ≠ k) : tot l k = 0 := by
  induction l with
  | nil => rfl
  | cons e l ih => rw [tot, if_neg (h e (List.mem_cons_self ..)), ih fun x hx => h x (List.mem_cons_of_mem _ hx)]; rfl
theorem tot_dif : ∀ {l : List Ent}, Dif l → ∀ k, tot l k = val l k
  | [], _, _ => rfl
  | e :: l, h, k => by
    have h' := List.pairwise_cons.1 h
    rw [tot, val]
    by_cases hk : e.1 = k
    · rw [if_pos hk, if_pos hk, tot_none fun x hx => by rw [← hk]; exact (h'.1 x hx).symm]; omega
    · rw [if_neg hk, if_neg hk, tot_dif h'.2 k]; omega
theorem tot_nonneg {l : List Ent} (h : ∀ e ∈ l, 0 ≤ e.2) (k : Key) : 0 ≤ tot l k := by
  induction l with
  | nil => exact Int.le_refl _
  | cons e l ih =>
    have h1 := h e (List.mem_cons_self ..)
    have h2 := ih fun x hx => h x (List.mem_cons_of_mem _ hx)
    rw [tot]; split <;> omega
theorem val_upd_at : ∀ (l : List Ent) (x : Ent) (k : Key), val (upd l x) k = val l k + if x.1 = k then x.2 else 0
  | [], x, k => by rw [upd, val, val]; simp [val]
  | e :: l, x, k => by
    rw [upd]
    by_cases he : e.1 = x.1
    · rw [if_pos he, val, val]
      by_cases hk : e.1 = k
      · rw [if_pos hk, if_pos hk, if_pos (by rw [← he]; exact hk)]
      · rw [if_neg hk, if_neg hk, if_neg (by rw [← he]; exact hk)]; omega
    · rw [if_neg he, val, val]
      by_cases hk : e.1 = k
      · rw [if_pos hk, if_pos hk, if_neg (by rw [← hk]; exact fun h => he h.symm)]; omega
      · rw [if_neg hk, if_neg hk, val_upd_at l x k]
theorem val_fold_upd : ∀ (xs m : List Ent) (k : Key), val (xs.foldl upd m) k = val m k + tot xs k
  | [], m, k => by simp [tot]
  | x :: xs, m, k => by rw [List.foldl_cons, val_fold_upd xs, val_upd_at, tot]; omega
theorem fold_ins_perm {a : List Ent} (ha : Inc a) (xs : List Ent) : (xs.foldl ins a).Perm (xs.foldl upd a) ∧ Inc (xs.foldl ins a) ∧ Dif (xs.foldl upd a) := fold_perm xs ha ha.dif (.refl _)
theorem val_fold_ins {a : List Ent} (ha : Inc a) (xs : List Ent) (k : Key) : val (xs.foldl ins a) k = val a k + tot xs k := by
  obtain ⟨p, i, d⟩ := fold_ins_perm ha xs
  rw [val_perm i.dif p, val_fold_upd]
theorem ins_le : ∀ (l : List Ent) (x : Ent), (ins l x).length ≤ l.length + 1
  | [], _ => by simp [ins]
  | e :: l, x => by
    rw [ins]
    split
    · have := ins_le l x; simp only [List.length_cons]; omega
    · split <;> simp
theorem fold_ins_len : ∀ (xs l : List Ent), (xs.foldl ins l).length ≤ l.length + xs.length
  | [], l => by simp
  | x :: xs, l => by
    have := fold_ins_len xs (ins l x)
    have := ins_le l x
    rw [List.foldl_cons, List.length_cons]; omega
theorem mem_fold_ins {p : Key → Prop} : ∀ (xs : List Ent) {l : List Ent}, (∀ e ∈ l, p e.1) → (∀ e ∈ xs, p e.1) → ∀ e ∈ xs.foldl ins l, p e.1
  | [], _, h, _ => h
  | x :: xs, l, h, k => by
    rw [List.foldl_cons]
    refine mem_fold_ins xs (fun e he => ?_) fun e he => k e (List.mem_cons_of_mem _ he)
    rcases mem_ins he with h1 | h1
    · rw [h1]; exact k x (List.mem_cons_self ..)
    · exact h e h1
theorem mem_foldN {xs l : List Ent} (hl : Inc l) {lo hi : Int} {e : Ent} (he : e ∈ xs.foldl ins l) (h : ∀ k, lo ≤ val l k + tot xs k ∧ val l k + tot xs k ≤ hi) : lo ≤ e.2 ∧ e.2 ≤ hi := by
  have hv := val_mem (fold_ins_perm hl xs).2.1.dif he
  rw [val_fold_ins hl] at hv
  have := h e.1
  omega
theorem val_bounds {l : List Ent} {hi : Int} (h0 : 0 ≤ hi) (h : ∀ e ∈ l, 0 ≤ e.2 ∧ e.2 ≤ hi) (k : Key) : 0 ≤ val l k ∧ val l k ≤ hi := by
  induction l with
  | nil => rw [val]; omega
  | cons e l ih =>
    rw [val]
    split
    · exact h e (List.mem_cons_self ..)
    · exact ih fun x hx => h x (List.mem_cons_of_mem _ hx)
theorem key_ins {l : List Ent} {x : Ent} : (∃ e ∈ ins l x, e.1 = x.1) ∧ ∀ y ∈ l, ∃ e ∈ ins l x, e.1 = y.1 := by
  induction l with
  | nil => exact ⟨⟨x, by simp [ins], rfl⟩, fun y hy => by cases hy⟩
  | cons a l ih =>
    rw [ins]
    split
    · refine ⟨?_, fun y hy => ?_⟩
      · obtain ⟨e, he, h⟩ := ih.1; exact ⟨e, List.mem_cons_of_mem _ he, h⟩
      · rcases List.mem_cons.1 hy with rfl | hy
        · exact ⟨y, List.mem_cons_self .., rfl⟩
        · obtain ⟨e, he, h⟩ := ih.2 y hy; exact ⟨e, List.mem_cons_of_mem _ he, h⟩
    · split
      · rename_i hk
        refine ⟨⟨_, List.mem_cons_self .., hk⟩, fun y hy => ?_⟩
        rcases List.mem_cons.1 hy with rfl | hy
        · exact ⟨_, List.mem_cons_self .., rfl⟩
        · exact ⟨y, List.mem_cons_of_mem _ hy, rfl⟩
      · exact ⟨⟨x, List.mem_cons_self .., rfl⟩, fun y hy => ⟨y, List.mem_cons_of_mem _ hy, rfl⟩⟩
theorem Inc.mem_eq : ∀ {l r : List Ent}, Inc l → Inc r → (∀ e, e ∈ l ↔ e ∈ r) → l = r
  | [], [], _, _, _ => rfl
  | [], b :: r, _, _, h => by have := (h b).2 (List.mem_cons_self ..); cases this
  | a :: l, [], _, _, h => by have := (h a).1 (List.mem_cons_self ..); cases this
  | a :: l, b :: r, h, k, p => by
    have h' := List.pairwise_cons.1 h
    have k' := List.pairwise_cons.1 k
    have e : a = b := by
      rcases List.mem_cons.1 ((p a).1 (List.mem_cons_self ..)) with e | ha
      · exact e
      rcases List.mem_cons.1 ((p b).2 (List.mem_cons_self ..)) with e | hb
      · exact e.symm
      have h1 := h'.1 b hb
      have h2 := k'.1 a ha
      rw [lt_asymm h1] at h2; cases h2
    subst e
    rw [Inc.mem_eq h'.2 k'.2 fun e => ⟨fun he => ?_, fun he => ?_⟩]
    · rcases List.mem_cons.1 ((p e).1 (List.mem_cons_of_mem _ he)) with rfl | h1
      · have := h'.1 e he; rw [lt_irrefl] at this; cases this
      · exact h1
    · rcases List.mem_cons.1 ((p e).2 (List.mem_cons_of_mem _ he)) with rfl | h1
      · have := k'.1 e he; rw [lt_irrefl] at this; cases this
      · exact h1
theorem val_pos_mem : ∀ {l : List Ent} {k : Key}, val l k ≠ 0 → ∃ e ∈ l, e.1 = k
  | [], k, h => absurd rfl h
  | e :: l, k, h => by
    rw [val] at h
    by_cases hk : e.1 = k
    · exact ⟨e, List.mem_cons_self .., hk⟩
    · rw [if_neg hk] at h
      obtain ⟨x, hx, h⟩ := val_pos_mem h
      exact ⟨x, List.mem_cons_of_mem _ hx, h⟩
theorem Inc.val_eq {l r : List Ent} (hl : Inc l) (hr : Inc r) (nl : ∀ e ∈ l, e.2 ≠ 0) (nr : ∀ e ∈ r, e.2 ≠ 0) (h : ∀ k, val l k = val r k) : l = r := by
  refine Inc.mem_eq hl hr fun e => ⟨fun he => ?_, fun he => ?_⟩
  · have h1 := val_mem hl.dif he
    rw [h] at h1
    obtain ⟨x, hx, hk⟩ := val_pos_mem (l := r) (k := e.1) (by rw [h1]; exact nl e he)
    have h2 := val_mem hr.dif hx
    rw [hk, h1] at h2
    rwa [show e = x from Prod.ext hk.symm h2]
  · have h1 := val_mem hr.dif he
    rw [← h] at h1
    obtain ⟨x, hx, hk⟩ := val_pos_mem (l := l) (k := e.1) (by rw [h1]; exact nr e he)
    have h2 := val_mem hl.dif hx
    rw [hk, h1] at h2
    rwa [show e = x from Prod.ext hk.symm h2]
end Go.Cnt
