/- The reference's counts: names, order, validity. -/
import Derived.Test.YtfilkkmcagndlaaGreatDoorVM0
set_option linter.unusedSimpArgs false
set_option linter.unusedVariables false
set_option linter.all false
namespace Go.Proofs
open Go.Ab Go.Cnt
theorem rname_ok (s : Str) : PCall Tryz.prog 49 [.str s] (.ret (.bool (nameB s))) := by
  refine PCall.walk (rs := [.tmp 2]) [0, 2] [] mixed (noΓ_ok) (noΔ_ok) call49 Tryz.func49 rfl Tryz.ntmps49 rfl (by kernel_rfl) (by simp) (by simp [pure_bool, pure_int, pure_str, pure_fs, pure_fp, pure_fn, pure_agg, pure_tup, pure_nilS, pure_nilP, pure_natsP, pure_intsP, pure_strsP, pure_list, pure_cntsP]) ?_
  simp only [go_sem]
  have e : decide ((s.length : Int) ≤ 40) = decide (s.length ≤ 40) := decide_eq_decide.2 (by omega)
  unfold nameB
  rw [e]
  cases s with
  | nil => rfl
  | cons c s => simp; omega
noncomputable def cRName : List V → Option PR := conOf (fun a : Str => [.str a]) (fun _ => True) fun a => .ret (.bool (nameB a))
theorem cRName_eq (a : Str) : cRName [.str a] = some (.ret (.bool (nameB a))) := conOf_eq (pat := fun a : Str => [.str a]) (fun x y h => by simpa using h) a trivial
theorem cRName_ok : ∀ args r, cRName args = some r → PCall Tryz.prog 49 args r := conOf_ok fun a _ => rname_ok a
attribute [go_sem] cRName_eq
theorem bl_at : ∀ (i : Nat) (a b : Str), a.take i = b.take i → i < a.length → i < b.length → a.getD i 0 < b.getD i 0 → Op.bytesLess a b = true
  | 0, x :: a, y :: b, _, _, _, h => (bl_cons ..).2 (.inl h)
  | i + 1, x :: a, y :: b, h, ha, hb, hl => by
    simp only [List.take_succ_cons, List.cons.injEq] at h
    exact (bl_cons ..).2 (.inr ⟨h.1, bl_at i a b h.2 (by simpa using ha) (by simpa using hb) (by simpa using hl)⟩)
  | _, [], _, _, ha, _, _ => by simp at ha
  | _, _ :: _, [], _, _, hb, _ => by simp at hb
theorem bl_short : ∀ (a b : Str), a = b.take a.length → a.length < b.length → Op.bytesLess a b = true
  | [], [], _, h => by simp at h
  | [], _ :: _, _, _ => rfl
  | x :: a, [], _, h => by simp at h
  | x :: a, y :: b, h, hl => by
    simp only [List.length_cons, List.take_succ_cons, List.cons.injEq] at h
    exact (bl_cons ..).2 (.inr ⟨h.1, bl_short a b h.2 (by simpa using hl)⟩)
theorem cmpS_lt {a b : Str} (h : Op.bytesLess a b = true) : cmpS a b = -1 := by unfold cmpS; rw [if_pos h]
theorem cmpS_gt {a b : Str} (h : Op.bytesLess b a = true) : cmpS a b = 1 := by
  rcases cmpS_cases a b with ⟨k, e⟩ | ⟨k, e⟩ | ⟨k, k', e⟩
  · have := bl_trans h k; rw [bl_irrefl] at this; cases this
  · subst k; rw [bl_irrefl] at h; cases h
  · exact e
theorem cmpS_eq (a : Str) : cmpS a a = 0 := by unfold cmpS; simp [bl_irrefl]
theorem u8_lt (x y : UInt8) : ((x.toNat : Int) < (y.toNat : Int)) ↔ x < y := by rw [UInt8.lt_iff_toNat_lt]; omega
theorem take_step (a : Str) (i : Nat) (h : i < a.length) : a.take (i + 1) = a.take i ++ [a.getD i 0] := by
  rw [List.take_add_one, List.getD_eq_getElem?_getD, List.getElem?_eq_getElem h]; rfl
set_option maxHeartbeats 4000000 in
theorem rcmp_ok (a b : Str) (ha : a.length ≤ 1000000) (hb : b.length ≤ 1000000) : PCall Tryz.prog 53 [.str a, .str b] (.ret (.int .i64 (cmpS a b))) := by
  refine PCall.walk (rs := [.tmp 4]) [0, 1, 4, 5, 15, 24, 31, 36, 41] [] mixed (noΓ_ok) (noΔ_ok) call53 Tryz.func53 rfl Tryz.ntmps53 rfl (by kernel_rfl) (by simp) (by simp [pure_bool, pure_int, pure_str, pure_fs, pure_fp, pure_fn, pure_agg, pure_tup, pure_nilS, pure_nilP, pure_natsP, pure_intsP, pure_strsP, pure_list, pure_cntsP]) ?_
  simp only [go_sem]
  refine AXs.loop mixed (noΓ_ok) (noΔ_ok) (fun i : Nat => [(0, .str a), (1, .str b), (5, .int .i64 i)]) (fun _ => ⟨[], 0⟩) (fun i => i ≤ a.length ∧ i ≤ b.length ∧ a.take i = b.take i) (fun i => a.length - i) 0 (by kernel_rfl)
    ⟨Nat.zero_le _, Nat.zero_le _, rfl⟩ (Sub.of0 [] rfl rfl ?_ ?_) ?_
  · simp only [go_sem]
  · simp only [go_sem]
  rintro i ⟨h1, h2, h3⟩
  simp only [go_sem]
  by_cases h4 : i < a.length ∧ i < b.length
  · obtain ⟨h4, h5⟩ := h4
    have e1 : decide ((i : Int) < (a.length : Int)) = true := decide_eq_true (by omega)
    have e2 : decide ((i : Int) < (b.length : Int)) = true := decide_eq_true (by omega)
    simp (disch := (first | assumption | omega | (simp only [push_cast] <;> omega))) only [go_sem, e1, e2]
    refine ⟨by omega, by omega, ?_⟩
    refine AXc.introP (fun h6 => ?_) (fun h6 => ?_)
    · simp only [go_sem]
      exact (cmpS_lt (bl_at i a b h3 h4 h5 ((u8_lt _ _).1 h6))).symm
    simp (disch := (first | assumption | omega | (simp only [push_cast] <;> omega))) only [go_sem]
    refine ⟨by omega, by omega, ?_⟩
    refine AXc.introP (fun h7 => ?_) (fun h7 => ?_)
    · simp only [go_sem]
      exact (cmpS_gt (bl_at i b a h3.symm h5 h4 ((u8_lt _ _).1 h7))).symm
    simp (disch := (first | assumption | omega | (simp only [push_cast] <;> omega))) only [go_sem]
    have h8 : a.getD i 0 = b.getD i 0 := UInt8.toNat_inj.1 (by omega)
    refine loopK_norm (i + 1) ⟨by omega, by omega, ?_⟩ (by omega) (Sub.of0 [] rfl rfl ?_ ?_)
    · rw [take_step a i h4, take_step b i h5, h3, h8]
    · simp only [go_sem]
      simp
    · simp only [go_sem]
  · have e1 : (decide ((i : Int) < (a.length : Int)) && decide ((i : Int) < (b.length : Int))) = false := by
      simp only [Bool.and_eq_false_iff, decide_eq_false_iff_not]
      omega
    simp only [go_sem, e1]
    refine AXa.go mixed (noΓ_ok) (noΔ_ok) (by kernel_rfl) ?_
    simp only [go_sem]
    refine AXc.introP (fun h6 => ?_) (fun h6 => ?_)
    · simp only [go_sem]
      have : i = a.length := by omega
      subst this
      rw [List.take_length] at h3
      exact (cmpS_lt (bl_short a b h3 (by omega))).symm
    simp only [go_sem]
    refine AXc.introP (fun h7 => ?_) (fun h7 => ?_)
    · simp only [go_sem]
      have : i = b.length := by omega
      subst this
      rw [List.take_length] at h3
      exact (cmpS_gt (bl_short b a h3.symm (by omega))).symm
    simp only [go_sem]
    have k1 : i = a.length := by omega
    have k2 : a.length = b.length := by omega
    rw [k1, List.take_length, k2, List.take_length] at h3
    rw [h3, cmpS_eq]
noncomputable def cRCmp : List V → Option PR := conOf (fun p : Str × Str => [.str p.1, .str p.2]) (fun p => p.1.length ≤ 1000000 ∧ p.2.length ≤ 1000000) fun p => .ret (.int .i64 (cmpS p.1 p.2))
theorem cRCmp_eq (a b : Str) (ha : a.length ≤ 1000000) (hb : b.length ≤ 1000000) : cRCmp [.str a, .str b] = some (.ret (.int .i64 (cmpS a b))) := conOf_eq (pat := fun p : Str × Str => [.str p.1, .str p.2]) (fun x y h => by simp at h; exact Prod.ext h.1 h.2) (a, b) ⟨ha, hb⟩
theorem cRCmp_ok : ∀ args r, cRCmp args = some r → PCall Tryz.prog 53 args r := conOf_ok fun p hp => rcmp_ok p.1 p.2 hp.1 hp.2
attribute [go_sem] cRCmp_eq
def shortK (k : Key) : Prop := k.1.length ≤ 1000000 ∧ k.2.length ≤ 1000000
theorem order_ok (x y : Ent) (hx : shortK x.1) (hy : shortK y.1) : PCall Tryz.prog 50 [.agg [.str x.1.1, .str x.1.2, .int .i64 x.2], .agg [.str y.1.1, .str y.1.2, .int .i64 y.2]] (.ret (.int .i64 (cmpK x.1 y.1))) := by
  obtain ⟨hx1, hx2⟩ := hx
  obtain ⟨hy1, hy2⟩ := hy
  refine PCall.walk (rs := [.tmp 4]) [0, 1, 2, 3, 4, 5, 12] [] mixed (extΓ_ok cRCmp_ok noΓ_ok) (noΔ_ok) call50 Tryz.func50 rfl Tryz.ntmps50 rfl (by kernel_rfl) (by simp) (by simp [pure_bool, pure_int, pure_str, pure_fs, pure_fp, pure_fn, pure_agg, pure_tup, pure_nilS, pure_nilP, pure_natsP, pure_intsP, pure_strsP, pure_list, pure_cntsP]) ?_
  simp (disch := (first | assumption | omega | (simp only [push_cast] <;> omega))) only [go_sem]
  refine AXc.introN (fun h1 => ?_) (fun h1 => ?_)
  · simp (disch := (first | assumption | omega | (simp only [push_cast] <;> omega))) only [go_sem]
    unfold cmpK; rw [if_pos h1]
  · simp (disch := (first | assumption | omega | (simp only [push_cast] <;> omega))) only [go_sem]
    unfold cmpK; rw [if_neg (by simpa using h1)]
noncomputable def cOrder : List V → Option PR := conOf (fun p : Ent × Ent => [.agg (entV p.1), .agg (entV p.2)]) (fun p => shortK p.1.1 ∧ shortK p.2.1) fun p => .ret (.int .i64 (cmpK p.1.1 p.2.1))
theorem cOrder_eq (a b c d : Str) (n m : Int) (h1 : shortK (a, b)) (h2 : shortK (c, d)) : cOrder [.agg [.str a, .str b, .int .i64 n], .agg [.str c, .str d, .int .i64 m]] = some (.ret (.int .i64 (cmpK (a, b) (c, d)))) :=
  conOf_eq (pat := fun p : Ent × Ent => [.agg (entV p.1), .agg (entV p.2)]) (fun x y h => by simp only [List.cons.injEq, V.agg.injEq, and_true] at h; exact Prod.ext (entV_inj h.1) (entV_inj h.2)) (((a, b), n), ((c, d), m)) ⟨h1, h2⟩
theorem cOrder_ok : ∀ args r, cOrder args = some r → PCall Tryz.prog 50 args r := conOf_ok fun p hp => order_ok p.1 p.2 hp.1 hp.2
attribute [go_sem] cOrder_eq
def rlQ (b : Bool) : Str → Bool := match b with | true => nameE | false => nameB
def shortL (l : List Ent) : Prop := ∀ e ∈ l, shortK e.1
theorem rlQ_eq (b : Bool) (s : Str) : rlQ b s = (b && decide (s = []) || nameB s) := by
  cases b
  · rfl
  · unfold rlQ nameE
    cases s <;> rfl
theorem good_eq (b : Bool) (e : Ent) : (!nameB e.1.1 && !(b && decide (e.1.1 = [])) || !nameB e.1.2 && !(b && decide (e.1.2 = [])) || decide (e.2 < 1) || decide (1000000 < e.2)) = !goodB (rlQ b) e := by
  unfold goodB
  rw [rlQ_eq, rlQ_eq]
  generalize nameB e.1.1 = x
  generalize nameB e.1.2 = y
  generalize decide (e.1.1 = []) = u
  generalize decide (e.1.2 = []) = v
  generalize decide (e.2 < 1) = p
  generalize decide (1000000 < e.2) = r
  cases b <;> cases x <;> cases y <;> cases u <;> cases v <;> cases p <;> cases r <;> rfl
set_option maxHeartbeats 4000000 in
set_option maxRecDepth 100000 in
theorem list_ok (l : List Ent) (b : Bool) (hl : l.length ≤ 1000000) (hs : shortL l) : PCall Tryz.prog 25 [.fs (cnts l) l.length, .bool b] (.ret (.bool (vB (rlQ b) l))) := by
  refine PCall.walk (rs := [.tmp 4]) [0, 1, 4, 5, 8, 12, 87] [] mixed (extΓ_ok cRName_ok (extΓ_ok cOrder_ok noΓ_ok)) (noΔ_ok) call25 Tryz.func25 rfl Tryz.ntmps25 rfl (by kernel_rfl) (by simp) (by simp [pure_bool, pure_int, pure_str, pure_fs, pure_fp, pure_fn, pure_agg, pure_tup, pure_nilS, pure_nilP, pure_natsP, pure_intsP, pure_strsP, pure_list, pure_cntsP]) ?_
  simp only [go_sem]
  refine AXc.introP (fun h1 => ?_) (fun h1 => ?_)
  · simp only [go_sem]
    have : ¬ l.length ≤ 30000 := by omega
    simp [vB, this]
  have h1' : l.length ≤ 30000 := by omega
  simp only [go_sem]
  refine AXs.loop mixed (extΓ_ok cRName_ok (extΓ_ok cOrder_ok noΓ_ok)) (noΔ_ok) (fun i : Nat => [(0, .fs (cnts l) l.length), (1, .bool b), (5, .int .i64 i)]) (fun _ => ⟨[], 0⟩) (fun i => i ≤ l.length ∧ (∀ j, j < i → goodB (rlQ b) (nthE l j) = true) ∧ ∀ j, j + 1 < i → lt (nthE l j).1 (nthE l (j + 1)).1 = true) (fun i => l.length - i) 0 (by kernel_rfl)
    ⟨Nat.zero_le _, fun j hj => by omega, fun j hj => by omega⟩ (Sub.of0 [] rfl rfl ?_ ?_) ?_
  · simp only [go_sem]
  · simp only [go_sem]
  rintro i ⟨h2, h3, h4⟩
  simp only [go_sem]
  refine AXc.introP (fun h5 => ?_) (fun h5 => ?_)
  · have hi : i < l.length := by omega
    have a1 := cnts_at l i hi
    have s1 : shortK ((nthE l i).1.1, (nthE l i).1.2) := hs _ (nthE_mem hi)
    rcases Nat.eq_zero_or_pos i with h0 | h0
    · subst h0
      simp (config := { maxSteps := 2000000 }) (disch := (first | assumption | omega | (simp only [push_cast] <;> omega))) only [go_sem, a1]
      repeat' (first | refine And.intro ?_ ?_ | intro _)
      rotate_right 1
      · rw [good_eq]
        cases hg : goodB (rlQ b) (nthE l 0) with
        | false =>
          simp (disch := (first | assumption | omega | (simp only [push_cast] <;> omega))) only [go_sem]
          have := all_f (p := goodB (rlQ b)) (l := l) (i := 0) (by omega) hg
          simp [vB, this]
        | true =>
          simp (disch := (first | assumption | omega | (simp only [push_cast] <;> omega))) only [go_sem]
          refine loopK_norm 1 ⟨by omega, fun j hj => ?_, fun j hj => by omega⟩ (by omega) (Sub.of0 [] rfl rfl ?_ ?_)
          · obtain rfl : j = 0 := by omega
            exact hg
          · simp only [go_sem]
          · simp only [go_sem]
      all_goals first | omega | assumption | (cases hx : nameB (nthE l 0).1.1 <;> cases hy : nameB (nthE l 0).1.2 <;> simp_all)
    · have a2 := cnts_at l (i - 1) (by omega)
      have s2 : shortK ((nthE l (i - 1)).1.1, (nthE l (i - 1)).1.2) := hs _ (nthE_mem (by omega))
      simp (config := { maxSteps := 2000000 }) (disch := (first | assumption | omega | (simp only [push_cast] <;> omega))) only [go_sem, a1, a2]
      repeat' (first | refine And.intro ?_ ?_ | intro _)
      rotate_right 1
      · rw [good_eq]
        have e0 : decide (0 < (i : Int)) = true := decide_eq_true (by omega)
        rw [e0]
        cases hg : goodB (rlQ b) (nthE l i) with
        | false =>
          simp (disch := (first | assumption | omega | (simp only [push_cast] <;> omega))) only [go_sem]
          have := all_f (p := goodB (rlQ b)) (l := l) (i := i) (by omega) hg
          simp [vB, this]
        | true =>
          simp (disch := (first | assumption | omega | (simp only [push_cast] <;> omega))) only [go_sem]
          refine AXc.introP (fun h6 => ?_) (fun h6 => ?_)
          · simp (disch := (first | assumption | omega | (simp only [push_cast] <;> omega))) only [go_sem]
            have := incB_f (l := l) (i := i - 1) (by omega) (by rw [show i - 1 + 1 = i by omega]; exact (cmpK_ge _ _).1 h6)
            simp [vB, this]
          have h6' : ¬ 0 ≤ cmpK (nthE l (i - 1)).1 (nthE l i).1 := h6
          have h7 : lt (nthE l (i - 1)).1 (nthE l i).1 = true := (cmpK_neg _ _).1 (by omega)
          simp (disch := (first | assumption | omega | (simp only [push_cast] <;> omega))) only [go_sem]
          refine loopK_norm (i + 1) ⟨by omega, fun j hj => ?_, fun j hj => ?_⟩ (by omega) (Sub.of0 [] rfl rfl ?_ ?_)
          · by_cases hji : j < i
            · exact h3 j hji
            · obtain rfl : j = i := by omega
              exact hg
          · by_cases hji : j + 1 < i
            · exact h4 j hji
            · have : j = i - 1 := by omega
              subst this
              rw [show i - 1 + 1 = i by omega]; exact h7
          · simp only [go_sem]
            simp
          · simp only [go_sem]
      all_goals first | omega | assumption | (cases hx : nameB (nthE l i).1.1 <;> cases hy : nameB (nthE l i).1.2 <;> simp_all)
  · simp only [go_sem]
    refine AXa.go mixed (extΓ_ok cRName_ok (extΓ_ok cOrder_ok noΓ_ok)) (noΔ_ok) (by kernel_rfl) ?_
    simp (disch := (first | assumption | omega | (simp only [push_cast] <;> omega))) only [go_sem]
    have k1 := all_t (p := goodB (rlQ b)) (l := l) fun j hj => h3 j (by omega)
    have k2 := incB_t (l := l) fun j hj => h4 j (by omega)
    simp [vB, h1', k1, k2]
noncomputable def cList : List V → Option PR := conOf (fun p : List Ent × Bool => [.fs (cnts p.1) p.1.length, .bool p.2]) (fun p => p.1.length ≤ 1000000 ∧ shortL p.1) fun p => .ret (.bool (vB (rlQ p.2) p.1))
theorem cList_eq (l : List Ent) (n : Nat) (b : Bool) (hn : n = l.length) (hl : l.length ≤ 1000000) (hs : shortL l) : cList [.fs (cnts l) n, .bool b] = some (.ret (.bool (vB (rlQ b) l))) := by
  subst hn
  exact conOf_eq (pat := fun p : List Ent × Bool => [.fs (cnts p.1) p.1.length, .bool p.2]) (fun x y h => by
    simp only [List.cons.injEq, V.fs.injEq, V.bool.injEq, and_true] at h
    exact Prod.ext (cnts_inj h.1.1) h.2) (l, b) ⟨hl, hs⟩
theorem cList_ok : ∀ args r, cList args = some r → PCall Tryz.prog 25 args r := conOf_ok fun p hp => list_ok p.1 p.2 hp.1 hp.2
attribute [go_sem] cList_eq
theorem rvalid_ok (a b : List Ent) (ha : a.length ≤ 1000000) (hb : b.length ≤ 1000000) (sa : shortL a) (sb : shortL b) : PCall Tryz.prog 10 [.agg [.fs (cnts a) a.length, .fs (cnts b) b.length]] (.ret (.bool (validC a b))) := by
  refine PCall.walk (rs := [.tmp 2]) [0, 1, 2] [] mixed (extΓ_ok cList_ok noΓ_ok) (noΔ_ok) call10 Tryz.func10 rfl Tryz.ntmps10 rfl (by kernel_rfl) (by simp) (by simp [pure_bool, pure_int, pure_str, pure_fs, pure_fp, pure_fn, pure_agg, pure_tup, pure_nilS, pure_nilP, pure_natsP, pure_intsP, pure_strsP, pure_list, pure_cntsP]) ?_
  simp (disch := (first | assumption | omega | (simp only [push_cast] <;> omega))) only [go_sem]
  rfl
noncomputable def cRValid : List V → Option PR := conOf (fun p : List Ent × List Ent => [.agg [.fs (cnts p.1) p.1.length, .fs (cnts p.2) p.2.length]]) (fun p => (p.1.length ≤ 1000000 ∧ shortL p.1) ∧ p.2.length ≤ 1000000 ∧ shortL p.2) fun p => .ret (.bool (validC p.1 p.2))
theorem cRValid_eq (a b : List Ent) (n m : Nat) (hn : n = a.length) (hm : m = b.length) (ha : a.length ≤ 1000000) (hb : b.length ≤ 1000000) (sa : shortL a) (sb : shortL b) : cRValid [.agg [.fs (cnts a) n, .fs (cnts b) m]] = some (.ret (.bool (validC a b))) := by
  subst hn hm
  exact conOf_eq (pat := fun p : List Ent × List Ent => [.agg [.fs (cnts p.1) p.1.length, .fs (cnts p.2) p.2.length]]) (fun x y h => by
    simp only [List.cons.injEq, V.agg.injEq, V.fs.injEq, and_true] at h
    exact Prod.ext (cnts_inj h.1.1) (cnts_inj h.2.1)) (a, b) ⟨⟨ha, sa⟩, hb, sb⟩
theorem cRValid_ok : ∀ args r, cRValid args = some r → PCall Tryz.prog 10 args r := conOf_ok fun p hp => rvalid_ok p.1 p.2 hp.1.1 hp.2.1 hp.1.2 hp.2.2
attribute [go_sem] cRValid_eq
end Go.Proofs
