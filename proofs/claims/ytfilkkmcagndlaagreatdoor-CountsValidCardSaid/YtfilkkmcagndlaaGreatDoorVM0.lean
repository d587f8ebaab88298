/- Lists of strings, tables of strings, as values. -/
import Derived.Test.YtfilkkmcagndlaaGreatDoorS0Types
import Derived.Test.YtfilkkmcagndlaaGreatDoorAbWalk
set_option linter.unusedSimpArgs false
set_option linter.unusedVariables false
set_option linter.all false
namespace Go.Proofs
open Go.Ab Go.Cnt
theorem rl_buildSlice3 {P : Program} (t : TypeId) (a b c : V) (bs : List (Nat × Blk)) (m : Nat) : aBuildSlice P t 3 [(0, a), (1, b), (2, c)] ⟨bs, m⟩ = bsL (buildT P t) [a, b, c] ⟨bs, m⟩ (aBuildSlice0 P t 3 [(0, a), (1, b), (2, c)] ⟨bs, m⟩) := by
  unfold bsL
  split
  · rename_i s z hb
    split
    · rename_i hc
      obtain ⟨rfl, h1, h2, h3⟩ := hc
      simp only [List.all_cons, List.all_nil, Bool.and_true, Bool.and_eq_true] at h3
      obtain ⟨a1, a2⟩ := V.one_cells h3.1
      obtain ⟨b1, b2⟩ := V.one_cells h3.2.1
      obtain ⟨c1, c2⟩ := V.one_cells h3.2.2
      unfold buildT at hb
      split at hb
      · rename_i e he
        split at hb
        · rename_i s' z' k1 k2
          cases hb
          match hz : (cv z).cellsV, h2 with
          | [y], _ =>
            have zz : zerosV P e 3 = [y, y, y] := by simp [zerosV, k2, hz]
            simp [aBuildSlice, he, k1, k2, fillV, a1, a2, b1, b2, c1, c2, zz, hz, h1, putCells, Hp.new]
        · cases hb
      · cases hb
    · rfl
  · rfl
attribute [go_sem] rl_buildSlice3
theorem strR_cells (l : List Str) : strR.cells l = strs l := by
  induction l with
  | nil => rfl
  | cons a l ih => rw [Row.cells_cons, ih]; rfl
def rowR : Row (List Str) where
  enc s := [.fs (strs s) s.length]
  n := 1
  dflt := []
  len _ := rfl
  pos := by decide
  pure a x h := by
    simp only [List.mem_cons, List.not_mem_nil, or_false] at h
    subst h; exact .fs (pure_strs a)
  one _ := rfl
  inj a b h := by simp only [List.cons.injEq, V.fs.injEq, and_true] at h; exact strs_inj h.1
theorem rowR_sl (l : List (List Str)) : (slR strR).cells l = rowR.cells l := by
  induction l with
  | nil => rfl
  | cons a l ih =>
    rw [Row.cells_cons, Row.cells_cons, ih]
    show [V.fs (strR.cells a) a.length] ++ _ = [V.fs (strs a) a.length] ++ _
    rw [strR_cells]
def rowsC (m : List (List Str)) : List V := rowR.cells m
def nthR (m : List (List Str)) (i : Nat) : List Str := rowR.nth m i
theorem rowsC_at (m : List (List Str)) (i : Nat) (h : i < m.length) : (rowsC m).drop i = .fs (strs (nthR m i)) (nthR m i).length :: rowsC (m.drop (i + 1)) := by
  have := rowR.at_ m i h
  rwa [show i * rowR.n = i from Nat.mul_one i] at this
theorem pure_rowsC (m : List (List Str)) : ∀ x ∈ rowsC m, Pure x := rowR.pure_cells m
theorem pure_rowsCP (m : List (List Str)) : (∀ x ∈ rowsC m, Pure x) ↔ True := rowR.pure_cellsP m
theorem len_rowsC (m : List (List Str)) : (rowsC m).length = m.length := (rowR.len_cells m).trans (Nat.mul_one _)
theorem rowsC_inj {a b : List (List Str)} (h : rowsC a = rowsC b) : a = b := rowR.cells_inj h
attribute [go_sem] pure_rowsCP len_rowsC List.getElem?_cons_zero List.getElem?_cons_succ
structure Mdl where
  tags : List Str
  words : List Str
  next : List (List Str)
  emit : List (List Str)
def mdlV (m : Mdl) : V := .agg [.fs (strs m.tags) m.tags.length, .fs (strs m.words) m.words.length, .fs (rowsC m.next) m.next.length, .fs (rowsC m.emit) m.emit.length]
theorem mdl_pure (m : Mdl) : Pure (mdlV m) := .agg fun x h => by
  simp only [List.mem_cons, List.not_mem_nil, or_false] at h
  rcases h with rfl | rfl | rfl | rfl
  · exact .fs (pure_strs _)
  · exact .fs (pure_strs _)
  · exact .fs (pure_rowsC _)
  · exact .fs (pure_rowsC _)
theorem mdlV_inj {a b : Mdl} (h : mdlV a = mdlV b) : a = b := by
  obtain ⟨a1, a2, a3, a4⟩ := a
  obtain ⟨b1, b2, b3, b4⟩ := b
  simp only [mdlV, V.agg.injEq, List.cons.injEq, V.fs.injEq, and_true] at h
  obtain ⟨⟨h1, _⟩, ⟨h2, _⟩, ⟨h3, _⟩, ⟨h4, _⟩⟩ := h
  rw [strs_inj h1, strs_inj h2, rowsC_inj h3, rowsC_inj h4]
end Go.Proofs

/- Strings of a list, one by one. -/
namespace Go.Proofs
open Go.Ab Go.Cnt
theorem allS_t {p : Str → Bool} {l : List Str} (h : ∀ i, i < l.length → p (l.getD i []) = true) : l.all p = true := List.all_eq_true.2 fun x hx => by
  obtain ⟨i, hi, rfl⟩ := List.mem_iff_getElem.1 hx
  have := h i hi
  rwa [List.getD_eq_getElem?_getD, List.getElem?_eq_getElem hi] at this
theorem getS_mem {l : List Str} {i : Nat} (hi : i < l.length) : l.getD i [] ∈ l := by
  rw [List.getD_eq_getElem?_getD, List.getElem?_eq_getElem hi]
  exact List.getElem_mem hi
theorem allS_f {p : Str → Bool} {l : List Str} {i : Nat} (hi : i < l.length) (h : p (l.getD i []) = false) : l.all p = false := by
  cases e : l.all p with
  | false => rfl
  | true => rw [List.all_eq_true.1 e _ (getS_mem hi)] at h; cases h
end Go.Proofs

/- Names, comparisons of keys: what the program's functions give. -/
namespace Go.Proofs
open Go.Ab Go.Cnt
def nameB (s : Str) : Bool := !(s == []) && decide (s.length ≤ 40)
def nameE (s : Str) : Bool := s == [] || nameB s
theorem isName_ok (s : Str) : PCall Tryz.prog 24 [.str s] (.ret (.bool (nameB s))) := by
  refine PCall.walk (rs := [.tmp 2]) [0, 2] [] mixed (noΓ_ok) (noΔ_ok) call24 Tryz.func24 rfl Tryz.ntmps24 rfl (by kernel_rfl) (by simp) (by simp [pure_bool, pure_int, pure_str, pure_fs, pure_fp, pure_fn, pure_agg, pure_tup, pure_nilS, pure_nilP, pure_natsP, pure_intsP, pure_strsP, pure_list, pure_cntsP]) ?_
  simp only [go_sem]
  have e : decide ((s.length : Int) ≤ 40) = decide (s.length ≤ 40) := decide_eq_decide.2 (by omega)
  unfold nameB
  rw [e]
  cases s <;> simp
noncomputable def cName : List V → Option PR := conOf (fun a : Str => [.str a]) (fun _ => True) fun a => .ret (.bool (nameB a))
theorem cName_eq (a : Str) : cName [.str a] = some (.ret (.bool (nameB a))) := conOf_eq (pat := fun a : Str => [.str a]) (fun x y h => by simpa using h) a trivial
theorem cName_ok : ∀ args r, cName args = some r → PCall Tryz.prog 24 args r := conOf_ok fun a _ => isName_ok a
attribute [go_sem] cName_eq
theorem isNameE_ok (s : Str) : PCall Tryz.prog 23 [.str s] (.ret (.bool (nameE s))) := by
  refine PCall.walk (rs := [.tmp 2]) [0, 2] [] mixed (extΓ_ok cName_ok noΓ_ok) (noΔ_ok) call23 Tryz.func23 rfl Tryz.ntmps23 rfl (by kernel_rfl) (by simp) (by simp [pure_bool, pure_int, pure_str, pure_fs, pure_fp, pure_fn, pure_agg, pure_tup, pure_nilS, pure_nilP, pure_natsP, pure_intsP, pure_strsP, pure_list, pure_cntsP]) ?_
  simp only [go_sem]
  by_cases h : s = [] <;> simp [nameE, h]
noncomputable def cNameE : List V → Option PR := conOf (fun a : Str => [.str a]) (fun _ => True) fun a => .ret (.bool (nameE a))
theorem cNameE_eq (a : Str) : cNameE [.str a] = some (.ret (.bool (nameE a))) := conOf_eq (pat := fun a : Str => [.str a]) (fun x y h => by simpa using h) a trivial
theorem cNameE_ok : ∀ args r, cNameE args = some r → PCall Tryz.prog 23 args r := conOf_ok fun a _ => isNameE_ok a
attribute [go_sem] cNameE_eq
theorem isNaN_ok (s : Str) : PCall Tryz.prog 51 [.str s] (.ret (.bool false)) := by
  refine PCall.walk (rs := [.tmp 2]) [0, 2] [] mixed (noΓ_ok) (noΔ_ok) call51 Tryz.func51 rfl Tryz.ntmps51 rfl (by kernel_rfl) (by simp) (by simp [pure_bool, pure_int, pure_str, pure_fs, pure_fp, pure_fn, pure_agg, pure_tup, pure_nilS, pure_nilP, pure_natsP, pure_intsP, pure_strsP, pure_list, pure_cntsP]) ?_
  simp only [go_sem]
noncomputable def cIsNaN : List V → Option PR := conOf (fun a : Str => [.str a]) (fun _ => True) fun _ => .ret (.bool false)
theorem cIsNaN_eq (a : Str) : cIsNaN [.str a] = some (.ret (.bool false)) := conOf_eq (pat := fun a : Str => [.str a]) (fun x y h => by simpa using h) a trivial
theorem cIsNaN_ok : ∀ args r, cIsNaN args = some r → PCall Tryz.prog 51 args r := conOf_ok fun a _ => isNaN_ok a
attribute [go_sem] cIsNaN_eq
theorem cmpS_ok (a b : Str) : PCall Tryz.prog 27 [.str a, .str b] (.ret (.int .i64 (cmpS a b))) := by
  refine PCall.walk (rs := [.tmp 4]) [0, 1, 4, 5, 6, 11, 12, 13, 16, 19] [] mixed (extΓ_ok cIsNaN_ok noΓ_ok) (noΔ_ok) call27 Tryz.func27 rfl Tryz.ntmps27 rfl (by kernel_rfl) (by simp) (by simp [pure_bool, pure_int, pure_str, pure_fs, pure_fp, pure_fn, pure_agg, pure_tup, pure_nilS, pure_nilP, pure_natsP, pure_intsP, pure_strsP, pure_list, pure_cntsP]) ?_
  simp only [go_sem]
  rcases cmpS_cases a b with ⟨h, e⟩ | ⟨h, e⟩ | ⟨h, h', e⟩
  · have h1 : ltS a b = true := h
    simp only [go_sem, h1, e]
  · subst h
    have h1 : ltS a a = false := bl_irrefl a
    simp only [go_sem, h1, e]
  · have h1 : ltS a b = false := h'
    have h2 : ¬ a = b := fun he => by subst he; rw [bl_irrefl] at h; cases h
    simp only [go_sem, h1, h2, decide_false, e]
noncomputable def cCmpS : List V → Option PR := conOf (fun p : Str × Str => [.str p.1, .str p.2]) (fun _ => True) fun p => .ret (.int .i64 (cmpS p.1 p.2))
theorem cCmpS_eq (a b : Str) : cCmpS [.str a, .str b] = some (.ret (.int .i64 (cmpS a b))) := conOf_eq (pat := fun p : Str × Str => [.str p.1, .str p.2]) (fun x y h => by simp at h; exact Prod.ext h.1 h.2) (a, b) trivial
theorem cCmpS_ok : ∀ args r, cCmpS args = some r → PCall Tryz.prog 27 args r := conOf_ok fun p _ => cmpS_ok p.1 p.2
attribute [go_sem] cCmpS_eq
def orI (x y : Int) : Int := if x ≠ 0 then x else y
theorem or_ok (x y : Int) : PCall Tryz.prog 80 [.fs [.int .i64 x, .int .i64 y] 2] (.ret (.int .i64 (orI x y))) := by
  refine PCall.walk (rs := [.tmp 2]) [0, 2, 3, 5, 6, 7, 8, 9, 14] [] mixed (noΓ_ok) (noΔ_ok) call80 Tryz.func80 rfl Tryz.ntmps80 rfl (by kernel_rfl) (by simp) (by simp [pure_bool, pure_int, pure_str, pure_fs, pure_fp, pure_fn, pure_agg, pure_tup, pure_nilS, pure_nilP, pure_natsP, pure_intsP, pure_strsP, pure_list, pure_cntsP]) ?_
  simp only [go_sem]
  refine AXs.rounds mixed noΓ_ok noΔ_ok [(), ()] (by kernel_rfl) ?_
  simp only [go_sem]
  by_cases hx : x = 0
  · subst hx
    simp only [go_sem]
    by_cases hy : y = 0
    · subst hy
      simp only [go_sem]
      refine AXa.go mixed (noΓ_ok) (noΔ_ok) (by kernel_rfl) ?_
      simp only [go_sem, orI]
    · simp only [go_sem, hy, orI]
  · simp only [go_sem, hx, orI]
noncomputable def cOr : List V → Option PR := conOf (fun p : Int × Int => [.fs [.int .i64 p.1, .int .i64 p.2] 2]) (fun _ => True) fun p => .ret (.int .i64 (orI p.1 p.2))
theorem cOr_eq (x y : Int) : cOr [.fs [.int .i64 x, .int .i64 y] 2] = some (.ret (.int .i64 (orI x y))) := conOf_eq (pat := fun p : Int × Int => [.fs [.int .i64 p.1, .int .i64 p.2] 2]) (fun x y h => by simp at h; exact Prod.ext h.1 h.2) (x, y) trivial
theorem cOr_ok : ∀ args r, cOr args = some r → PCall Tryz.prog 80 args r := conOf_ok fun p _ => or_ok p.1 p.2
attribute [go_sem] cOr_eq
theorem cmpK_ok (a b c d : Str) (n m : Int) : PCall Tryz.prog 48 [.agg [.str a, .str b, .int .i64 n], .agg [.str c, .str d, .int .i64 m]] (.ret (.int .i64 (cmpK (a, b) (c, d)))) := by
  refine PCall.walk (rs := [.tmp 4]) [0, 1, 2, 3, 4] [] mixed (extΓ_ok cCmpS_ok (extΓ_ok cOr_ok noΓ_ok)) (noΔ_ok) call48 Tryz.func48 rfl Tryz.ntmps48 rfl (by kernel_rfl) (by simp) (by simp [pure_bool, pure_int, pure_str, pure_fs, pure_fp, pure_fn, pure_agg, pure_tup, pure_nilS, pure_nilP, pure_natsP, pure_intsP, pure_strsP, pure_list, pure_cntsP]) ?_
  simp only [go_sem]
  refine AXk.intro (by kernel_rfl) ?_
  simp only [go_sem]
  simp only [orI, cmpK]
noncomputable def cCmpK : List V → Option PR := conOf (fun p : Ent × Ent => [.agg (entV p.1), .agg (entV p.2)]) (fun _ => True) fun p => .ret (.int .i64 (cmpK p.1.1 p.2.1))
theorem cCmpK_eq (a b c d : Str) (n m : Int) : cCmpK [.agg [.str a, .str b, .int .i64 n], .agg [.str c, .str d, .int .i64 m]] = some (.ret (.int .i64 (cmpK (a, b) (c, d)))) :=
  conOf_eq (pat := fun p : Ent × Ent => [.agg (entV p.1), .agg (entV p.2)]) (fun x y h => by simp only [List.cons.injEq, V.agg.injEq, and_true] at h; exact Prod.ext (entV_inj h.1) (entV_inj h.2)) (((a, b), n), ((c, d), m)) trivial
theorem cCmpK_ok : ∀ args r, cCmpK args = some r → PCall Tryz.prog 48 args r := conOf_ok fun p _ => cmpK_ok p.1.1.1 p.1.1.2 p.2.1.1 p.2.1.2 p.1.2 p.2.2
attribute [go_sem] cCmpK_eq
end Go.Proofs

/- Lists of counts: whether they are valid. -/
namespace Go.Proofs
open Go.Ab Go.Cnt
noncomputable def incB (l : List Ent) : Bool := @decide (∀ i, i + 1 < l.length → lt (nthE l i).1 (nthE l (i + 1)).1 = true) (Classical.propDecidable _)
open Classical in
theorem incB_t {l : List Ent} (h : ∀ i, i + 1 < l.length → lt (nthE l i).1 (nthE l (i + 1)).1 = true) : incB l = true := by unfold incB; exact decide_eq_true h
open Classical in
theorem incB_f {l : List Ent} {i : Nat} (hi : i + 1 < l.length) (h : lt (nthE l i).1 (nthE l (i + 1)).1 = false) : incB l = false := by
  unfold incB; exact decide_eq_false fun k => by rw [k i hi] at h; cases h
set_option maxHeartbeats 4000000 in
theorem increasing_ok (l : List Ent) (hl : l.length ≤ 1000000) : PCall Tryz.prog 47 [.fs (cnts l) l.length, .fn 48 []] (.ret (.bool (incB l))) := by
  refine PCall.walk (rs := [.tmp 4]) [0, 1, 4, 5, 9, 23] [] mixed (extΓ_ok cCmpK_ok noΓ_ok) (noΔ_ok) call47 Tryz.func47 rfl Tryz.ntmps47 rfl (by kernel_rfl) (by simp) (by simp [pure_bool, pure_int, pure_str, pure_fs, pure_fp, pure_fn, pure_agg, pure_tup, pure_nilS, pure_nilP, pure_natsP, pure_intsP, pure_strsP, pure_list, pure_cntsP]) ?_
  simp only [go_sem]
  refine AXs.loop mixed (extΓ_ok cCmpK_ok noΓ_ok) (noΔ_ok) (fun i : Nat => [(0, .fs (cnts l) l.length), (1, .fn 48 []), (5, .int .i64 i)]) (fun _ => ⟨[], 0⟩) (fun i => 1 ≤ i ∧ (i ≤ 1 ∨ i ≤ l.length) ∧ ∀ j, j + 1 < i → lt (nthE l j).1 (nthE l (j + 1)).1 = true) (fun i => l.length + 1 - i) 1 (by kernel_rfl)
    ⟨Nat.le_refl _, .inl (Nat.le_refl _), fun j hj => by omega⟩ (Sub.of0 [] rfl rfl ?_ ?_) ?_
  · simp only [go_sem]
  · simp only [go_sem]
  rintro i ⟨h1, h2, h3⟩
  simp only [go_sem]
  refine AXc.introP (fun h4 => ?_) (fun h4 => ?_)
  · have a1 := cnts_at l (i - 1) (by omega)
    have a2 := cnts_at l i (by omega)
    simp (disch := (first | assumption | omega | (simp only [push_cast] <;> omega))) only [go_sem, a1, a2]
    refine ⟨by omega, by omega, ?_⟩
    refine AXc.introP (fun h5 => ?_) (fun h5 => ?_)
    · simp only [go_sem]
      exact (incB_f (i := i - 1) (by omega) (by rw [show i - 1 + 1 = i by omega]; exact (cmpK_ge _ _).1 h5)).symm
    · have h5' : ¬ 0 ≤ cmpK (nthE l (i - 1)).1 (nthE l i).1 := h5
      have h6 : lt (nthE l (i - 1)).1 (nthE l i).1 = true := (cmpK_neg _ _).1 (by omega)
      simp (disch := (first | assumption | omega | (simp only [push_cast] <;> omega))) only [go_sem]
      refine loopK_norm (i + 1) ⟨by omega, by omega, fun j hj => ?_⟩ (by omega) (Sub.of0 [] rfl rfl ?_ ?_)
      · by_cases hji : j + 1 < i
        · exact h3 j hji
        · have : j = i - 1 := by omega
          subst this
          rw [show i - 1 + 1 = i by omega]; exact h6
      · simp only [go_sem]
        simp
      · simp only [go_sem]
  · simp only [go_sem]
    refine AXa.go mixed (extΓ_ok cCmpK_ok noΓ_ok) (noΔ_ok) (by kernel_rfl) ?_
    simp only [go_sem]
    exact (incB_t fun j hj => h3 j (by omega)).symm
noncomputable def cInc : List V → Option PR := conOf (fun l : List Ent => [.fs (cnts l) l.length, .fn 48 []]) (fun l => l.length ≤ 1000000) fun l => .ret (.bool (incB l))
theorem cInc_eq (l : List Ent) (n : Nat) (hn : n = l.length) (hl : l.length ≤ 1000000) : cInc [.fs (cnts l) n, .fn 48 []] = some (.ret (.bool (incB l))) := by
  subst hn; exact conOf_eq (pat := fun l : List Ent => [.fs (cnts l) l.length, .fn 48 []]) (fun x y h => by simp at h; exact cnts_inj h.1) l hl
theorem cInc_ok : ∀ args r, cInc args = some r → PCall Tryz.prog 47 args r := conOf_ok increasing_ok
attribute [go_sem] cInc_eq
def goodB (q : Str → Bool) (e : Ent) : Bool := !(decide (e.2 < 1) || decide (1000000 < e.2) || !q e.1.1 || !q e.1.2)
noncomputable def vB (q : Str → Bool) (l : List Ent) : Bool := decide (l.length ≤ 30000) && l.all (goodB q) && incB l
theorem all_t {p : Ent → Bool} : ∀ {l : List Ent}, (∀ i, i < l.length → p (nthE l i) = true) → l.all p = true
  | [], _ => rfl
  | e :: l, h => by
    rw [List.all_cons, all_t (l := l) fun i hi => h (i + 1) (by simpa using hi)]
    have := h 0 (by simp)
    simpa [nthE] using this
theorem nthE_mem {l : List Ent} {i : Nat} (h : i < l.length) : nthE l i ∈ l := by
  unfold nthE
  rw [List.getD_eq_getElem?_getD, List.getElem?_eq_getElem h]
  exact List.getElem_mem h
theorem all_f {p : Ent → Bool} {l : List Ent} {i : Nat} (hi : i < l.length) (h : p (nthE l i) = false) : l.all p = false := by
  cases e : l.all p with
  | false => rfl
  | true => rw [List.all_eq_true.1 e _ (nthE_mem hi)] at h; cases h
set_option maxHeartbeats 4000000 in
theorem validList_ok (l : List Ent) (hl : l.length ≤ 1000000) : PCall Tryz.prog 22 [.fs (cnts l) l.length, .fn 24 []] (.ret (.bool (vB nameB l))) := by
  refine PCall.walk (rs := [.tmp 4]) [0, 1, 4, 6, 9, 10, 11, 12, 13, 37] [] mixed (extΓ_ok cName_ok (extΓ_ok cInc_ok noΓ_ok)) (noΔ_ok) call22 Tryz.func22 rfl Tryz.ntmps22 rfl (by kernel_rfl) (by simp) (by simp [pure_bool, pure_int, pure_str, pure_fs, pure_fp, pure_fn, pure_agg, pure_tup, pure_nilS, pure_nilP, pure_natsP, pure_intsP, pure_strsP, pure_list, pure_cntsP]) ?_
  simp only [go_sem]
  refine AXc.introP (fun h1 => ?_) (fun h1 => ?_)
  · simp only [go_sem]
    have : ¬ l.length ≤ 30000 := by omega
    simp [vB, this]
  have h1' : l.length ≤ 30000 := by omega
  simp only [go_sem]
  refine AXs.loop mixed (extΓ_ok cName_ok (extΓ_ok cInc_ok noΓ_ok)) (noΔ_ok) (fun i : Nat => [(0, .fs (cnts l) l.length), (1, .fn 24 []), (10, .fs (cnts l) l.length), (11, .int .i64 l.length), (12, .int .i64 i)]) (fun _ => ⟨[], 0⟩) (fun i => i ≤ l.length ∧ ∀ j, j < i → goodB nameB (nthE l j) = true) (fun i => l.length - i) 0 (by kernel_rfl)
    ⟨Nat.zero_le _, fun j hj => by omega⟩ (Sub.of0 [] rfl rfl ?_ ?_) ?_
  · simp only [go_sem]
  · simp only [go_sem]
  rintro i ⟨h2, h3⟩
  simp only [go_sem]
  refine AXc.introP (fun h4 => ?_) (fun h4 => ?_)
  · have a1 := cnts_at l i (by omega)
    simp (disch := (first | assumption | omega | (simp only [push_cast] <;> omega))) only [go_sem, a1]
    refine ⟨by omega, ?_⟩
    have hb : (decide ((nthE l i).2 < 1) || decide (1000000 < (nthE l i).2) || !nameB (nthE l i).1.1 || !nameB (nthE l i).1.2) = !goodB nameB (nthE l i) := by simp [goodB]
    rw [hb]
    cases hg : goodB nameB (nthE l i) with
    | false =>
      simp (disch := (first | assumption | omega | (simp only [push_cast] <;> omega))) only [go_sem]
      have := all_f (p := goodB nameB) (l := l) (i := i) (by omega) hg
      simp [vB, this]
    | true =>
      simp (disch := (first | assumption | omega | (simp only [push_cast] <;> omega))) only [go_sem]
      refine loopK_norm (i + 1) ⟨by omega, fun j hj => ?_⟩ (by omega) (Sub.of0 [] rfl rfl ?_ ?_)
      · by_cases hji : j < i
        · exact h3 j hji
        · obtain rfl : j = i := by omega
          exact hg
      · simp only [go_sem]
        simp
      · simp only [go_sem]
  · simp only [go_sem]
    refine AXa.go mixed (extΓ_ok cName_ok (extΓ_ok cInc_ok noΓ_ok)) (noΔ_ok) (by kernel_rfl) ?_
    simp (disch := (first | assumption | omega | (simp only [push_cast] <;> omega))) only [go_sem]
    have := all_t (p := goodB nameB) (l := l) fun j hj => h3 j (by omega)
    simp [vB, h1', this]
set_option maxHeartbeats 4000000 in
theorem validListE_ok (l : List Ent) (hl : l.length ≤ 1000000) : PCall Tryz.prog 22 [.fs (cnts l) l.length, .fn 23 []] (.ret (.bool (vB nameE l))) := by
  refine PCall.walk (rs := [.tmp 4]) [0, 1, 4, 6, 9, 10, 11, 12, 13, 37] [] mixed (extΓ_ok cNameE_ok (extΓ_ok cInc_ok noΓ_ok)) (noΔ_ok) call22 Tryz.func22 rfl Tryz.ntmps22 rfl (by kernel_rfl) (by simp) (by simp [pure_bool, pure_int, pure_str, pure_fs, pure_fp, pure_fn, pure_agg, pure_tup, pure_nilS, pure_nilP, pure_natsP, pure_intsP, pure_strsP, pure_list, pure_cntsP]) ?_
  simp only [go_sem]
  refine AXc.introP (fun h1 => ?_) (fun h1 => ?_)
  · simp only [go_sem]
    have : ¬ l.length ≤ 30000 := by omega
    simp [vB, this]
  have h1' : l.length ≤ 30000 := by omega
  simp only [go_sem]
  refine AXs.loop mixed (extΓ_ok cNameE_ok (extΓ_ok cInc_ok noΓ_ok)) (noΔ_ok) (fun i : Nat => [(0, .fs (cnts l) l.length), (1, .fn 23 []), (10, .fs (cnts l) l.length), (11, .int .i64 l.length), (12, .int .i64 i)]) (fun _ => ⟨[], 0⟩) (fun i => i ≤ l.length ∧ ∀ j, j < i → goodB nameE (nthE l j) = true) (fun i => l.length - i) 0 (by kernel_rfl)
    ⟨Nat.zero_le _, fun j hj => by omega⟩ (Sub.of0 [] rfl rfl ?_ ?_) ?_
  · simp only [go_sem]
  · simp only [go_sem]
  rintro i ⟨h2, h3⟩
  simp only [go_sem]
  refine AXc.introP (fun h4 => ?_) (fun h4 => ?_)
  · have a1 := cnts_at l i (by omega)
    simp (disch := (first | assumption | omega | (simp only [push_cast] <;> omega))) only [go_sem, a1]
    refine ⟨by omega, ?_⟩
    have hb : (decide ((nthE l i).2 < 1) || decide (1000000 < (nthE l i).2) || !nameE (nthE l i).1.1 || !nameE (nthE l i).1.2) = !goodB nameE (nthE l i) := by simp [goodB]
    rw [hb]
    cases hg : goodB nameE (nthE l i) with
    | false =>
      simp (disch := (first | assumption | omega | (simp only [push_cast] <;> omega))) only [go_sem]
      have := all_f (p := goodB nameE) (l := l) (i := i) (by omega) hg
      simp [vB, this]
    | true =>
      simp (disch := (first | assumption | omega | (simp only [push_cast] <;> omega))) only [go_sem]
      refine loopK_norm (i + 1) ⟨by omega, fun j hj => ?_⟩ (by omega) (Sub.of0 [] rfl rfl ?_ ?_)
      · by_cases hji : j < i
        · exact h3 j hji
        · obtain rfl : j = i := by omega
          exact hg
      · simp only [go_sem]
        simp
      · simp only [go_sem]
  · simp only [go_sem]
    refine AXa.go mixed (extΓ_ok cNameE_ok (extΓ_ok cInc_ok noΓ_ok)) (noΔ_ok) (by kernel_rfl) ?_
    simp (disch := (first | assumption | omega | (simp only [push_cast] <;> omega))) only [go_sem]
    have := all_t (p := goodB nameE) (l := l) fun j hj => h3 j (by omega)
    simp [vB, h1', this]
def vlF (b : Bool) : FuncId := match b with | true => 23 | false => 24
def vlQ (b : Bool) : Str → Bool := match b with | true => nameE | false => nameB
noncomputable def cVL : List V → Option PR := conOf (fun p : Bool × List Ent => [.fs (cnts p.2) p.2.length, .fn (vlF p.1) []]) (fun p => p.2.length ≤ 1000000) fun p => .ret (.bool (vB (vlQ p.1) p.2))
theorem cVL_inj (x y : Bool × List Ent) (h : ([.fs (cnts x.2) x.2.length, .fn (vlF x.1) []] : List V) = [.fs (cnts y.2) y.2.length, .fn (vlF y.1) []]) : x = y := by
  simp only [List.cons.injEq, V.fs.injEq, V.fn.injEq, and_true] at h
  obtain ⟨⟨h1, _⟩, h2⟩ := h
  obtain ⟨a, l⟩ := x
  obtain ⟨b, r⟩ := y
  have hl := cnts_inj h1
  simp only at hl h2
  subst hl
  cases a <;> cases b <;> first | rfl | (exact absurd h2 (by decide))
theorem cVL_t (l : List Ent) (n : Nat) (hn : n = l.length) (hl : l.length ≤ 1000000) : cVL [.fs (cnts l) n, .fn 23 []] = some (.ret (.bool (vB nameE l))) := by
  subst hn; exact conOf_eq (pat := fun p : Bool × List Ent => [.fs (cnts p.2) p.2.length, .fn (vlF p.1) []]) cVL_inj (true, l) hl
theorem cVL_f (l : List Ent) (n : Nat) (hn : n = l.length) (hl : l.length ≤ 1000000) : cVL [.fs (cnts l) n, .fn 24 []] = some (.ret (.bool (vB nameB l))) := by
  subst hn; exact conOf_eq (pat := fun p : Bool × List Ent => [.fs (cnts p.2) p.2.length, .fn (vlF p.1) []]) cVL_inj (false, l) hl
theorem cVL_ok : ∀ args r, cVL args = some r → PCall Tryz.prog 22 args r := conOf_ok fun p hp => by
  obtain ⟨b, l⟩ := p
  cases b
  · exact validList_ok l hp
  · exact validListE_ok l hp
attribute [go_sem] cVL_t cVL_f
noncomputable def validC (a b : List Ent) : Bool := vB nameE a && vB nameB b
theorem cvalid_ok (a b : List Ent) (ha : a.length ≤ 1000000) (hb : b.length ≤ 1000000) : PCall Tryz.prog 9 [.agg [.fs (cnts a) a.length, .fs (cnts b) b.length]] (.ret (.bool (validC a b))) := by
  refine PCall.walk (rs := [.tmp 2]) [0, 1, 2] [] mixed (extΓ_ok cVL_ok noΓ_ok) (noΔ_ok) call9 Tryz.func9 rfl Tryz.ntmps9 rfl (by kernel_rfl) (by simp) (by simp [pure_bool, pure_int, pure_str, pure_fs, pure_fp, pure_fn, pure_agg, pure_tup, pure_nilS, pure_nilP, pure_natsP, pure_intsP, pure_strsP, pure_list, pure_cntsP]) ?_
  simp (disch := (first | assumption | omega | (simp only [push_cast] <;> omega))) only [go_sem]
  rfl
noncomputable def cCValid : List V → Option PR := conOf (fun p : List Ent × List Ent => [.agg [.fs (cnts p.1) p.1.length, .fs (cnts p.2) p.2.length]]) (fun p => p.1.length ≤ 1000000 ∧ p.2.length ≤ 1000000) fun p => .ret (.bool (validC p.1 p.2))
theorem cCValid_eq (a b : List Ent) (n m : Nat) (hn : n = a.length) (hm : m = b.length) (ha : a.length ≤ 1000000) (hb : b.length ≤ 1000000) : cCValid [.agg [.fs (cnts a) n, .fs (cnts b) m]] = some (.ret (.bool (validC a b))) := by
  subst hn hm
  exact conOf_eq (pat := fun p : List Ent × List Ent => [.agg [.fs (cnts p.1) p.1.length, .fs (cnts p.2) p.2.length]]) (fun x y h => by
    simp only [List.cons.injEq, V.agg.injEq, V.fs.injEq, and_true] at h
    exact Prod.ext (cnts_inj h.1.1) (cnts_inj h.2.1)) (a, b) ⟨ha, hb⟩
theorem cCValid_ok : ∀ args r, cCValid args = some r → PCall Tryz.prog 9 args r := conOf_ok fun p hp => cvalid_ok p.1 p.2 hp.1 hp.2
attribute [go_sem] cCValid_eq
end Go.Proofs
