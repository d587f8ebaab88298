/- The operations' soundness, seventh part: copy, clear. -/
import Derived.Test.YtajodjbnkeeonaaGreatDoorAbOpOk6
set_option linter.unusedSimpArgs false
set_option linter.unusedVariables false
namespace Go.Ab
section
variable {P : Program} {g : G} {base : Nat} {H : Hp} {D : Nat → Prop} {w : World}

/-- Cells written one behind the other. -/
theorem write_cells (h : Inv g base H D w) {b off : Nat} {cs news : List V} {T : Tgt} {na : Array Value} (hDb : D b) (hg : H.get b = some (.cells cs)) (hm : g.mu b = some T) (hsz : na.size = news.length)
    (hp : PW g news (fun i => na[i]?)) (hones : news.all V.one = true) (hb : off + news.length ≤ cs.length) :
    ∃ w', (storeCells ⟨T.c, T.sh + off, none⟩ na.toList).run P w = .ok () w' ∧ Post g g base H (H.put b (.cells (putCells cs off news))) D [b] w w' := by
  obtain ⟨T1, o, m1, p1, h1, r1⟩ := h.cont b _ hDb hg
  obtain rfl : T1 = T := by rw [hm] at m1; exact (Option.some.inj m1).symm
  cases r1 with
  | cells hs hbd hcs =>
    rename_i arr ty
    obtain ⟨w', arr', hr, hh, hs', hk, honly⟩ := run_storeCells (P := P) (c := T1.c) (o := T1.sh + off) na.toList 0 w arr h1 (hp.ones hsz hones) (by simp [hsz]; omega)
    refine ⟨w', hr, Post.put h hDb hg hm hh honly.other honly.size honly.os honly.tape honly.output ?_⟩
    refine .cells (hs'.trans hs) (by rw [putCells_len hb]; exact hbd) ?_
    refine PW.put hcs (vs := na.toList) (by simpa using hp) (by simpa using hsz) hb fun k => ?_
    show arr'[T1.sh + k]? = _
    rw [hk]
    simp only [Nat.add_zero, Array.length_toList, hsz]
    by_cases hc : off ≤ k ∧ k < off + news.length
    · rw [if_pos (by omega), if_pos hc]; congr 1; omega
    · rw [if_neg (by omega), if_neg hc]

/-- The first of a source's cells. -/
theorem srcCells_le (h : Inv g base H D w) {xT : TypeId} {x : V} {xc : Value} {sz n m : Nat} {cs : List V} {R : List Nat} (hx : VRel g x xc) (hs : srcCells P H xT x sz = some (cs, n, R)) (hD : ∀ b ∈ R, D b) (hm : m ≤ n) :
    ∃ arr : Array Value, arr.size = m * sz ∧ PW g (cs.take (m * sz)) (fun i => arr[i]?) ∧ (Builtin.firstCells sz m xc).run P w = .ok arr w := by
  unfold srcCells at hs
  split at hs
  · rename_i s hu
    split at hs
    · rename_i h1
      subst h1
      cases hs
      obtain ⟨sb, rfl, rfl⟩ := hx.inv_str
      refine ⟨(sb.extract 0 m).data.map fun b => .int .u8 b.toNat, ?_, ?_, rfl⟩
      · rw [Array.size_map, ← Array.length_toList, extract_list]
        simp
        have hm' : m ≤ sb.size := by simpa using hm
        omega
      · intro i y hy
        rw [Nat.mul_one, ← List.map_take, List.getElem?_map] at hy
        cases e : (sb.data.toList.take m)[i]? with
        | none => rw [e] at hy; cases hy
        | some c =>
          rw [e] at hy
          cases hy
          refine ⟨.int .u8 c.toNat, ?_, .int _ _⟩
          show ((sb.extract 0 m).data.map fun b => Value.int .u8 b.toNat)[i]? = _
          rw [Array.getElem?_map, ← Array.getElem?_toList, extract_list, List.drop_zero, e]; rfl
    · cases hs
  · rename_i e hu
    have hms : m * sz ≤ n * sz := Nat.mul_le_mul_right _ hm
    obtain ⟨hl, hc⟩ := sliceCells_ok h hx hs hD
    rcases hc with ⟨rfl, rfl⟩ | ⟨a, cap, rfl, hc⟩
    · obtain rfl : m = 0 := by omega
      exact ⟨#[], by simp, by rw [Nat.zero_mul, List.take_zero]; exact PW.nil, rfl⟩
    · have hz : m * sz = 0 → ∃ arr : Array Value, arr.size = m * sz ∧ PW g (cs.take (m * sz)) (fun i => arr[i]?) ∧ (Builtin.firstCells sz m (.slice (some a) n cap)).run P w = .ok arr w := fun e0 =>
        ⟨#[], by simp [e0], by rw [e0, List.take_zero]; exact PW.nil, by simp [Builtin.firstCells, e0, loadCells, loadCellsFrom]⟩
      rcases hc with ⟨rfl, e⟩ | ⟨e0, e⟩ | ⟨c, o, arr, t, fr, rfl, hh, hpw, hb⟩
      · obtain rfl : m = 0 := by omega
        exact hz (by simp)
      · exact hz (by omega)
      · refine ⟨arr.extract o (o + m * sz), by simp; omega, (hpw.take (m * sz)).extract (by rw [List.length_take, hl]; omega), ?_⟩
        simp only [Builtin.firstCells]
        exact run_loadCells_at hh (by omega)
  · cases hs

theorem xCopy_ok (h : Inv g base H D w) {dT xT ty : TypeId} {d x : V} {dc xc : Value} (hd : VRel g d dc) (hx : VRel g x xc) (hp : (XR.ar H (xCopy P dT xT d x H)).pre) (hD : ∀ b ∈ (XR.ar H (xCopy P dT xT d x H)).R, D b) :
    Snd P g base H D w (XR.ar H (xCopy P dT xT d x H)) (Builtin.copy_ #[dT, xT] ty #[dc, xc]) := by
  cases hq : xCopy P dT xT d x H with
  | none => rw [hq] at hp; exact hp.elim
  | some q =>
    rw [hq] at hD
    clear hp
    unfold xCopy at hq
    split at hq
    rotate_left; · cases hq
    rename_i e he
    have ht := elemT_eq he
    split at hq
    rotate_left; · cases hq
    rename_i sz hsz
    split at hq
    · rename_i news n R hsrc
      cases hq
      cases hd
      have hDR : ∀ b ∈ R, D b := fun b hb => hD b hb
      obtain ⟨_, _, hlen, _⟩ := srcCells_ok h hx hsrc hDR
      obtain ⟨arr, _, _, hrun⟩ := srcCells_le h hx hsrc hDR (Nat.zero_le n)
      refine Snd.val h _ ?_ (.int _ _)
      simp [Builtin.copy_, run_underlying ht, hlen, run_sizeT hsz, hrun, goInt]
    · rename_i news n R b off len sz' kc hsrc
      obtain ⟨T, o, cap, hm, hl, ho, hk, rfl⟩ := hd.inv_sl
      split at hq
      · rename_i h0
        rw [Nat.beq_eq] at h0
        cases hq
        have hDR : ∀ b ∈ R, D b := fun b hb => hD b hb
        obtain ⟨_, _, hlen, _⟩ := srcCells_ok h hx hsrc hDR
        obtain ⟨arr, hs0, _, hrun⟩ := srcCells_le h hx hsrc hDR (Nat.zero_le n)
        have : arr = #[] := Array.eq_empty_of_size_eq_zero (by simpa using hs0)
        subst this
        have h0' : Nat.min n len = 0 := h0
        refine Snd.val h _ ?_ (.int _ _)
        simp [Builtin.copy_, run_underlying ht, hlen, run_sizeT hsz, hrun, goInt, h0', storeCells]
      · rename_i h0
        have h0 : min n len ≠ 0 := fun e => by rw [e] at h0; cases h0
        split at hq
        rotate_left; · cases hq
        rename_i cs hg
        split at hq
        rotate_left; · cases hq
        rename_i hc
        cases hq
        obtain ⟨rfl, hones, hb⟩ := of_decide_eq_true hc
        have hDR : ∀ b ∈ R, D b := fun b' hb => hD b' (List.mem_cons_of_mem _ hb)
        have hDb : D b := hD b (List.mem_cons_self ..)
        obtain ⟨hcl, _, hlen, _⟩ := srcCells_ok h hx hsrc hDR
        obtain ⟨arr, hs1, hpw, hrun⟩ := srcCells_le (m := min n len) h hx hsrc hDR (Nat.min_le_left _ _)
        have hnl : (news.take (min n len * sz')).length = min n len * sz' := by
          rw [List.length_take, hcl]
          exact Nat.min_eq_left (Nat.mul_le_mul_right _ (Nat.min_le_left _ _))
        obtain ⟨e1, _⟩ := ho (by omega)
        obtain ⟨w', hr, hpost⟩ := write_cells (P := P) (off := off) (na := arr) h hDb hg hm (by rw [hs1, hnl]) hpw hones (by rw [hnl]; exact hb)
        have hmin : Nat.min n len = min n len := rfl
        refine ⟨g, w', .int .i64 (min n len : Nat), ?_, .int _ _, hpost⟩
        subst e1
        simp [Builtin.copy_, run_underlying ht, hlen, run_sizeT hsz, hmin, hrun, hr, goInt]
    · cases hq

theorem xClear_ok (h : Inv g base H D w) {t ty : TypeId} {ts : Array TypeId} (htt : ts[0]? = some t) {x : V} {xc : Value} (hx : VRel g x xc) (hp : (XR.ar H (xClear P t x H)).pre) (hD : ∀ b ∈ (XR.ar H (xClear P t x H)).R, D b) :
    Snd P g base H D w (XR.ar H (xClear P t x H)) (Builtin.clear_ ts ty #[xc]) := by
  cases hq : xClear P t x H with
  | none => rw [hq] at hp; exact hp.elim
  | some q =>
    rw [hq] at hD
    clear hp
    unfold xClear at hq
    split at hq
    rotate_left; · cases hq
    rename_i e he
    have ht := elemT_eq he
    split at hq
    rotate_left; · cases hq
    rename_i sz z hsz hz
    split at hq
    · cases hq
      cases hx
      refine Snd.val h _ (v := .tuple #[]) ?_ (VRel.mk_tup rfl PW.nil)
      simp [Builtin.clear_, htt, run_underlying ht]
    · rename_i b off len sz' kc
      obtain ⟨T, o, cap, hm, hl, ho, hk, rfl⟩ := hx.inv_sl
      split at hq
      · rename_i h0
        rw [Nat.beq_eq] at h0
        subst h0
        cases hq
        refine Snd.val h _ (v := .tuple #[]) ?_ (VRel.mk_tup rfl PW.nil)
        simp [Builtin.clear_, htt, run_underlying ht]
      · rename_i h0
        have h0 : len ≠ 0 := fun e => by rw [e] at h0; cases h0
        split at hq
        rotate_left; · cases hq
        rename_i cs hg
        split at hq
        rotate_left; · cases hq
        rename_i hc
        cases hq
        obtain ⟨rfl, hok, hzl, hones, hb⟩ := of_decide_eq_true hc
        have hDb : D b := hD b (List.mem_cons_self ..)
        obtain ⟨zl, zp⟩ := zeros_ok (g := g) (n := len) hz hsz hok hzl
        obtain ⟨zs, _, _⟩ := okCells_cells (cv_rel g z) hok
        have hzc : Builtin.zeroCells z.cells len = madeCells z.cells (len * sz') := by
          unfold Builtin.zeroCells madeCells
          rw [zs, hzl]
        obtain ⟨e1, _⟩ := ho (by omega)
        obtain ⟨w', hr, hpost⟩ := write_cells (P := P) (off := off) (na := Builtin.zeroCells z.cells len) h hDb hg hm (by rw [hzc, size_madeCells, zl]) (by rw [hzc]; exact zp) hones (by rw [zl]; exact hb)
        refine ⟨g, w', .tuple #[], ?_, VRel.mk_tup rfl PW.nil, hpost⟩
        subst e1
        obtain ⟨k, rfl⟩ : ∃ k, len = k + 1 := ⟨len - 1, by omega⟩
        simp [Builtin.clear_, htt, run_underlying ht, run_zeroT hz, hr]
    · cases hq

end
end Go.Ab
