/- Walks of calls that read the caller's blocks and hand out a new one; their contracts at any heap. -/
import Derived.Test.YtajodjbnkeeonaaGreatDoorAbRules
import Derived.Test.YtajodjbnkeeonaaGreatDoorAbCall
import Derived.Test.YtajodjbnkeeonaaGreatDoorM0Types
import Derived.Test.YtajodjbnkeeonaaGreatDoorAbSort
set_option linter.unusedSimpArgs false
set_option linter.unusedVariables false
namespace Go.Ab
variable {P : Program}

/-- The end of a walk with the caller's blocks numbered from 0. -/
def EndN (C : Cfg) (P : Program) (rs : List ResultVar) (v : V) (Hc : Hp) : Out → St → Prop
  | .norm, s | .ret, s => ∃ env', Sub C s ⟨env', Hc⟩ ∧ (resL P ⟨env', Hc⟩ rs).1 ∧ tupV (resL P ⟨env', Hc⟩ rs).2 = v
  | _, _ => False
theorem endN_ret {C : Cfg} (rs : List ResultVar) (v : V) (Hc : Hp) (s : St) : EndN C P rs v Hc .ret s = ∃ env', Sub C s ⟨env', Hc⟩ ∧ (resL P ⟨env', Hc⟩ rs).1 ∧ tupV (resL P ⟨env', Hc⟩ rs).2 = v := rfl
theorem endN_norm {C : Cfg} (rs : List ResultVar) (v : V) (Hc : Hp) (s : St) : EndN C P rs v Hc .norm s = ∃ env', Sub C s ⟨env', Hc⟩ ∧ (resL P ⟨env', Hc⟩ rs).1 ∧ tupV (resL P ⟨env', Hc⟩ rs).2 = v := rfl
theorem numB_nil (i : Nat) : numB i [] = [] := rfl
theorem numB_cons (i : Nat) (x : Blk) (r : List Blk) : numB i (x :: r) = (i, x) :: numB (i + 1) r := rfl
attribute [go_sem] endN_ret endN_norm numB_nil numB_cons

theorem NCall.walk {nt : Nat} (keep : List Nat) (fz : List Nat) (nx : Nat) {Γ : FuncId → List V → Option PR} {Δ : FuncId → List V → Hp → Option AR} {f : FuncId} {fn : Func} {c : Code} {args : List V} {F : List Blk} {v : V} {Hc : Hp} {rs : List ResultVar}
    (hm : P.follows .mixedOrders = true) (hΓ : GoodΓ P Γ) (hΔ : GoodΔ P Δ) (hc : Callable P f) (hf : P.funcs[f]? = some fn) (hb : fn.body = some c) (hnt : fn.ntmps = nt) (hrs : fn.results.toList = rs) (hok : codeOK nt c = true) (hle : args.length ≤ nt) (hnx : nx = F.length) (hn : F.length ≤ Hc.next)
    (h : AXs ⟨nt, keepL keep, Γ, Δ, nx, [], keepL fz⟩ P (EndN ⟨nt, keepL keep, Γ, Δ, nx, [], keepL fz⟩ P rs v Hc) [] c (argEnv 0 args) ⟨numB 0 F, nx⟩) : NCall P f args F [] v Hc := by
  subst hnx
  refine NCall.of (C := ⟨nt, keepL keep, Γ, Δ, F.length, [], keepL fz⟩) hc hf hb hnt hle rfl (fun b hb => by cases hb) hn ?_
  refine AX.mono (AXf_ok (C := ⟨nt, keepL keep, Γ, Δ, F.length, [], keepL fz⟩) hm ⟨hΓ, hΔ⟩ c _ _ hok h) fun o s hk => ?_
  subst hrs
  cases o with
  | norm => obtain ⟨env', h1, h2, h3⟩ := hk; exact ⟨.inl rfl, _, h1, rfl, h2, h3⟩
  | ret => obtain ⟨env', h1, h2, h3⟩ := hk; exact ⟨.inr rfl, _, h1, rfl, h2, h3⟩
  | exit i => exact hk.elim
  | panic v => exact hk.elim

theorem NCall.walkW {nt : Nat} (keep : List Nat) (fz : List Nat) (nx : Nat) (W : List Nat) {Γ : FuncId → List V → Option PR} {Δ : FuncId → List V → Hp → Option AR} {f : FuncId} {fn : Func} {c : Code} {args : List V} {F : List Blk} {v : V} {Hc : Hp} {rs : List ResultVar}
    (hm : P.follows .mixedOrders = true) (hΓ : GoodΓ P Γ) (hΔ : GoodΔ P Δ) (hc : Callable P f) (hf : P.funcs[f]? = some fn) (hb : fn.body = some c) (hnt : fn.ntmps = nt) (hrs : fn.results.toList = rs) (hok : codeOK nt c = true) (hle : args.length ≤ nt) (hnx : nx = F.length) (hW : ∀ b ∈ W, b < F.length) (hn : F.length ≤ Hc.next)
    (h : AXs ⟨nt, keepL keep, Γ, Δ, nx, W, keepL fz⟩ P (EndN ⟨nt, keepL keep, Γ, Δ, nx, W, keepL fz⟩ P rs v Hc) [] c (argEnv 0 args) ⟨numB 0 F, nx⟩) : NCall P f args F W v Hc := by
  subst hnx
  refine NCall.of (C := ⟨nt, keepL keep, Γ, Δ, F.length, W, keepL fz⟩) hc hf hb hnt hle rfl hW hn ?_
  refine AX.mono (AXf_ok (C := ⟨nt, keepL keep, Γ, Δ, F.length, W, keepL fz⟩) hm ⟨hΓ, hΔ⟩ c _ _ hok h) fun o s hk => ?_
  subst hrs
  cases o with
  | norm => obtain ⟨env', h1, h2, h3⟩ := hk; exact ⟨.inl rfl, _, h1, rfl, h2, h3⟩
  | ret => obtain ⟨env', h1, h2, h3⟩ := hk; exact ⟨.inr rfl, _, h1, rfl, h2, h3⟩
  | exit i => exact hk.elim
  | panic v => exact hk.elim

/-- A call that reads the caller's blocks `is` (plain data in them), and hands out a new block of plain cells. -/
theorem HCall.fresh {f : FuncId} {args : List V} {F : List Blk} {X : List V} {n sz : Nat} (hN : NCall P f args F [] (.sl F.length 0 n sz none) ⟨(F.length, .cells X) :: numB 0 F, F.length + 1⟩) (hX : ∀ x ∈ X, Pure x)
    (is : List Nat) (args' : List V) (H : Hp) (hlen : is.length = F.length) (hnd : is.Nodup) (ha : LRel (Rn (fun i => is.getD i 0) (· < F.length)) args args')
    (hF : ∀ (i : Nat) (x : Blk), F[i]? = some x → ∃ b, is[i]? = some b ∧ H.get b = some x ∧ RnB (fun i => is.getD i 0) (· < F.length) x x)
    (hF' : ∀ (i : Nat) (x : Blk), F[i]? = some x → ∀ π N, RnB π N x x) (hk : ∀ b x, H.get b = some x → b < H.next) :
    HCall P f args' H ⟨True, .sl H.next 0 n sz none, ⟨(H.next, .cells X) :: H.bs, H.next + 1⟩, is, []⟩ := by
  have tc : toCall is H.next H.next = F.length := by unfold toCall; rw [if_neg (by omega)]; omega
  refine HCall.of hN is args' (.sl H.next 0 n sz none) H ⟨(H.next, .cells X) :: H.bs, H.next + 1⟩ hlen hnd ha (fun i x hx => ?_) ?_ (by show H.next + 1 + F.length = H.next + (F.length + 1); omega) (fun b x' hx' => ?_) (fun b hb _ => ?_)
  · obtain ⟨b, h1, h2, h3⟩ := hF i x hx
    exact ⟨b, x, h1, h2, h3⟩
  · have := Rn.sl (π := toCall is H.next) (N := fun b => b ∈ is ∨ (H.next ≤ b ∧ b < H.next + 1)) (b := H.next) (off := 0) (len := n) (sz := sz) (kc := none) (kc' := none) (.inr ⟨Nat.le_refl _, Nat.lt_succ_self _⟩) (.inl rfl)
    rwa [tc] at this
  · by_cases hb : b = H.next
    · subst hb
      have hxe : x' = .cells X := by
        have : (((H.next, .cells X) :: H.bs : List (Nat × Blk)).lookup H.next) = some x' := hx'
        simp at this; exact this.symm
      subst hxe
      refine .inr ⟨.inr ⟨Nat.le_refl _, Nat.lt_succ_self _⟩, .cells X, ?_, .cells (lrel_same hX)⟩
      rw [tc]
      show (((F.length, Blk.cells X) :: numB 0 F).lookup F.length) = _
      simp
    · have hg : H.get b = some x' := by
        have : (((H.next, .cells X) :: H.bs : List (Nat × Blk)).lookup b) = some x' := hx'
        rw [List.lookup_cons] at this
        have hne : (b == H.next) = false := by simpa using hb
        rw [hne] at this
        exact this
      by_cases hi : b ∈ is
      · obtain ⟨i, hi1, hi2⟩ := List.mem_iff_getElem.1 hi
        have hiF : i < F.length := by omega
        obtain ⟨b', k1, k2, k3⟩ := hF i F[i] (by rw [List.getElem?_eq_getElem])
        rw [List.getElem?_eq_getElem hi1, hi2] at k1
        cases k1
        rw [hg] at k2
        have hx : x' = F[i] := Option.some.inj k2
        have htc : toCall is H.next b = i := by
          unfold toCall
          rw [if_pos (hk b _ hg), ← hi2, List.Nodup.idxOf_getElem hnd]
        refine .inr ⟨.inl hi, F[i], ?_, ?_⟩
        · rw [htc]
          show (((F.length, Blk.cells X) :: numB 0 F).lookup i) = _
          have hne : (i == F.length) = false := by simp; omega
          rw [List.lookup_cons, hne, numB_lookup]
          simp
        · rw [hx]; exact hF' i F[i] (by rw [List.getElem?_eq_getElem]) _ _
      · exact .inl ⟨hk b _ hg, hi, hg⟩
  · show (((H.next, .cells X) :: H.bs : List (Nat × Blk)).lookup b) = H.get b
    rw [List.lookup_cons]
    have hne : (b == H.next) = false := by simp; omega
    rw [hne]; rfl
theorem keysLt {bs : List (Nat × Blk)} {n : Nat} (h : ((keysB bs).all fun b => decide (b < n)) = true) : ∀ b x, (⟨bs, n⟩ : Hp).get b = some x → b < n := fun b _ hx => by
  have := List.all_eq_true.1 h b (keysB_mem hx)
  simpa using this
/-- Such a call that hands out nothing. -/
theorem HCall.none {f : FuncId} {args : List V} {F : List Blk} {v : V} (hN : NCall P f args F [] v ⟨numB 0 F, F.length⟩) (hv : Pure v)
    (is : List Nat) (args' : List V) (H : Hp) (hlen : is.length = F.length) (hnd : is.Nodup) (ha : LRel (Rn (fun i => is.getD i 0) (· < F.length)) args args')
    (hF : ∀ (i : Nat) (x : Blk), F[i]? = some x → ∃ b, is[i]? = some b ∧ H.get b = some x ∧ RnB (fun i => is.getD i 0) (· < F.length) x x)
    (hF' : ∀ (i : Nat) (x : Blk), F[i]? = some x → ∀ π N, RnB π N x x) (hk : ∀ b x, H.get b = some x → b < H.next) :
    HCall P f args' H ⟨True, v, H, is, []⟩ := by
  refine HCall.of hN is args' v H H hlen hnd ha (fun i x hx => ?_) (.same hv) rfl (fun b x' hx' => ?_) (fun b hb _ => rfl)
  · obtain ⟨b, h1, h2, h3⟩ := hF i x hx
    exact ⟨b, x, h1, h2, h3⟩
  · by_cases hi : b ∈ is
    · obtain ⟨i, hi1, hi2⟩ := List.mem_iff_getElem.1 hi
      have hiF : i < F.length := by omega
      obtain ⟨b', k1, k2, k3⟩ := hF i F[i] (by rw [List.getElem?_eq_getElem])
      rw [List.getElem?_eq_getElem hi1, hi2] at k1
      cases k1
      rw [hx'] at k2
      have hx : x' = F[i] := Option.some.inj k2
      have htc : toCall is H.next b = i := by
        unfold toCall
        rw [if_pos (hk b _ hx'), ← hi2, List.Nodup.idxOf_getElem hnd]
      refine .inr ⟨.inl hi, F[i], ?_, ?_⟩
      · rw [htc]
        show ((numB 0 F).lookup i) = _
        rw [numB_lookup]
        simp
      · rw [hx]; exact hF' i F[i] (by rw [List.getElem?_eq_getElem]) _ _
    · exact .inl ⟨hk b _ hx', hi, hx'⟩

/-- A call that writes the caller's one block. -/
theorem HCall.put1 {f : FuncId} {args : List V} {X0 X : List V} {n sz : Nat} (hN : NCall P f args [.cells X0] [0] (.sl 0 0 n sz Option.none) ⟨[(0, .cells X)], 1⟩) (hX0 : ∀ x ∈ X0, Pure x) (hX : ∀ x ∈ X, Pure x)
    (b : Nat) (args' : List V) (H : Hp) (ha : LRel (Rn (fun i => [b].getD i 0) (· < 1)) args args') (hb : H.get b = some (.cells X0)) (hk : ∀ b x, H.get b = some x → b < H.next) :
    HCall P f args' H ⟨True, .sl b 0 n sz Option.none, H.put b (.cells X), [b], [b]⟩ := by
  have tc : toCall [b] H.next b = 0 := by unfold toCall; rw [if_pos (hk b _ hb)]; simp
  refine HCall.of hN [b] args' (.sl b 0 n sz Option.none) H (H.put b (.cells X)) rfl (by simp) ha (fun i x hx => ?_) ?_ rfl (fun b' x' hx' => ?_) (fun b' hb' hw => ?_)
  · match i with
    | 0 => cases hx; exact ⟨b, _, rfl, hb, .cells (lrel_same hX0)⟩
    | i + 1 => simp at hx
  · have := Rn.sl (π := toCall [b] H.next) (N := fun b' => b' ∈ [b] ∨ (H.next ≤ b' ∧ b' < (H.put b (.cells X)).next)) (b := b) (off := 0) (len := n) (sz := sz) (kc := Option.none) (kc' := Option.none) (.inl (by simp)) (.inl rfl)
    rwa [tc] at this
  · rw [Hp.get_put] at hx'
    split at hx'
    · rename_i he
      subst he
      rw [hb] at hx'
      cases hx'
      refine .inr ⟨.inl (by simp), .cells X, ?_, .cells (lrel_same hX)⟩
      rw [tc]; rfl
    · rename_i he
      exact .inl ⟨hk b' _ hx', by simpa using he, hx'⟩
  · rw [Hp.get_put, if_neg (by simpa using hw)]
/-- A call that gives up the caller's one block, and hands out another. -/
theorem HCall.move1 {f : FuncId} {args : List V} {X0 X : List V} {n sz : Nat} (hN : NCall P f args [.cells X0] [0] (.sl 1 0 n sz Option.none) ⟨[(1, .cells X)], 2⟩) (hX0 : ∀ x ∈ X0, Pure x) (hX : ∀ x ∈ X, Pure x)
    (b : Nat) (args' : List V) (H : Hp) (ha : LRel (Rn (fun i => [b].getD i 0) (· < 1)) args args') (hb : H.get b = some (.cells X0)) (hk : ∀ b x, H.get b = some x → b < H.next) :
    HCall P f args' H ⟨True, .sl H.next 0 n sz Option.none, (H.kill b).new (.cells X), [b], [b]⟩ := by
  have tc : toCall [b] H.next H.next = 1 := by unfold toCall; rw [if_neg (by omega)]; simp
  refine HCall.of hN [b] args' (.sl H.next 0 n sz Option.none) H ((H.kill b).new (.cells X)) rfl (by simp) ha (fun i x hx => ?_) ?_ (by show H.next + 1 + 1 = H.next + 2; omega) (fun b' x' hx' => ?_) (fun b' hb' hw => ?_)
  · match i with
    | 0 => cases hx; exact ⟨b, _, rfl, hb, .cells (lrel_same hX0)⟩
    | i + 1 => simp at hx
  · have := Rn.sl (π := toCall [b] H.next) (N := fun b' => b' ∈ [b] ∨ (H.next ≤ b' ∧ b' < ((H.kill b).new (.cells X)).next)) (b := H.next) (off := 0) (len := n) (sz := sz) (kc := Option.none) (kc' := Option.none) (.inr ⟨Nat.le_refl _, Nat.lt_succ_self _⟩) (.inl rfl)
    rwa [tc] at this
  · rw [Hp.get_new] at hx'
    split at hx'
    · rename_i he
      have he' : b' = H.next := he
      subst he'
      cases hx'
      refine .inr ⟨.inr ⟨Nat.le_refl _, Nat.lt_succ_self _⟩, .cells X, ?_, .cells (lrel_same hX)⟩
      rw [tc]; rfl
    · rw [Hp.get_kill] at hx'
      split at hx'
      · cases hx'
      · rename_i he
        exact .inl ⟨hk b' _ hx', by simpa using he, hx'⟩
  · have h1 : b' ≠ H.next := by omega
    rw [Hp.get_new]
    rw [if_neg (show ¬ b' = (H.kill b).next from h1), Hp.get_kill, if_neg (by simpa using hw)]

/-- Contracts of such calls, as a table: where just one result is meant. -/
noncomputable def conD (R : List V → Hp → AR → Prop) : List V → Hp → Option AR := fun args H =>
  open Classical in if h : ∃ r, R args H r then some (Classical.choose h) else Option.none
theorem conD_eq {R : List V → Hp → AR → Prop} {args : List V} {H : Hp} {r : AR} (h : R args H r) (hu : ∀ r', R args H r' → r' = r) : conD R args H = some r := by
  have hx : ∃ r, R args H r := ⟨r, h⟩
  unfold conD
  rw [dif_pos hx, hu _ (Classical.choose_spec hx)]
theorem conD_ok {R : List V → Hp → AR → Prop} {f : FuncId} (h : ∀ args H r, R args H r → HCall P f args H r) : ∀ args H r, conD R args H = some r → HCall P f args H r := by
  intro args H r e
  unfold conD at e
  split at e
  · rename_i hx
    cases e
    exact h _ _ _ (Classical.choose_spec hx)
  · cases e
end Go.Ab

/- slices.SortFunc over counts, laid at this translation; its contract over abstract heaps. -/
namespace Go.Proofs
open Go.Ab Go.Cnt

def sortRen : Go.Shelf.Ren := ⟨fun x => match x with | 6 => 41 | 15 => 63 | 14 => 62 | 28 => 93 | 29 => 94 | 20 => 85 | 21 => 86 | 22 => 87 | 23 => 88 | 24 => 89 | 25 => 90 | 26 => 91 | 27 => 92 | 46 => 115 | 47 => 116 | 48 => 117 | 49 => 118 | 50 => 119 | 57 => 143 | n => n, fun x => match x with | 22 => 25 | 24 => 37 | 25 => 76 | 3 => 3 | 39 => 95 | 0 => 0 | 53 => 123 | 55 => 106 | 4 => 4 | 46 => 116 | 45 => 115 | 50 => 120 | 5 => 5 | 9 => 9 | 66 => 141 | 70 => 145 | 76 => 173 | 77 => 174 | n => n, fun x => x⟩
theorem sortL : SlLaysF0.n6 Tryz.prog sortRen where
  mixed := mixed
  f6 := ⟨"slices.SortFunc[[]abugida/api.Count,abugida/api.Count]", of_decide_eq_true (by kernel_rfl), Tryz.func41.trans (by kernel_rfl)⟩
  f14 := ⟨"slices.pdqsortCmpFunc[abugida/api.Count]", of_decide_eq_true (by kernel_rfl), Tryz.func62.trans (by kernel_rfl)⟩
  f15 := Tryz.func63.trans (by kernel_rfl)
  f20 := ⟨"slices.insertionSortCmpFunc[abugida/api.Count]", of_decide_eq_true (by kernel_rfl), Tryz.func85.trans (by kernel_rfl)⟩
  f21 := ⟨"slices.heapSortCmpFunc[abugida/api.Count]", of_decide_eq_true (by kernel_rfl), Tryz.func86.trans (by kernel_rfl)⟩
  f22 := ⟨"slices.breakPatternsCmpFunc[abugida/api.Count]", of_decide_eq_true (by kernel_rfl), Tryz.func87.trans (by kernel_rfl)⟩
  f23 := ⟨"slices.choosePivotCmpFunc[abugida/api.Count]", of_decide_eq_true (by kernel_rfl), Tryz.func88.trans (by kernel_rfl)⟩
  f24 := ⟨"slices.reverseRangeCmpFunc[abugida/api.Count]", of_decide_eq_true (by kernel_rfl), Tryz.func89.trans (by kernel_rfl)⟩
  f25 := ⟨"slices.partialInsertionSortCmpFunc[abugida/api.Count]", of_decide_eq_true (by kernel_rfl), Tryz.func90.trans (by kernel_rfl)⟩
  f26 := ⟨"slices.partitionEqualCmpFunc[abugida/api.Count]", of_decide_eq_true (by kernel_rfl), Tryz.func91.trans (by kernel_rfl)⟩
  f27 := ⟨"slices.partitionCmpFunc[abugida/api.Count]", of_decide_eq_true (by kernel_rfl), Tryz.func92.trans (by kernel_rfl)⟩
  f28 := Tryz.func93.trans (by kernel_rfl)
  f29 := Tryz.func94.trans (by kernel_rfl)
  f46 := ⟨"slices.siftDownCmpFunc[abugida/api.Count]", of_decide_eq_true (by kernel_rfl), Tryz.func115.trans (by kernel_rfl)⟩
  f47 := Tryz.func116.trans (by kernel_rfl)
  f48 := Tryz.func117.trans (by kernel_rfl)
  f49 := ⟨"slices.medianAdjacentCmpFunc[abugida/api.Count]", of_decide_eq_true (by kernel_rfl), Tryz.func118.trans (by kernel_rfl)⟩
  f50 := ⟨"slices.medianCmpFunc[abugida/api.Count]", of_decide_eq_true (by kernel_rfl), Tryz.func119.trans (by kernel_rfl)⟩
  f57 := ⟨"slices.order2CmpFunc[abugida/api.Count]", of_decide_eq_true (by kernel_rfl), Tryz.func143.trans (by kernel_rfl)⟩
  t0 := Tryz.underlying0
  a0 := Tryz.isAgg0
  z0 := Tryz.sizeOf0
  v0 := Tryz.zeroValue0
  t3 := Tryz.underlying3
  a3 := Tryz.isAgg3
  z3 := Tryz.sizeOf3
  v3 := Tryz.zeroValue3
  t4 := Tryz.underlying4
  a4 := Tryz.isAgg4
  z4 := Tryz.sizeOf4
  v4 := Tryz.zeroValue4
  t5 := Tryz.underlying5
  a5 := Tryz.isAgg5
  z5 := Tryz.sizeOf5
  v5 := Tryz.zeroValue5
  t9 := Tryz.underlying9
  a9 := Tryz.isAgg9
  z9 := Tryz.sizeOf9
  v9 := Tryz.zeroValue9
  t22 := Tryz.underlying25
  a22 := Tryz.isAgg25
  z22 := Tryz.sizeOf25
  v22 := Tryz.zeroValue25
  t25 := Tryz.underlying76
  a25 := Tryz.isAgg76
  z25 := Tryz.sizeOf76
  v25 := Tryz.zeroValue76
  t39 := Tryz.underlying95
  a39 := Tryz.isAgg95
  z39 := Tryz.sizeOf95
  v39 := Tryz.zeroValue95
  t45 := Tryz.underlying115
  a45 := Tryz.isAgg115
  z45 := Tryz.sizeOf115
  v45 := Tryz.zeroValue115
  t46 := Tryz.underlying116
  a46 := Tryz.isAgg116
  z46 := Tryz.sizeOf116
  v46 := Tryz.zeroValue116
  t50 := Tryz.underlying120
  a50 := Tryz.isAgg120
  z50 := Tryz.sizeOf120
  v50 := Tryz.zeroValue120
  t53 := Tryz.underlying123
  a53 := Tryz.isAgg123
  z53 := Tryz.sizeOf123
  v53 := Tryz.zeroValue123
  t55 := Tryz.underlying106
  a55 := Tryz.isAgg106
  z55 := Tryz.sizeOf106
  v55 := Tryz.zeroValue106
  t66 := Tryz.underlying141
  a66 := Tryz.isAgg141
  z66 := Tryz.sizeOf141
  v66 := Tryz.zeroValue141
  t70 := Tryz.underlying145
  a70 := Tryz.isAgg145
  z70 := Tryz.sizeOf145
  v70 := Tryz.zeroValue145
  t76 := Tryz.underlying173
  a76 := Tryz.isAgg173
  z76 := Tryz.sizeOf173
  v76 := Tryz.zeroValue173
  t77 := Tryz.underlying174
  a77 := Tryz.isAgg174
  z77 := Tryz.sizeOf174
  v77 := Tryz.zeroValue174

/-- slices.SortFunc of a list of counts with different keys, by counts.compare. -/
def SortR (args : List V) (H : Hp) (r : AR) : Prop :=
  ∃ b l, args = [.sl b 0 l.length 3 none, .fn 42 []] ∧ H.get b = some (.cells (cnts l)) ∧ Dif l ∧ l.length < 4611686018427387904 ∧ r = ⟨True, .tup [], H.put b (.cells (cnts (srt l))), [b], [b]⟩
theorem sortR_ok : ∀ args H r, SortR args H r → HCall Tryz.prog 41 args H r := by
  rintro args H r ⟨b, l, rfl, hb, hd, hl, rfl⟩
  exact sort_hcall (ρ := sortRen) sortL (fun w => by kernel_rfl) (fun w => by kernel_rfl) call41 call42 (fun x y => cmpK_ok x.1.1 x.1.2 y.1.1 y.1.2 x.2 y.2) hd hl hb
theorem sortR_eq {b n : Nat} {l : List Ent} {H : Hp} (hn : n = l.length) (hb : H.get b = some (.cells (cnts l))) (hd : Dif l) (hl : l.length < 4611686018427387904) :
    conD SortR [.sl b 0 n 3 none, .fn 42 []] H = some ⟨True, .tup [], H.put b (.cells (cnts (srt l))), [b], [b]⟩ := by
  subst hn
  refine conD_eq ⟨b, l, rfl, hb, hd, hl, rfl⟩ ?_
  rintro r' ⟨b', l', he, hb', _, _, rfl⟩
  simp only [List.cons.injEq, V.sl.injEq, and_true, true_and] at he
  obtain ⟨rfl, _⟩ := he
  rw [hb] at hb'
  have : cnts l = cnts l' := by simpa using hb'
  rw [cnts_inj this]

end Go.Proofs
