/- A contract out of a run of the machine: scalar results. -/
import Derived.Test.YtfilkkmcagndlaaGreatDoorAbEvFn
import Derived.Test.YtfilkkmcagndlaaGreatDoorS0Types
import Derived.Tactics
import Derived.Tactics2
import Derived.Defers
import Derived.Recover
import Derived.Laws.Pointers
import Derived.KernelRfl
import Derived.Laws.Externs
import Derived.Lib.Builder
import Derived.Test.YtfilkkmcagndlaaGreatDoorAbAround
import Derived.Test.YtfilkkmcagndlaaGreatDoorPlTenD
set_option linter.unusedSimpArgs false
set_option linter.unusedVariables false
set_option linter.all false
namespace Go.Ab
variable {P : Program}
theorem PCall.ofH {f : FuncId} {args : List V} {r : AR} (h : HCall P f args ⟨[], 0⟩ r) (hp : r.pre) (_hR : r.R = []) (hW : r.W = []) (hs : scalarV r.v = true) (hpure : ∀ x ∈ args, Pure x) : PCall P f args (.ret r.v) := by
  obtain ⟨_, hrun⟩ := h
  intro g w vs hgl hfrz hvs hpw
  let g0 : G := ⟨fun _ => none, g.phi⟩
  have hinv : Inv g0 w.heap.size ⟨[], 0⟩ (fun _ => True) w :=
    ⟨hfrz, fun b T e => (by cases e), fun b x e => (by cases e), fun b x _ e => (by cases e), fun b b' x x' T T' _ _ e => (by cases e), Nat.le_refl _⟩
  have hpw0 : PW g0 args (fun i => vs[i]?) := fun i x hx => by
    obtain ⟨u, hu, ru⟩ := hpw i x hx
    exact ⟨u, hu, VRel.pure (g := g) (g' := g0) (fun c a e => e) ru (hpure x (List.mem_of_getElem? hx))⟩
  refine (hrun hp g0 w.heap.size (fun _ => True) w vs (hgl.mono (fun c a e => e)) hinv hvs hpw0 (fun _ _ => trivial)).mono fun e w' q => ?_
  obtain ⟨g', vc, rfl, hv, p⟩ := q
  refine ⟨fun _ => none, vc, fun c a e => (by cases e), ⟨p.os, p.tape, p.output, p.size, fun k hk => p.frame k hk fun b hb => by rw [hW] at hb; cases hb⟩, rfl, scalar_rel hs hv⟩
noncomputable def eAns (E : ECfg) (P : Program) (n : Nat) (f : FuncId) (args : List V) : Option V :=
  match eFn E P n f args ⟨[], 0⟩ with
  | some r => bif scalarV r.v && r.R.isEmpty && r.W.isEmpty then some r.v else none
  | none => none
theorem eAns_ok {E : ECfg} (hm : P.follows .mixedOrders = true) (hΓ : ∀ f args r, E.Γ f args = some r → PCall P f args r) (hcan : ∀ f, E.can f = true → Callable P f) (hsp : GoodSpec P E)
    {n : Nat} {f : FuncId} {args : List V} {v : V} (hpure : ∀ x ∈ args, Pure x) (h : eAns E P n f args = some v) : PCall P f args (.ret v) := by
  unfold eAns at h
  split at h
  rotate_left; · cases h
  rename_i r hr
  cases hs : (scalarV r.v && r.R.isEmpty && r.W.isEmpty) with
  | false => rw [hs] at h; cases h
  | true =>
    rw [hs] at h
    cases h
    simp only [Bool.and_eq_true, List.isEmpty_iff] at hs
    obtain ⟨h1, h2⟩ := eFn_ok hm hΓ hcan hsp n f args _ r hr
    exact PCall.ofH h2 h1 hs.1.2 hs.2 hs.1.1 hpure
def canB (P : Program) (f : FuncId) : Bool :=
  match P.funcs[f]? with
  | some fn => fn.body.isSome && !(fn.name == "runtime.NumGoroutine")
  | none => false
theorem canB_ok {f : FuncId} (h : canB P f = true) : Callable P f := by
  unfold canB at h
  split at h
  rotate_left; · cases h
  rename_i fn hf
  simp only [Bool.and_eq_true, Bool.not_eq_true', beq_eq_false_iff_ne, ne_eq] at h
  obtain ⟨hb, hn⟩ := h
  intro a w
  cases hbb : fn.body with
  | none => rw [hbb] at hb; cases hb
  | some c =>
    simp [callFunc, hf, hn, hbb]
def canL (l : List Nat) (n : Nat) (f : FuncId) : Bool := Nat.ble f n && !(l.contains f)
theorem canL_ok {l : List Nat} {n : Nat} (h : ((List.range (n + 1)).all fun f => l.contains f || canB P f) = true) (f : FuncId) (hf : canL l n f = true) : Callable P f := by
  simp only [canL, Bool.and_eq_true, Bool.not_eq_true'] at hf
  have := List.all_eq_true.1 h f (by simp; exact Nat.lt_succ_of_le (Nat.le_of_ble_eq_true hf.1))
  rw [hf.2, Bool.false_or] at this
  exact canB_ok this
end Go.Ab

/- rat.written: what it makes of its argument, in a run without a panic. -/
namespace Go.Proofs
open Go.Ab
theorem assert_nil (w : World) : (Instr.typeAssert .nilIface 20 105 true).run Tryz.prog w = .ok (.tuple #[.agg #[], .bool false]) w := by
  have h1 : Tryz.prog.underlying 105 = some (.struct #[]) := by kernel_rfl
  have h2 : zeroT Tryz.prog 105 = some (.agg #[]) := by kernel_rfl
  simp [Instr.typeAssert, run_underlying h1, run_zeroT h2]
set_option maxRecDepth 100000 in
theorem catch_idle (p q : Value) (w : World) :
    CallsD Tryz.prog 155 #[p, q] .returning w fun e u' w' => e = .returned (.tuple #[]) ∧ u' = .returning ∧ w' = w.alloc (.cells #[] 105) := by
  refine callsD_of_wpS Tryz.func155 rfl fun c₀ cs hu => ?_
  apply wpS_seq
  apply wpS_region
  simp [wpOpsS, go_sem, recoverD, hu, Tryz.ntmps155, Exit.thenS, assert_nil]
  apply wpS_seq
  apply wpS_region
  simp [wpOpsS, go_sem, Exit.thenS]
  refine wpS_cond (t := false) (by simp [Act.eval, Array.replicate]) ?_
  simp only [Bool.false_eq_true, if_false]
  refine wpS_of_wp (wp_skip ?_)
  cases c₀
  simp_all [bodyPostS, results, Tryz.results155]
theorem GoCall_upon {P : Program} {o : Oper} {a : Act} {next : Act → World → Prop} {Q : Exit → Act → World → Prop} {f : FuncId} {vs : Array Value} {w : World} {R : Ending → World → Prop} (h : GoCall P f vs w R)
    (hr : ∀ e w', R e w' → match e with | .returned v => next (a.put o.dst v) w' | .panicked ch => Q (.panic ch) a w' | .outgrown => False) : Oper.upon P o a next Q ((callFunc f vs).run P w) := by
  rcases h with ⟨h1, h2⟩ | ⟨v, w', h1, h2⟩
  · rw [h1]
    refine h2.mono fun e w' q => ?_
    have := hr e w' q
    cases e with
    | returned v => exact this
    | panicked ch => exact this
    | outgrown => exact this.elim
  · rw [h1]
    exact hr _ _ h2
set_option maxRecDepth 100000 in
theorem written_ok (w : World) (fid : FuncId) (caps : Array Value) {R1 : Value → World → Prop} {R : Ending → World → Prop}
    (h1 : GoCall Tryz.prog fid caps ((w.alloc (.cells #[.string .empty] 9)).alloc (.cells #[.int .i64 0] 34)) fun e w' => ∃ v, e = .returned v ∧ R1 v w')
    (h3 : ∀ v w', R1 v w' → Calls Tryz.prog 156 #[v] w' fun e w'' => ∃ s, e = .returned (.string s) ∧
      w''.heap[w.heap.size]? = some (.cells #[.string .empty] 9 (0, 0)) ∧ w''.heap[w.heap.size + 1]? = some (.cells #[.int .i64 0] 34 (0, 0)) ∧
      R (.returned (.tuple #[.string s, .int .i64 0])) (((w''.setCell ⟨w.heap.size, 0, none⟩ (.string s)).setCell ⟨w.heap.size + 1, 0, none⟩ (.int .i64 0)).alloc (.cells #[] 105))) :
    Calls Tryz.prog 125 #[.func (.func fid) #[] caps] w R := by
  have hmf : ∀ (fn : Fn) (first cap : Array Value) (w : World), (Instr.makeFunc fn first cap).run Tryz.prog w = .ok (.func fn first cap) w := fun _ _ _ _ => rfl
  go_enter_defers Tryz.func125, Tryz.ntmps125
  go_wp2
  refine GoCall_upon h1 ?_
  rintro e w1 ⟨v, rfl, hR1⟩
  have h3' : Calls Tryz.prog 156 #[v] w1 fun e w2 => ∃ s, e = .returned (.string s) ∧ w2.cell? ⟨w.heap.size, 0, none⟩ = some (.string .empty) ∧ w2.frozen? ⟨w.heap.size, 0, none⟩ = false ∧
      (w2.setCell ⟨w.heap.size, 0, none⟩ (.string s)).cell? ⟨w.heap.size + 1, 0, none⟩ = some (.int .i64 0) ∧ (w2.setCell ⟨w.heap.size, 0, none⟩ (.string s)).frozen? ⟨w.heap.size + 1, 0, none⟩ = false ∧
      ((w2.setCell ⟨w.heap.size, 0, none⟩ (.string s)).setCell ⟨w.heap.size + 1, 0, none⟩ (.int .i64 0)).heap[w.heap.size]? = some (.cells #[.string s] 9 (0, 0)) ∧
      ((w2.setCell ⟨w.heap.size, 0, none⟩ (.string s)).setCell ⟨w.heap.size + 1, 0, none⟩ (.int .i64 0)).heap[w.heap.size + 1]? = some (.cells #[.int .i64 0] 34 (0, 0)) ∧
      R (.returned (.tuple #[.string s, .int .i64 0])) (((w2.setCell ⟨w.heap.size, 0, none⟩ (.string s)).setCell ⟨w.heap.size + 1, 0, none⟩ (.int .i64 0)).alloc (.cells #[] 105)) := by
    refine (h3 v w1 hR1).mono ?_
    rintro e w2 ⟨s, rfl, hb1, hb2, hR⟩
    refine ⟨s, rfl, by simp [World.cell?, hb1], by simp [World.frozen?, hb1], by simp [World.cell?, World.setCell, Array.getElem?_modify, hb2], by simp [World.frozen?, World.setCell, Array.getElem?_modify, hb2],
      by simp [World.setCell, Array.getElem?_modify, hb1], by simp [World.setCell, Array.getElem?_modify, hb2], hR⟩
  go_wp2_with (go_at_call 156; refine h3'.mono ?_; rintro e w2 ⟨s, rfl, hc1, hf1, hc2, hf2, hb1, hb2, hR⟩)
  generalize ((w2.setCell ⟨w.heap.size, 0, none⟩ (.string s)).setCell ⟨w.heap.size + 1, 0, none⟩ (.int .i64 0)) = W at hb1 hb2 hR ⊢
  refine leaves_cons (f := 155) (args := #[.pointer (some ⟨w.heap.size, 0, none⟩), .pointer (some ⟨w.heap.size + 1, 0, none⟩)]) (by simp) (by simp [go_sem]) ?_
  refine (catch_idle _ _ W).mono ?_
  rintro e u' w'' ⟨rfl, rfl, rfl⟩
  have old : ∀ (c : Nat) (o : Obj), W.heap[c]? = some o → (W.alloc (.cells #[] 105)).heap[c]? = some o := by
    intro c o h
    have hlt : c < W.heap.size := (Array.getElem?_eq_some_iff.1 h).1
    show (W.heap.push _)[c]? = _
    rw [Array.getElem?_push_lt hlt, ← h, Array.getElem?_eq_getElem hlt]
  have e1 : (W.alloc (.cells #[] 105)).cell? ⟨w.heap.size, 0, none⟩ = some (.string s) := by simp [World.cell?, old _ _ hb1]
  have e2 : (W.alloc (.cells #[] 105)).cell? ⟨w.heap.size + 1, 0, none⟩ = some (.int .i64 0) := by simp [World.cell?, old _ _ hb2]
  simp [Leaves, settle, results, Tryz.results125, go_sem, e1, e2]
  exact hR
theorem GoCall_calls {P : Program} {f : FuncId} {vs : Array Value} {w : World} {R : Ending → World → Prop} (hc : Callable P f) (h : GoCall P f vs w R) : Calls P f vs w R := by
  rcases h with ⟨_, h⟩ | ⟨v, w', h1, _⟩
  · exact h
  · rw [hc vs w] at h1; cases h1
theorem can146 : Callable Tryz.prog 125 := canB_ok (by kernel_rfl)
theorem can178 : Callable Tryz.prog 156 := canB_ok (by kernel_rfl)
theorem heap_set2 (w : World) (n : Nat) (a b : Value) (o : Obj) (c : Nat) (hlt : c < w.heap.size) (h1 : c ≠ n) (h2 : c ≠ n + 1) :
    (((w.setCell ⟨n, 0, none⟩ a).setCell ⟨n + 1, 0, none⟩ b).alloc o).heap[c]? = w.heap[c]? := by
  have hsz : ((w.setCell ⟨n, 0, none⟩ a).setCell ⟨n + 1, 0, none⟩ b).heap.size = w.heap.size := by simp [World.setCell]
  show (Array.push _ _)[c]? = _
  rw [Array.getElem?_push_lt (by rw [hsz]; exact hlt), ← Array.getElem?_eq_getElem]
  rw [setCell_other h2, setCell_other h1]
theorem written_H {fid : FuncId} {caps : List V} {H : Hp} {r1 r2 : AR} {s : List UInt8} (h1 : r1.pre ∧ HCall Tryz.prog fid caps H r1) (h2 : r2.pre ∧ HCall Tryz.prog 156 [r1.v] r1.h r2) (hv : r2.v = .str s) :
    HCall Tryz.prog 125 [.fn fid caps] H ⟨True, .tup [.str s, .int .i64 0], r2.h, r1.R ++ r2.R.filter (· < H.next), r1.W ++ r2.W.filter (· < H.next)⟩ := by
  obtain ⟨p1, s1, c1⟩ := h1
  obtain ⟨p2, s2, c2⟩ := h2
  refine ⟨fun _ => (s1 p1).trans (s2 p2), fun _ g base D w vs hgl hI hvs hpw hD => ?_⟩
  obtain ⟨vf, hvf, rf⟩ := hpw 0 _ rfl
  obtain ⟨arr, rfl, hsz, hcp⟩ := rf.inv_fn
  have hvs' : vs = #[.func (.func fid) #[] arr] := by
    apply Array.ext_getElem?
    intro i
    match i with
    | 0 => exact hvf
    | i + 1 => rw [Array.getElem?_eq_none (by simp at hvs; omega), Array.getElem?_eq_none (by simp)]
  subst hvs'
  let w2 := (w.alloc (.cells #[.string .empty] 9)).alloc (.cells #[.int .i64 0] 34)
  have hs2 : w2.heap.size = w.heap.size + 2 := by show ((w.heap.push _).push _).size = _; simp
  have hb : Bel w.heap.size w w2 := Bel.of (((Go.RowKit.Below.refl _ _).alloc (Nat.le_refl _) _).alloc (by show w.heap.size ≤ (w.heap.push _).size; simp) _) (Nat.le_refl _)
  have hI2 := hI.more hb
  have m1 : ∀ b ∈ r1.R ++ r1.W, D b := fun b hb => by
    rcases List.mem_append.1 hb with h | h
    · exact hD b (List.mem_append_left _ (List.mem_append_left _ h))
    · exact hD b (List.mem_append_right _ (List.mem_append_left _ h))
  have k1 := c1 p1 g base D w2 arr hgl hI2 hsz hcp m1
  refine .inl ⟨can146 _ w, written_ok w fid arr (R1 := fun v w' => ∃ g', VRel g' r1.v v ∧ Post g g' base H r1.h D r1.W w2 w') (k1.mono ?_) ?_⟩
  · rintro e w' ⟨g', vc, rfl, hv1, hp1⟩
    exact ⟨vc, rfl, g', hv1, hp1⟩
  rintro v w' ⟨g', hv1, hp1⟩
  have m2 : ∀ b ∈ r2.R ++ r2.W, D b ∨ H.next ≤ b := fun b hb => by
    by_cases hlt : b < H.next
    · left
      rcases List.mem_append.1 hb with h | h
      · exact hD b (List.mem_append_left _ (List.mem_append_right _ (List.mem_filter.2 ⟨h, by simpa using hlt⟩)))
      · exact hD b (List.mem_append_right _ (List.mem_append_right _ (List.mem_filter.2 ⟨h, by simpa using hlt⟩)))
    · exact .inr (Nat.le_of_not_lt hlt)
  have k2 := c2 p2 g' base (fun b => D b ∨ H.next ≤ b) w' #[v] (hgl.mono hp1.le.2) hp1.inv rfl (fun i x hx => by
    match i, hx with
    | 0, hx => cases hx; exact ⟨v, rfl, hv1⟩) m2
  refine (GoCall_calls can178 k2).mono ?_
  rintro e w3 ⟨g2, vc, rfl, hv2, hp2⟩
  rw [hv] at hv2
  obtain ⟨sb, rfl, hsb⟩ := hv2.inv_str
  have tot := Post.trans hI2 hp1 hp2
  have fr : ∀ c, w.heap.size ≤ c → c < w2.heap.size → w3.heap[c]? = w2.heap[c]? := fun c h1 h2 => tot.frame c h2 fun b _ T e => by
    have := (hI.dom b T e).2.2
    omega
  have b1 : w3.heap[w.heap.size]? = some (.cells #[.string .empty] 9 (0, 0)) := by
    rw [fr _ (Nat.le_refl _) (by omega)]
    show ((w.heap.push _).push _)[w.heap.size]? = _
    rw [Array.getElem?_push_lt (by simp)]; simp
  have b2 : w3.heap[w.heap.size + 1]? = some (.cells #[.int .i64 0] 34 (0, 0)) := by
    rw [fr _ (by omega) (by omega)]
    show ((w.heap.push _).push _)[w.heap.size + 1]? = _
    rw [Array.getElem?_push, if_pos (by simp)]
  refine ⟨sb, rfl, b1, b2, g2, _, rfl, ?_, Post.around hI hb tot rfl ⟨rfl, Nat.le_refl _⟩ rfl ?_ ?_⟩
  · refine VRel.mk_tup rfl fun i y hy => ?_
    match i, hy with
    | 0, hy => cases hy; exact ⟨_, rfl, .str hsb⟩
    | 1, hy => cases hy; exact ⟨_, rfl, .int _ _⟩
  · show _ ≤ (Array.push _ _).size
    simp [World.setCell]
  · intro c hc ho
    exact heap_set2 w3 w.heap.size _ _ _ c hc (by omega) (by omega)
def spec1 (rec : FuncId → List V → Hp → Option AR) (f : FuncId) (args : List V) (H : Hp) : Option AR :=
  match Nat.beq f 125, args with
  | true, [.fn fid caps] =>
    match rec fid caps H with
    | some r1 =>
      match rec 156 [r1.v] r1.h with
      | some r2 =>
        match r2.v with
        | .str s => some ⟨True, .tup [.str s, .int .i64 0], r2.h, r1.R ++ r2.R.filter (· < H.next), r1.W ++ r2.W.filter (· < H.next)⟩
        | _ => none
      | none => none
    | none => none
  | true, _ => none
  | false, _ =>
    match Nat.beq f 186, args with
    | true, [x] => some ⟨True, x, H, [], []⟩
    | _, _ => none
theorem noEscape_H1 (x : V) (H : Hp) : HCall Tryz.prog 186 [x] H ⟨True, x, H, [], []⟩ := by
  refine ⟨fun _ => Stat.refl H, fun _ g base D w vs hgl hI hvs hpw hD => ?_⟩
  obtain ⟨v, hv, rv⟩ := hpw 0 _ rfl
  have hvs' : vs = #[v] := by
    apply Array.ext_getElem?
    intro i
    match i with
    | 0 => exact hv
    | i + 1 => rw [Array.getElem?_eq_none (by simp at hvs; omega), Array.getElem?_eq_none (by simp)]
  subst hvs'
  refine .inr ⟨v, w, ?_, g, v, rfl, rv, Post.refl hI rfl rfl (.refl _) rfl⟩
  rw [run_callFunc_extern (fn := Tryz.f186) Tryz.func186 (by kernel_rfl) rfl rfl (e := Go.Extern.AbiNoEscape.same) (by kernel_rfl), Lib.run_noEscape]
  rfl
theorem spec1_ok {E : ECfg} (h : E.spec = spec1) : GoodSpec Tryz.prog E := by
  intro rec hrec f args H r e
  rw [h] at e
  unfold spec1 at e
  split at e
  · rename_i fid caps hf
    have hf' := Nat.eq_of_beq_eq_true hf
    subst hf'
    split at e
    rotate_left; · cases e
    rename_i r1 h1
    split at e
    rotate_left; · cases e
    rename_i r2 h2
    split at e
    · rename_i s hs
      cases e
      exact ⟨trivial, written_H (hrec _ _ _ _ h1) (hrec _ _ _ _ h2) hs⟩
    · cases e
  · cases e
  · split at e
    · rename_i x hf
      have hf' := Nat.eq_of_beq_eq_true hf
      subst hf'
      cases e
      exact ⟨trivial, noEscape_H1 x H⟩
    · cases e
end Go.Proofs

/- The ground of the machine at this translation. -/
namespace Go.Proofs
open Go.Ab
theorem mixed0 : Tryz.prog.follows .mixedOrders = true := by kernel_rfl
end Go.Proofs

/- Tables of calls that have been run: contracts that the machine looks up. -/
namespace Go.Ab
variable {P : Program}
abbrev FTab := List (List V × V)
abbrev Tab := List (FuncId × FTab)
def eqS : List UInt8 → List UInt8 → Bool
  | [], [] => true
  | a :: r, b :: s => Nat.beq a.toNat b.toNat && eqS r s
  | _, _ => false
theorem eqS_eq : ∀ {a b : List UInt8}, eqS a b = true → a = b
  | [], b, h => by cases b <;> simp [eqS] at h; rfl
  | x :: r, b, h => by
    cases b with
    | nil => simp [eqS] at h
    | cons y s =>
      simp [eqS] at h
      rw [eqS_eq h.2, UInt8.toNat_inj.1 h.1]
def eqA : V → V → Bool
  | .str a, .str b => eqS a b
  | .int k a, .int k' b => decide (k = k') && decide (a = b)
  | .bool a, .bool b => a == b
  | _, _ => false
def eqAs : List V → List V → Bool
  | [], [] => true
  | a :: r, b :: s => eqA a b && eqAs r s
  | _, _ => false
theorem eqA_eq {a b : V} (h : eqA a b = true) : a = b ∧ Pure a := by
  unfold eqA at h
  split at h
  · exact ⟨by rw [eqS_eq h], .str _⟩
  · simp at h; exact ⟨by rw [h.1, h.2], .int _ _⟩
  · simp at h; exact ⟨by rw [h], .bool _⟩
  · cases h
theorem eqAs_eq : ∀ {a b : List V}, eqAs a b = true → a = b
  | [], b, h => by cases b <;> simp [eqAs] at h; rfl
  | x :: r, b, h => by
    cases b with
    | nil => simp [eqAs] at h
    | cons y s =>
      simp [eqAs] at h
      rw [(eqA_eq h.1).1, eqAs_eq h.2]
def tabGo (L : FTab) (args : List V) : Option PR :=
  match L with
  | [] => none
  | q :: r => match eqAs q.1 args with
    | true => some (.ret q.2)
    | false => tabGo r args
def tabF (T : Tab) (f : FuncId) (args : List V) : Option PR :=
  match T with
  | [] => none
  | e :: r => match Nat.beq e.1 f with
    | true => tabGo e.2 args
    | false => tabF r f args
def FTabOK (P : Program) (f : FuncId) (L : FTab) : Prop := ∀ q ∈ L, PCall P f q.1 (.ret q.2)
theorem FTabOK.nil {f : FuncId} : FTabOK P f [] := fun _ h => by cases h
theorem FTabOK.append {f : FuncId} {L M : FTab} (h : FTabOK P f L) (k : FTabOK P f M) : FTabOK P f (L ++ M) := fun q hq => (List.mem_append.1 hq).elim (h q) (k q)
def TabOK (P : Program) (T : Tab) : Prop := ∀ e ∈ T, FTabOK P e.1 e.2
theorem TabOK.nil : TabOK P [] := fun _ h => by cases h
theorem TabOK.cons {f : FuncId} {L : FTab} {T : Tab} (h : FTabOK P f L) (k : TabOK P T) : TabOK P ((f, L) :: T) := fun e he => by
  rcases List.mem_cons.1 he with rfl | he
  · exact h
  · exact k e he
theorem tabGo_ok {f : FuncId} {args : List V} {r : PR} : ∀ {L : FTab}, FTabOK P f L → tabGo L args = some r → PCall P f args r
  | [], _, h => by cases h
  | q :: L, ok, h => by
    unfold tabGo at h
    split at h
    · rename_i e
      cases h
      rw [← eqAs_eq e]
      exact ok q (List.mem_cons_self ..)
    · exact tabGo_ok (fun q hq => ok q (List.mem_cons_of_mem _ hq)) h
theorem tabF_ok {f : FuncId} {args : List V} {r : PR} : ∀ {T : Tab}, TabOK P T → tabF T f args = some r → PCall P f args r
  | [], _, h => by cases h
  | e :: T, ok, h => by
    unfold tabF at h
    split at h
    · rename_i q
      have q' := Nat.eq_of_beq_eq_true q
      subst q'
      exact tabGo_ok (ok e (List.mem_cons_self ..)) h
    · exact tabF_ok (fun e he => ok e (List.mem_cons_of_mem _ he)) h
noncomputable def chkT (E : ECfg) (P : Program) (n : Nat) (f : FuncId) (L : FTab) : Bool :=
  match L with
  | [] => true
  | q :: r =>
    match eAns E P n f q.1 with
    | some v => beqV v q.2 && eqAs q.1 q.1 && chkT E P n f r
    | none => false
theorem eqAs_pure : ∀ {a : List V}, eqAs a a = true → ∀ x ∈ a, Pure x
  | y :: r, h, x, hx => by
    simp [eqAs] at h
    rcases List.mem_cons.1 hx with rfl | hx
    · exact (eqA_eq h.1).2
    · exact eqAs_pure h.2 x hx
theorem chkT_ok {E : ECfg} (hm : P.follows .mixedOrders = true) (hΓ : ∀ f args r, E.Γ f args = some r → PCall P f args r) (hcan : ∀ f, E.can f = true → Callable P f) (hsp : GoodSpec P E)
    {n : Nat} {f : FuncId} : ∀ {L : FTab}, chkT E P n f L = true → FTabOK P f L
  | [], _ => FTabOK.nil
  | q :: L, h => by
    unfold chkT at h
    split at h
    rotate_left; · cases h
    rename_i v hv
    simp only [Bool.and_eq_true] at h
    intro q' hq
    rcases List.mem_cons.1 hq with rfl | hq
    · have := eAns_ok hm hΓ hcan hsp (eqAs_pure h.1.2) hv
      rw [beqV_eq h.1.1] at this
      exact this
    · exact chkT_ok hm hΓ hcan hsp h.2 q' hq
def withTab (E : ECfg) (T : Tab) : ECfg := { E with Γ := fun f args => match tabF T f args with | some r => some r | none => E.Γ f args }
theorem withTab_ok {E : ECfg} {T : Tab} (hΓ : ∀ f args r, E.Γ f args = some r → PCall P f args r) (hT : TabOK P T) : ∀ f args r, (withTab E T).Γ f args = some r → PCall P f args r := by
  intro f args r h
  have h' : (match tabF T f args with | some r => some r | none => E.Γ f args) = some r := h
  split at h'
  · rename_i r' hr
    cases h'
    exact tabF_ok hT hr
  · exact hΓ f args r h'
end Go.Ab

/- The machine, set up for this translation. -/
namespace Go.Proofs
open Go.Ab
theorem can1 : ((List.range (192 + 1)).all fun f => [0, 1, 166, 184, 186, 192].contains f || canB Tryz.prog f) = true := by kernel_rfl
def gIndex (args : List V) : Option PR :=
  match args with
  | [.str s, .int .u8 n] => bif decide (0 ≤ n) && decide (n < 256) then some (.ret (.int .i64 (ixB s (UInt8.ofNat n.toNat)))) else none
  | _ => none
theorem gIndex_ok (args : List V) (r : PR) (h : gIndex args = some r) : PCall Tryz.prog 184 args r := by
  unfold gIndex at h
  split at h
  · rename_i s n
    cases hc : (decide (0 ≤ n) && decide (n < 256)) with
    | false => rw [hc] at h; cases h
    | true =>
      rw [hc] at h
      cases h
      simp only [Bool.and_eq_true, decide_eq_true_eq] at hc
      have e : ((UInt8.ofNat n.toNat).toNat : Int) = n := by simp; omega
      have := index_ok s (UInt8.ofNat n.toNat)
      rw [e] at this
      exact this
  · cases h
def Γ1 (f : FuncId) (args : List V) : Option PR := bif Nat.beq f 184 then gIndex args else none
theorem Γ1_ok : ∀ f args r, Γ1 f args = some r → PCall Tryz.prog f args r := by
  intro f args r h
  unfold Γ1 at h
  cases hf : Nat.beq f 184 with
  | false => rw [hf] at h; cases h
  | true =>
    rw [hf] at h
    rw [Nat.eq_of_beq_eq_true hf]
    exact gIndex_ok _ _ h
def wr1 (f : FuncId) : Nat := bif [160,140,171,79,106,129,130,131,132,133,134,135,136,61,92,114,115,116,117,118,119,121,122,162,152,163,164,150,153,154,183,178,59,62].contains f then 1 else bif [142,144].contains f then 2 else 0
def E1 : ECfg := ⟨Γ1, canL [0, 1, 166, 184, 186, 192] 192, wr1, fun _ => false, 100000, spec1⟩
end Go.Proofs

/- Calls that have been run (laid by program): level 0. -/
namespace Go.Proofs
open Go.Ab
def VAL83 : List (List V × V) := [([.str [48]], .bool true),
  ([.str [49]], .bool true),
  ([.str [51]], .bool true),
  ([.str [50]], .bool true),
  ([.str [52]], .bool true),
  ([.str [53]], .bool true)]
theorem VAL83_ok : FTabOK Tryz.prog 83 VAL83 := chkT_ok (E := E1) (n := 60) mixed0 Γ1_ok (canL_ok can1) (spec1_ok rfl) (by kernel_rfl)
def VAL81 : List (List V × V) := [([.str [48], .str [45]], .tup [.str [48], .bool false]),
  ([.str [51], .str [45]], .tup [.str [51], .bool false]),
  ([.str [49], .str [45]], .tup [.str [49], .bool false]),
  ([.str [50], .str [45]], .tup [.str [50], .bool false]),
  ([.str [52], .str [45]], .tup [.str [52], .bool false]),
  ([.str [53], .str [45]], .tup [.str [53], .bool false]),
  ([.str [45, 49], .str [45]], .tup [.str [49], .bool true]),
  ([.str [49, 47, 50], .str [45]], .tup [.str [49, 47, 50], .bool false])]
theorem VAL81_ok : FTabOK Tryz.prog 81 VAL81 := chkT_ok (E := E1) (n := 60) mixed0 Γ1_ok (canL_ok can1) (spec1_ok rfl) (by kernel_rfl)
def VAL82 : List (List V × V) := [([.str [48], .str [47]], .tup [.str [48], .str [], .bool false]),
  ([.str [51], .str [47]], .tup [.str [51], .str [], .bool false]),
  ([.str [49], .str [47]], .tup [.str [49], .str [], .bool false]),
  ([.str [50], .str [47]], .tup [.str [50], .str [], .bool false]),
  ([.str [52], .str [47]], .tup [.str [52], .str [], .bool false]),
  ([.str [53], .str [47]], .tup [.str [53], .str [], .bool false]),
  ([.str [49, 47, 50], .str [47]], .tup [.str [49], .str [50], .bool true])]
theorem VAL82_ok : FTabOK Tryz.prog 82 VAL82 := chkT_ok (E := E1) (n := 60) mixed0 Γ1_ok (canL_ok can1) (spec1_ok rfl) (by kernel_rfl)
def VAL64 : List (List V × V) := [([.int .i64 3], .str [51]),
  ([.int .i64 1], .str [49]),
  ([.int .i64 0], .str [48]),
  ([.int .i64 2], .str [50])]
theorem VAL64_ok : FTabOK Tryz.prog 64 VAL64 := chkT_ok (E := E1) (n := 60) mixed0 Γ1_ok (canL_ok can1) (spec1_ok rfl) (by kernel_rfl)
def VAL27 : List (List V × V) := [([.str [68], .str []], .int .i64 1),
  ([.str [78], .str [68]], .int .i64 1),
  ([.str [], .str [78]], .int .i64 (-1)),
  ([.str [78], .str []], .int .i64 1),
  ([.str [], .str [68]], .int .i64 (-1)),
  ([.str [78], .str [78]], .int .i64 0),
  ([.str [], .str []], .int .i64 0),
  ([.str [68], .str [78]], .int .i64 (-1)),
  ([.str [100, 111, 103], .str [116, 104, 101]], .int .i64 (-1)),
  ([.str [116, 104, 101], .str [100, 111, 103]], .int .i64 1)]
theorem VAL27_ok : FTabOK Tryz.prog 27 VAL27 := chkT_ok (E := E1) (n := 60) mixed0 Γ1_ok (canL_ok can1) (spec1_ok rfl) (by kernel_rfl)
def VAL51 : List (List V × V) := [([.str [68]], .bool false),
  ([.str []], .bool false),
  ([.str [78]], .bool false),
  ([.str [100, 111, 103]], .bool false),
  ([.str [116, 104, 101]], .bool false)]
theorem VAL51_ok : FTabOK Tryz.prog 51 VAL51 := chkT_ok (E := E1) (n := 60) mixed0 Γ1_ok (canL_ok can1) (spec1_ok rfl) (by kernel_rfl)
def TVA0 : Tab := [(83, VAL83), (81, VAL81), (82, VAL82), (64, VAL64), (27, VAL27), (51, VAL51)]
theorem TVA0_ok : TabOK Tryz.prog TVA0 := TabOK.cons VAL83_ok (TabOK.cons VAL81_ok (TabOK.cons VAL82_ok (TabOK.cons VAL64_ok (TabOK.cons VAL27_ok (TabOK.cons VAL51_ok (TabOK.nil))))))
noncomputable def EVA0 : ECfg := withTab E1 TVA0
theorem EVA0_ok : ∀ f args r, EVA0.Γ f args = some r → PCall Tryz.prog f args r := withTab_ok Γ1_ok TVA0_ok
end Go.Proofs

/- Calls that have been run (laid by program): level 1. -/
namespace Go.Proofs
open Go.Ab
def VAL58 : List (List V × V) := [([.str [48], .str [49]], .tup [.str [48], .int .i64 0]),
  ([.str [48], .str [51]], .tup [.str [48], .int .i64 0]),
  ([.str [49], .str [49]], .tup [.str [49], .int .i64 0]),
  ([.str [50], .str [49]], .tup [.str [50], .int .i64 0]),
  ([.str [49], .str [50]], .tup [.str [50], .int .i64 0]),
  ([.str [49], .str [51]], .tup [.str [51], .int .i64 0]),
  ([.str [51], .str [49]], .tup [.str [51], .int .i64 0]),
  ([.str [49], .str [52]], .tup [.str [52], .int .i64 0]),
  ([.str [49], .str [53]], .tup [.str [53], .int .i64 0]),
  ([.str [48], .str [50]], .tup [.str [48], .int .i64 0])]
theorem VAL58_ok : FTabOK Tryz.prog 58 VAL58 := chkT_ok (E := EVA0) (n := 60) mixed0 EVA0_ok (canL_ok can1) (spec1_ok rfl) (by kernel_rfl)
def VAL85 : List (List V × V) := [([.str [48], .str [49]], .tup [.str [49], .int .i64 0]),
  ([.str [48], .str [48]], .tup [.str [48], .int .i64 0]),
  ([.str [49], .str [48]], .tup [.str [49], .int .i64 0]),
  ([.str [48], .str [50]], .tup [.str [50], .int .i64 0]),
  ([.str [50], .str [48]], .tup [.str [50], .int .i64 0]),
  ([.str [51], .str [49]], .tup [.str [52], .int .i64 0]),
  ([.str [49], .str [49]], .tup [.str [50], .int .i64 0]),
  ([.str [51], .str [50]], .tup [.str [53], .int .i64 0]),
  ([.str [50], .str [49]], .tup [.str [51], .int .i64 0])]
theorem VAL85_ok : FTabOK Tryz.prog 85 VAL85 := chkT_ok (E := EVA0) (n := 60) mixed0 EVA0_ok (canL_ok can1) (spec1_ok rfl) (by kernel_rfl)
def VAL86 : List (List V × V) := [([.str [48], .str [48]], .int .i64 0),
  ([.str [49], .str [48]], .int .i64 1),
  ([.str [48], .str [49]], .int .i64 (-1)),
  ([.str [49], .str [49]], .int .i64 0),
  ([.str [49], .str [50]], .int .i64 (-1))]
theorem VAL86_ok : FTabOK Tryz.prog 86 VAL86 := chkT_ok (E := EVA0) (n := 60) mixed0 EVA0_ok (canL_ok can1) (spec1_ok rfl) (by kernel_rfl)
def VAL87 : List (List V × V) := [([.str [48], .str [48]], .tup [.str [48], .int .i64 0]),
  ([.str [49], .str [48]], .tup [.str [49], .int .i64 0]),
  ([.str [49], .str [49]], .tup [.str [48], .int .i64 0]),
  ([.str [50], .str [49]], .tup [.str [49], .int .i64 0])]
theorem VAL87_ok : FTabOK Tryz.prog 87 VAL87 := chkT_ok (E := EVA0) (n := 60) mixed0 EVA0_ok (canL_ok can1) (spec1_ok rfl) (by kernel_rfl)
def VAL84 : List (List V × V) := [([.str [48], .str [49]], .tup [.str [49], .int .i64 0]),
  ([.str [51], .str [49]], .tup [.str [49], .int .i64 0]),
  ([.str [49], .str [49]], .tup [.str [49], .int .i64 0]),
  ([.str [50], .str [49]], .tup [.str [49], .int .i64 0]),
  ([.str [48], .str [50]], .tup [.str [50], .int .i64 0]),
  ([.str [50], .str [50]], .tup [.str [50], .int .i64 0]),
  ([.str [49], .str [50]], .tup [.str [49], .int .i64 0]),
  ([.str [52], .str [49]], .tup [.str [49], .int .i64 0]),
  ([.str [49], .str [52]], .tup [.str [49], .int .i64 0]),
  ([.str [50], .str [52]], .tup [.str [50], .int .i64 0]),
  ([.str [53], .str [49]], .tup [.str [49], .int .i64 0]),
  ([.str [49], .str [53]], .tup [.str [49], .int .i64 0]),
  ([.str [51], .str [53]], .tup [.str [49], .int .i64 0]),
  ([.str [50], .str [53]], .tup [.str [49], .int .i64 0])]
theorem VAL84_ok : FTabOK Tryz.prog 84 VAL84 := chkT_ok (E := EVA0) (n := 60) mixed0 EVA0_ok (canL_ok can1) (spec1_ok rfl) (by kernel_rfl)
def VAL157 : List (List V × V) := [([.str [48], .str [49]], .tup [.str [48], .str [48], .int .i64 0]),
  ([.str [49], .str [49]], .tup [.str [49], .str [48], .int .i64 0]),
  ([.str [50], .str [49]], .tup [.str [50], .str [48], .int .i64 0]),
  ([.str [48], .str [50]], .tup [.str [48], .str [48], .int .i64 0]),
  ([.str [50], .str [50]], .tup [.str [49], .str [48], .int .i64 0]),
  ([.str [51], .str [49]], .tup [.str [51], .str [48], .int .i64 0]),
  ([.str [52], .str [49]], .tup [.str [52], .str [48], .int .i64 0]),
  ([.str [52], .str [50]], .tup [.str [50], .str [48], .int .i64 0]),
  ([.str [53], .str [49]], .tup [.str [53], .str [48], .int .i64 0])]
theorem VAL157_ok : FTabOK Tryz.prog 157 VAL157 := chkT_ok (E := EVA0) (n := 60) mixed0 EVA0_ok (canL_ok can1) (spec1_ok rfl) (by kernel_rfl)
def TVA1 : Tab := [(58, VAL58), (85, VAL85), (86, VAL86), (87, VAL87), (84, VAL84), (157, VAL157)]
theorem TVA1_ok : TabOK Tryz.prog TVA1 := TabOK.cons VAL58_ok (TabOK.cons VAL85_ok (TabOK.cons VAL86_ok (TabOK.cons VAL87_ok (TabOK.cons VAL84_ok (TabOK.cons VAL157_ok (TabOK.nil))))))
noncomputable def EVA1 : ECfg := withTab EVA0 TVA1
theorem EVA1_ok : ∀ f args r, EVA1.Γ f args = some r → PCall Tryz.prog f args r := withTab_ok EVA0_ok TVA1_ok
end Go.Proofs

/- Calls that have been run (laid by program): level 2. -/
namespace Go.Proofs
open Go.Ab
def VAL127 : List (List V × V) := [([.str [48], .str [49]], .str [48]),
  ([.str [49], .str [49]], .str [49]),
  ([.str [50], .str [49]], .str [50]),
  ([.str [48], .str [50]], .str [48]),
  ([.str [50], .str [50]], .str [49]),
  ([.str [51], .str [49]], .str [51]),
  ([.str [52], .str [49]], .str [52]),
  ([.str [52], .str [50]], .str [50]),
  ([.str [53], .str [49]], .str [53])]
theorem VAL127_ok : FTabOK Tryz.prog 127 VAL127 := chkT_ok (E := EVA1) (n := 60) mixed0 EVA1_ok (canL_ok can1) (spec1_ok rfl) (by kernel_rfl)
def TVA2 : Tab := [(127, VAL127)]
theorem TVA2_ok : TabOK Tryz.prog TVA2 := TabOK.cons VAL127_ok (TabOK.nil)
noncomputable def EVA2 : ECfg := withTab EVA1 TVA2
theorem EVA2_ok : ∀ f args r, EVA2.Γ f args = some r → PCall Tryz.prog f args r := withTab_ok EVA1_ok TVA2_ok
end Go.Proofs

/- Calls that have been run (laid by program): level 3. -/
namespace Go.Proofs
open Go.Ab
def VAL63 : List (List V × V) := [([.str [48], .str [51]], .tup [.str [48], .int .i64 0]),
  ([.str [49], .str [51]], .tup [.str [51], .int .i64 0])]
theorem VAL63_ok : FTabOK Tryz.prog 63 VAL63 := chkT_ok (E := EVA2) (n := 60) mixed0 EVA2_ok (canL_ok can1) (spec1_ok rfl) (by kernel_rfl)
def VAL33 : List (List V × V) := [([.str [48], .str [48]], .int .i64 0),
  ([.str [49], .str [48]], .int .i64 1),
  ([.str [45, 49], .str [48]], .int .i64 (-1)),
  ([.str [48], .str [49]], .int .i64 (-1)),
  ([.str [49], .str [49]], .int .i64 0),
  ([.str [49, 47, 50], .str [48]], .int .i64 1),
  ([.str [49, 47, 50], .str [49]], .int .i64 (-1))]
theorem VAL33_ok : FTabOK Tryz.prog 33 VAL33 := chkT_ok (E := EVA2) (n := 60) mixed0 EVA2_ok (canL_ok can1) (spec1_ok rfl) (by kernel_rfl)
def VAL65 : List (List V × V) := [([.str [48], .str [49]], .tup [.str [49], .int .i64 0]),
  ([.str [48], .str [48]], .tup [.str [48], .int .i64 0]),
  ([.str [49], .str [48]], .tup [.str [49], .int .i64 0]),
  ([.str [48], .str [50]], .tup [.str [50], .int .i64 0]),
  ([.str [50], .str [48]], .tup [.str [50], .int .i64 0]),
  ([.str [51], .str [49]], .tup [.str [52], .int .i64 0]),
  ([.str [49], .str [49]], .tup [.str [50], .int .i64 0]),
  ([.str [51], .str [50]], .tup [.str [53], .int .i64 0]),
  ([.str [50], .str [49]], .tup [.str [51], .int .i64 0])]
theorem VAL65_ok : FTabOK Tryz.prog 65 VAL65 := chkT_ok (E := EVA2) (n := 60) mixed0 EVA2_ok (canL_ok can1) (spec1_ok rfl) (by kernel_rfl)
def VAL66 : List (List V × V) := [([.str [48], .str [49]], .tup [.str [48], .int .i64 0]),
  ([.str [49], .str [49]], .tup [.str [49], .int .i64 0]),
  ([.str [48], .str [50]], .tup [.str [48], .int .i64 0]),
  ([.str [50], .str [50]], .tup [.str [49], .int .i64 0]),
  ([.str [49], .str [50]], .tup [.str [49, 47, 50], .int .i64 0]),
  ([.str [49], .str [52]], .tup [.str [49, 47, 52], .int .i64 0]),
  ([.str [50], .str [52]], .tup [.str [49, 47, 50], .int .i64 0]),
  ([.str [49], .str [53]], .tup [.str [49, 47, 53], .int .i64 0]),
  ([.str [51], .str [53]], .tup [.str [51, 47, 53], .int .i64 0]),
  ([.str [50], .str [53]], .tup [.str [50, 47, 53], .int .i64 0])]
theorem VAL66_ok : FTabOK Tryz.prog 66 VAL66 := chkT_ok (E := EVA2) (n := 60) mixed0 EVA2_ok (canL_ok can1) (spec1_ok rfl) (by kernel_rfl)
def VAL32 : List (List V × V) := [([.str [48]], .bool true),
  ([.str [49]], .bool true),
  ([.str [50]], .bool true),
  ([.str [51]], .bool true),
  ([.str [45, 49]], .bool true),
  ([.str [49, 47, 50]], .bool true)]
theorem VAL32_ok : FTabOK Tryz.prog 32 VAL32 := chkT_ok (E := EVA2) (n := 60) mixed0 EVA2_ok (canL_ok can1) (spec1_ok rfl) (by kernel_rfl)
def VAL24 : List (List V × V) := [([.str [116, 104, 101]], .bool true),
  ([.str [68]], .bool true),
  ([.str [100, 111, 103]], .bool true),
  ([.str [78]], .bool true)]
theorem VAL24_ok : FTabOK Tryz.prog 24 VAL24 := chkT_ok (E := EVA2) (n := 60) mixed0 EVA2_ok (canL_ok can1) (spec1_ok rfl) (by kernel_rfl)
def TVA3 : Tab := [(63, VAL63), (33, VAL33), (65, VAL65), (66, VAL66), (32, VAL32), (24, VAL24)]
theorem TVA3_ok : TabOK Tryz.prog TVA3 := TabOK.cons VAL63_ok (TabOK.cons VAL33_ok (TabOK.cons VAL65_ok (TabOK.cons VAL66_ok (TabOK.cons VAL32_ok (TabOK.cons VAL24_ok (TabOK.nil))))))
noncomputable def EVA3 : ECfg := withTab EVA2 TVA3
theorem EVA3_ok : ∀ f args r, EVA3.Γ f args = some r → PCall Tryz.prog f args r := withTab_ok EVA2_ok TVA3_ok
end Go.Proofs

/- awake of chapter 35, run. -/
namespace Go.Proofs
open Go.Ab
theorem awake_run : eAns EVA3 Tryz.prog 60 8 [] = some (.bool true) := by kernel_rfl
theorem awake_call : PCall Tryz.prog 8 [] (.ret (.bool true)) := eAns_ok mixed0 EVA3_ok (canL_ok can1) (spec1_ok rfl) (fun x h => by cases h) awake_run
end Go.Proofs
