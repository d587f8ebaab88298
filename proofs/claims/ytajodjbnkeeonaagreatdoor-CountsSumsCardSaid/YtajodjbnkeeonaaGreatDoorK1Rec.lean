/- rat.written: what it makes of its argument, in a run without a panic. -/
import Derived.Test.YtajodjbnkeeonaaGreatDoorChecked
import Derived.Tactics
import Derived.Tactics2
import Derived.Defers
import Derived.Recover
import Derived.Laws.Pointers
import Derived.KernelRfl
import Derived.Test.YtajodjbnkeeonaaGreatDoorAbEvFn
import Derived.Laws.Externs
import Derived.Lib.Builder
import Derived.Test.YtajodjbnkeeonaaGreatDoorAbAround
set_option linter.unusedSimpArgs false
set_option linter.unusedVariables false
namespace Go.Proofs
open Go.Ab
theorem assert_nil (w : World) : (Instr.typeAssert .nilIface 20 103 true).run Tryz.prog w = .ok (.tuple #[.agg #[], .bool false]) w := by
  have h1 : Tryz.prog.underlying 103 = some (.struct #[]) := by kernel_rfl
  have h2 : zeroT Tryz.prog 103 = some (.agg #[]) := by kernel_rfl
  simp [Instr.typeAssert, run_underlying h1, run_zeroT h2]
set_option maxRecDepth 100000 in
theorem catch_idle (p q : Value) (w : World) :
    CallsD Tryz.prog 136 #[p, q] .returning w fun e u' w' => e = .returned (.tuple #[]) ∧ u' = .returning ∧ w' = w.alloc (.cells #[] 103) := by
  refine callsD_of_wpS Tryz.func136 rfl fun c₀ cs hu => ?_
  apply wpS_seq
  apply wpS_region
  simp [wpOpsS, go_sem, recoverD, hu, Tryz.ntmps136, Exit.thenS, assert_nil]
  apply wpS_seq
  apply wpS_region
  simp [wpOpsS, go_sem, Exit.thenS]
  refine wpS_cond (t := false) (by simp [Act.eval, Array.replicate]) ?_
  simp only [Bool.false_eq_true, if_false]
  refine wpS_of_wp (wp_skip ?_)
  cases c₀
  simp_all [bodyPostS, results, Tryz.results136]
theorem GoCall_upon {P : Program} {o : Oper} {a : Act} {next : Act → World → Prop} {Q : Exit → Act → World → Prop} {f : FuncId} {vs : Array Value} {w : World} {R : Ending → World → Prop} (h : GoCall P f vs w R)
    (hr : ∀ e w', R e w' → match e with | .returned v => next (a.put o.dst v) w' | .panicked ch => Q (.panic ch) a w' | .outgrown => False) : Oper.upon P o a next Q ((callFunc f vs).run P w) := by
  rcases h with ⟨h1, h2⟩ | ⟨v, w', h1, h2⟩
  · rw [h1]
    refine h2.mono fun e w' q => ?_
    have := hr e w' q
    cases e with
    | returned v => exact this
    | panicked ch => exact this
    | outgrown => exact this.elim
  · rw [h1]
    exact hr _ _ h2
set_option maxRecDepth 100000 in
theorem written_ok (w : World) (fid : FuncId) (caps : Array Value) {R1 : Value → World → Prop} {R : Ending → World → Prop}
    (h1 : GoCall Tryz.prog fid caps ((w.alloc (.cells #[.string .empty] 9)).alloc (.cells #[.int .i64 0] 28)) fun e w' => ∃ v, e = .returned v ∧ R1 v w')
    (h3 : ∀ v w', R1 v w' → Calls Tryz.prog 137 #[v] w' fun e w'' => ∃ s, e = .returned (.string s) ∧
      w''.heap[w.heap.size]? = some (.cells #[.string .empty] 9 (0, 0)) ∧ w''.heap[w.heap.size + 1]? = some (.cells #[.int .i64 0] 28 (0, 0)) ∧
      R (.returned (.tuple #[.string s, .int .i64 0])) (((w''.setCell ⟨w.heap.size, 0, none⟩ (.string s)).setCell ⟨w.heap.size + 1, 0, none⟩ (.int .i64 0)).alloc (.cells #[] 103))) :
    Calls Tryz.prog 111 #[.func (.func fid) #[] caps] w R := by
  have hmf : ∀ (fn : Fn) (first cap : Array Value) (w : World), (Instr.makeFunc fn first cap).run Tryz.prog w = .ok (.func fn first cap) w := fun _ _ _ _ => rfl
  go_enter_defers Tryz.func111, Tryz.ntmps111
  go_wp2
  refine GoCall_upon h1 ?_
  rintro e w1 ⟨v, rfl, hR1⟩
  have h3' : Calls Tryz.prog 137 #[v] w1 fun e w2 => ∃ s, e = .returned (.string s) ∧ w2.cell? ⟨w.heap.size, 0, none⟩ = some (.string .empty) ∧ w2.frozen? ⟨w.heap.size, 0, none⟩ = false ∧
      (w2.setCell ⟨w.heap.size, 0, none⟩ (.string s)).cell? ⟨w.heap.size + 1, 0, none⟩ = some (.int .i64 0) ∧ (w2.setCell ⟨w.heap.size, 0, none⟩ (.string s)).frozen? ⟨w.heap.size + 1, 0, none⟩ = false ∧
      ((w2.setCell ⟨w.heap.size, 0, none⟩ (.string s)).setCell ⟨w.heap.size + 1, 0, none⟩ (.int .i64 0)).heap[w.heap.size]? = some (.cells #[.string s] 9 (0, 0)) ∧
      ((w2.setCell ⟨w.heap.size, 0, none⟩ (.string s)).setCell ⟨w.heap.size + 1, 0, none⟩ (.int .i64 0)).heap[w.heap.size + 1]? = some (.cells #[.int .i64 0] 28 (0, 0)) ∧
      R (.returned (.tuple #[.string s, .int .i64 0])) (((w2.setCell ⟨w.heap.size, 0, none⟩ (.string s)).setCell ⟨w.heap.size + 1, 0, none⟩ (.int .i64 0)).alloc (.cells #[] 103)) := by
    refine (h3 v w1 hR1).mono ?_
    rintro e w2 ⟨s, rfl, hb1, hb2, hR⟩
    refine ⟨s, rfl, by simp [World.cell?, hb1], by simp [World.frozen?, hb1], by simp [World.cell?, World.setCell, Array.getElem?_modify, hb2], by simp [World.frozen?, World.setCell, Array.getElem?_modify, hb2],
      by simp [World.setCell, Array.getElem?_modify, hb1], by simp [World.setCell, Array.getElem?_modify, hb2], hR⟩
  go_wp2_with (go_at_call 137; refine h3'.mono ?_; rintro e w2 ⟨s, rfl, hc1, hf1, hc2, hf2, hb1, hb2, hR⟩)
  generalize ((w2.setCell ⟨w.heap.size, 0, none⟩ (.string s)).setCell ⟨w.heap.size + 1, 0, none⟩ (.int .i64 0)) = W at hb1 hb2 hR ⊢
  refine leaves_cons (f := 136) (args := #[.pointer (some ⟨w.heap.size, 0, none⟩), .pointer (some ⟨w.heap.size + 1, 0, none⟩)]) (by simp) (by simp [go_sem]) ?_
  refine (catch_idle _ _ W).mono ?_
  rintro e u' w'' ⟨rfl, rfl, rfl⟩
  have old : ∀ (c : Nat) (o : Obj), W.heap[c]? = some o → (W.alloc (.cells #[] 103)).heap[c]? = some o := by
    intro c o h
    have hlt : c < W.heap.size := (Array.getElem?_eq_some_iff.1 h).1
    show (W.heap.push _)[c]? = _
    rw [Array.getElem?_push_lt hlt, ← h, Array.getElem?_eq_getElem hlt]
  have e1 : (W.alloc (.cells #[] 103)).cell? ⟨w.heap.size, 0, none⟩ = some (.string s) := by simp [World.cell?, old _ _ hb1]
  have e2 : (W.alloc (.cells #[] 103)).cell? ⟨w.heap.size + 1, 0, none⟩ = some (.int .i64 0) := by simp [World.cell?, old _ _ hb2]
  simp [Leaves, settle, results, Tryz.results111, go_sem, e1, e2]
  exact hR
theorem GoCall_calls {P : Program} {f : FuncId} {vs : Array Value} {w : World} {R : Ending → World → Prop} (hc : Callable P f) (h : GoCall P f vs w R) : Calls P f vs w R := by
  rcases h with ⟨_, h⟩ | ⟨v, w', h1, _⟩
  · exact h
  · rw [hc vs w] at h1; cases h1
theorem can146 : Callable Tryz.prog 111 := canB_ok (by kernel_rfl)
theorem can178 : Callable Tryz.prog 137 := canB_ok (by kernel_rfl)
theorem heap_set2 (w : World) (n : Nat) (a b : Value) (o : Obj) (c : Nat) (hlt : c < w.heap.size) (h1 : c ≠ n) (h2 : c ≠ n + 1) :
    (((w.setCell ⟨n, 0, none⟩ a).setCell ⟨n + 1, 0, none⟩ b).alloc o).heap[c]? = w.heap[c]? := by
  have hsz : ((w.setCell ⟨n, 0, none⟩ a).setCell ⟨n + 1, 0, none⟩ b).heap.size = w.heap.size := by simp [World.setCell]
  show (Array.push _ _)[c]? = _
  rw [Array.getElem?_push_lt (by rw [hsz]; exact hlt), ← Array.getElem?_eq_getElem]
  rw [setCell_other h2, setCell_other h1]
theorem written_H {fid : FuncId} {caps : List V} {H : Hp} {r1 r2 : AR} {s : List UInt8} (h1 : r1.pre ∧ HCall Tryz.prog fid caps H r1) (h2 : r2.pre ∧ HCall Tryz.prog 137 [r1.v] r1.h r2) (hv : r2.v = .str s) :
    HCall Tryz.prog 111 [.fn fid caps] H ⟨True, .tup [.str s, .int .i64 0], r2.h, r1.R ++ r2.R.filter (· < H.next), r1.W ++ r2.W.filter (· < H.next)⟩ := by
  obtain ⟨p1, s1, c1⟩ := h1
  obtain ⟨p2, s2, c2⟩ := h2
  refine ⟨fun _ => (s1 p1).trans (s2 p2), fun _ g base D w vs hgl hI hvs hpw hD => ?_⟩
  obtain ⟨vf, hvf, rf⟩ := hpw 0 _ rfl
  obtain ⟨arr, rfl, hsz, hcp⟩ := rf.inv_fn
  have hvs' : vs = #[.func (.func fid) #[] arr] := by
    apply Array.ext_getElem?
    intro i
    match i with
    | 0 => exact hvf
    | i + 1 => rw [Array.getElem?_eq_none (by simp at hvs; omega), Array.getElem?_eq_none (by simp)]
  subst hvs'
  let w2 := (w.alloc (.cells #[.string .empty] 9)).alloc (.cells #[.int .i64 0] 28)
  have hs2 : w2.heap.size = w.heap.size + 2 := by show ((w.heap.push _).push _).size = _; simp
  have hb : Bel w.heap.size w w2 := Bel.of (((Go.RowKit.Below.refl _ _).alloc (Nat.le_refl _) _).alloc (by show w.heap.size ≤ (w.heap.push _).size; simp) _) (Nat.le_refl _)
  have hI2 := hI.more hb
  have m1 : ∀ b ∈ r1.R ++ r1.W, D b := fun b hb => by
    rcases List.mem_append.1 hb with h | h
    · exact hD b (List.mem_append_left _ (List.mem_append_left _ h))
    · exact hD b (List.mem_append_right _ (List.mem_append_left _ h))
  have k1 := c1 p1 g base D w2 arr hgl hI2 hsz hcp m1
  refine .inl ⟨can146 _ w, written_ok w fid arr (R1 := fun v w' => ∃ g', VRel g' r1.v v ∧ Post g g' base H r1.h D r1.W w2 w') (k1.mono ?_) ?_⟩
  · rintro e w' ⟨g', vc, rfl, hv1, hp1⟩
    exact ⟨vc, rfl, g', hv1, hp1⟩
  rintro v w' ⟨g', hv1, hp1⟩
  have m2 : ∀ b ∈ r2.R ++ r2.W, D b ∨ H.next ≤ b := fun b hb => by
    by_cases hlt : b < H.next
    · left
      rcases List.mem_append.1 hb with h | h
      · exact hD b (List.mem_append_left _ (List.mem_append_right _ (List.mem_filter.2 ⟨h, by simpa using hlt⟩)))
      · exact hD b (List.mem_append_right _ (List.mem_append_right _ (List.mem_filter.2 ⟨h, by simpa using hlt⟩)))
    · exact .inr (Nat.le_of_not_lt hlt)
  have k2 := c2 p2 g' base (fun b => D b ∨ H.next ≤ b) w' #[v] (hgl.mono hp1.le.2) hp1.inv rfl (fun i x hx => by
    match i, hx with
    | 0, hx => cases hx; exact ⟨v, rfl, hv1⟩) m2
  refine (GoCall_calls can178 k2).mono ?_
  rintro e w3 ⟨g2, vc, rfl, hv2, hp2⟩
  rw [hv] at hv2
  obtain ⟨sb, rfl, hsb⟩ := hv2.inv_str
  have tot := Post.trans hI2 hp1 hp2
  have fr : ∀ c, w.heap.size ≤ c → c < w2.heap.size → w3.heap[c]? = w2.heap[c]? := fun c h1 h2 => tot.frame c h2 fun b _ T e => by
    have := (hI.dom b T e).2.2
    omega
  have b1 : w3.heap[w.heap.size]? = some (.cells #[.string .empty] 9 (0, 0)) := by
    rw [fr _ (Nat.le_refl _) (by omega)]
    show ((w.heap.push _).push _)[w.heap.size]? = _
    rw [Array.getElem?_push_lt (by simp)]; simp
  have b2 : w3.heap[w.heap.size + 1]? = some (.cells #[.int .i64 0] 28 (0, 0)) := by
    rw [fr _ (by omega) (by omega)]
    show ((w.heap.push _).push _)[w.heap.size + 1]? = _
    rw [Array.getElem?_push, if_pos (by simp)]
  refine ⟨sb, rfl, b1, b2, g2, _, rfl, ?_, Post.around hI hb tot rfl ⟨rfl, Nat.le_refl _⟩ rfl ?_ ?_⟩
  · refine VRel.mk_tup rfl fun i y hy => ?_
    match i, hy with
    | 0, hy => cases hy; exact ⟨_, rfl, .str hsb⟩
    | 1, hy => cases hy; exact ⟨_, rfl, .int _ _⟩
  · show _ ≤ (Array.push _ _).size
    simp [World.setCell]
  · intro c hc ho
    exact heap_set2 w3 w.heap.size _ _ _ c hc (by omega) (by omega)
def spec1 (rec : FuncId → List V → Hp → Option AR) (f : FuncId) (args : List V) (H : Hp) : Option AR :=
  match Nat.beq f 111, args with
  | true, [.fn fid caps] =>
    match rec fid caps H with
    | some r1 =>
      match rec 137 [r1.v] r1.h with
      | some r2 =>
        match r2.v with
        | .str s => some ⟨True, .tup [.str s, .int .i64 0], r2.h, r1.R ++ r2.R.filter (· < H.next), r1.W ++ r2.W.filter (· < H.next)⟩
        | _ => none
      | none => none
    | none => none
  | true, _ => none
  | false, _ =>
    match Nat.beq f 164, args with
    | true, [x] => some ⟨True, x, H, [], []⟩
    | _, _ => none
theorem noEscape_H (x : V) (H : Hp) : HCall Tryz.prog 164 [x] H ⟨True, x, H, [], []⟩ := by
  refine ⟨fun _ => Stat.refl H, fun _ g base D w vs hgl hI hvs hpw hD => ?_⟩
  obtain ⟨v, hv, rv⟩ := hpw 0 _ rfl
  have hvs' : vs = #[v] := by
    apply Array.ext_getElem?
    intro i
    match i with
    | 0 => exact hv
    | i + 1 => rw [Array.getElem?_eq_none (by simp at hvs; omega), Array.getElem?_eq_none (by simp)]
  subst hvs'
  refine .inr ⟨v, w, ?_, g, v, rfl, rv, Post.refl hI rfl rfl (.refl _) rfl⟩
  rw [run_callFunc_extern (fn := Tryz.f164) Tryz.func164 (by kernel_rfl) rfl rfl (e := Go.Extern.AbiNoEscape.same) (by kernel_rfl), Lib.run_noEscape]
  rfl
theorem spec1_ok {E : ECfg} (h : E.spec = spec1) : GoodSpec Tryz.prog E := by
  intro rec hrec f args H r e
  rw [h] at e
  unfold spec1 at e
  split at e
  · rename_i fid caps hf
    have hf' := Nat.eq_of_beq_eq_true hf
    subst hf'
    split at e
    rotate_left; · cases e
    rename_i r1 h1
    split at e
    rotate_left; · cases e
    rename_i r2 h2
    split at e
    · rename_i s hs
      cases e
      exact ⟨trivial, written_H (hrec _ _ _ _ h1) (hrec _ _ _ _ h2) hs⟩
    · cases e
  · cases e
  · split at e
    · rename_i x hf
      have hf' := Nat.eq_of_beq_eq_true hf
      subst hf'
      cases e
      exact ⟨trivial, noEscape_H x H⟩
    · cases e
end Go.Proofs
