/- The contract of a call that reads or writes blocks of the caller's, or hands out new ones: walked once, with the blocks numbered from 0; carried to any heap. -/
import Derived.Test.YtiemejfbgmllfaaGreatDoorAbFun
namespace Go.Ab

/-- Blocks numbered from i. -/
def numB : Nat → List Blk → List (Nat × Blk)
  | _, [] => []
  | i, x :: r => (i, x) :: numB (i + 1) r
theorem numB_lookup : ∀ (i : Nat) (l : List Blk) (t : Nat), (numB i l).lookup t = if i ≤ t then l[t - i]? else none
  | i, [], t => by simp [numB]
  | i, a :: r, t => by
    rw [numB, List.lookup_cons]
    by_cases ht : t = i
    · subst ht; simp
    · have hb : (t == i) = false := by simp [ht]
      simp only [hb, numB_lookup (i + 1) r t]
      by_cases hi : i + 1 ≤ t
      · rw [if_pos hi, if_pos (by omega), show t - i = (t - (i + 1)) + 1 by omega]; simp
      · rw [if_neg hi, if_neg (by omega)]

/-- A call walked with blocks 0 .. k-1 of the caller's: it ends with value v and heap Hc. -/
structure NCall (P : Program) (f : FuncId) (args : List V) (F : List Blk) (W : List Nat) (v : V) (Hc : Hp) : Prop where
  call : Callable P f
  sub : ∀ b ∈ W, b < F.length
  le : F.length ≤ Hc.next
  run : ∀ (g : G) (base : Nat) (w : World) (vs : Array Value), GOK g → Inv g base ⟨numB 0 F, F.length⟩ (fun _ => True) w → vs.size = args.length → PW g args (fun i => vs[i]?) →
    Calls P f vs w fun e w' => ∃ g' vc, e = .returned vc ∧ VRel g' v vc ∧ Post g g' base ⟨numB 0 F, F.length⟩ Hc (fun _ => True) W w w'

theorem NCall.of {P : Program} {C : Cfg} {f : FuncId} {fn : Func} {c : Code} {args : List V} {F : List Blk} {v : V} {Hc : Hp} (hc : Callable P f) (hf : P.funcs[f]? = some fn) (hb : fn.body = some c) (hnt : fn.ntmps = C.nt)
    (hle : args.length ≤ C.nt) (hnx : C.nx = F.length) (hW : ∀ b ∈ C.Wm, b < F.length) (hn : F.length ≤ Hc.next)
    (h : AX C P c ⟨argEnv 0 args, ⟨numB 0 F, F.length⟩⟩ (fun o s => (o = .norm ∨ o = .ret) ∧ ∃ s', Sub C s s' ∧ s'.h = Hc ∧ resP P fn s' ∧ resV P fn s' = v)) : NCall P f args F C.Wm v Hc := by
  refine ⟨hc, hW, hn, fun g base w vs hgl hinv hvs hpw => calls_of_wp hf hb ?_⟩
  have he : Entry C base (fun _ => True) g ⟨numB 0 F, F.length⟩ w := ⟨hinv, hnx.symm, fun _ _ => trivial⟩
  have hpost : Post g g base ⟨numB 0 F, F.length⟩ ⟨numB 0 F, F.length⟩ (fun _ => True) C.Wm w w := (Post.refl hinv rfl rfl rfl rfl).weaken (fun _ h => by cases h)
  have hr : Rel C base (fun _ => True) g ⟨numB 0 F, F.length⟩ w g ⟨argEnv 0 args, ⟨numB 0 F, F.length⟩⟩ { tmps := vs ++ Array.replicate (fn.ntmps - vs.size) undef, defers := [] } w := by
    refine ⟨⟨hgl, by simp; omega, fun t v e => ?_⟩, rfl, hpost⟩
    obtain ⟨_, h1⟩ := argEnv_lookup 0 args t v e
    have hlt := (List.getElem?_eq_some_iff.1 h1).1
    obtain ⟨u, hu, ru⟩ := hpw _ _ h1
    have hu' : vs[t]? = some u := hu
    have : (vs ++ Array.replicate (fn.ntmps - vs.size) undef).getD t undef = u := by
      rw [Array.getD_eq_getD_getElem?, Array.getElem?_append_left (by simp at hlt; omega), hu']; rfl
    rw [this]
    exact ru
  refine wp_mono (h base _ g _ w g _ w he hr) fun e a w' ⟨o, s, g1, h1, h2, h3⟩ => ?_
  obtain ⟨ho, s', hsub, rfl, hrp, rfl⟩ := h1
  obtain ⟨g2, h4⟩ := h3.sub he hsub
  obtain ⟨vc, hrun, hv⟩ := results_ok (P := P) (w := w') h4.post.inv (fun b => .inl trivial) hrp h4.env
  have fin : a.defers = [] ∧ ∃ v, (results fn a.tmps).run P w' = .ok v w' ∧ ∃ g' vc, Ending.returned v = .returned vc ∧ VRel g' (resV P fn s') vc ∧ Post g g' base ⟨numB 0 F, F.length⟩ s'.h (fun _ => True) C.Wm w w' :=
    ⟨h4.defers, vc, hrun, g2, vc, rfl, hv, h4.post⟩
  rcases ho with rfl | rfl <;> cases e <;> first | exact h2.elim | exact fin

/-- The number that a block of the caller's heap has in the walk. -/
def toCall (is : List Nat) (n : Nat) (b : Nat) : Nat := if b < n then is.idxOf b else b - n + is.length

theorem HCall.of {P : Program} {f : FuncId} {args : List V} {F : List Blk} {W : List Nat} {v : V} {Hc : Hp} (hN : NCall P f args F W v Hc) (is : List Nat) (args' : List V) (v' : V) (H H' : Hp) (hlen : is.length = F.length) (hnd : is.Nodup)
    (ha : LRel (Rn (fun i => is.getD i 0) (· < F.length)) args args')
    (hF : ∀ (i : Nat) (x : Blk), F[i]? = some x → ∃ b y, is[i]? = some b ∧ H.get b = some y ∧ RnB (fun i => is.getD i 0) (· < F.length) x y)
    (hv : Rn (toCall is H.next) (fun b => b ∈ is ∨ (H.next ≤ b ∧ b < H'.next)) v' v)
    (hn : H'.next + F.length = H.next + Hc.next)
    (hH : ∀ b x', H'.get b = some x' → (b < H.next ∧ b ∉ is ∧ H.get b = some x') ∨
      ((b ∈ is ∨ (H.next ≤ b ∧ b < H'.next)) ∧ ∃ x, Hc.get (toCall is H.next b) = some x ∧ RnB (toCall is H.next) (fun b => b ∈ is ∨ (H.next ≤ b ∧ b < H'.next)) x' x))
    (hfr : ∀ b, b < H.next → b ∉ W.map (fun i => is.getD i 0) → H'.get b = H.get b) :
    HCall P f args' H ⟨True, v', H', is, W.map (fun i => is.getD i 0)⟩ := by
  have hle : H.next ≤ H'.next := by have := hN.le; omega
  have isH : ∀ b ∈ is, ∃ y, H.get b = some y := by
    intro b hb
    obtain ⟨i, hi, rfl⟩ := List.mem_iff_getElem.1 hb
    obtain ⟨b', y, e, hy, _⟩ := hF i F[i] (by rw [List.getElem?_eq_getElem])
    rw [List.getElem?_eq_getElem hi] at e
    cases e
    exact ⟨y, hy⟩
  have wIn : ∀ b ∈ W.map (fun i => is.getD i 0), b ∈ is := by
    intro b hb
    obtain ⟨i, hi, rfl⟩ := List.mem_map.1 hb
    have := hN.sub i hi
    rw [List.getD_eq_getElem?_getD, List.getElem?_eq_getElem (by omega)]
    exact List.getElem_mem _
  refine ⟨fun _ => ⟨hle, fun b hb hw => hfr b hb hw, fun b hb => isH b (wIn b hb), fun hk b x e => ?_⟩, fun _ g base D w vs hgl hI hvs hpw hD => ?_⟩
  · rcases hH b x e with ⟨h1, _⟩ | ⟨h1 | h1, _⟩
    · show b < H'.next; omega
    · obtain ⟨y, hy⟩ := isH b h1
      have := hk b y hy
      show b < H'.next; omega
    · exact h1.2
  have isD : ∀ b ∈ is, D b := fun b hb => hD b (List.mem_append_left _ hb)
  have isLt : ∀ b ∈ is, b < H.next := fun b hb => by obtain ⟨y, hy⟩ := isH b hb; exact hI.keys b y hy
  -- the call's own ghost
  let gc : G := ⟨fun i => if i < F.length then g.mu (is.getD i 0) else none, g.phi⟩
  have hgetD : ∀ i, i < F.length → is.getD i 0 ∈ is := fun i hi => by
    rw [List.getD_eq_getElem?_getD, List.getElem?_eq_getElem (by omega)]; exact List.getElem_mem _
  have hmc : ∀ i, i < F.length → gc.mu i = g.mu (is.getD i 0) := fun i hi => if_pos hi
  have hmc' : ∀ i T, gc.mu i = some T → i < F.length ∧ g.mu (is.getD i 0) = some T := fun i T e => by
    simp only [gc] at e
    split at e
    · rename_i h; exact ⟨h, e⟩
    · cases e
  have hpc : ∀ c a, g.phi c = some a → gc.phi c = some a := fun _ _ e => e
  have ndi : ∀ i j, i < F.length → j < F.length → is.getD i 0 = is.getD j 0 → i = j := by
    intro i j hi hj e
    rw [List.getD_eq_getElem?_getD, List.getD_eq_getElem?_getD, List.getElem?_eq_getElem (by omega), List.getElem?_eq_getElem (by omega)] at e
    exact (List.getElem_inj hnd).1 e
  have getF : ∀ i x, (⟨numB 0 F, F.length⟩ : Hp).get i = some x → F[i]? = some x := fun i x e => by
    have : (numB 0 F).lookup i = some x := e
    rw [numB_lookup] at this
    simpa using this
  have hIc : Inv gc base ⟨numB 0 F, F.length⟩ (fun _ => True) w := by
    refine ⟨hI.frz, fun i T e => ?_, fun i x e => ?_, fun i x _ e => ?_, fun i j x y T T' _ _ e e' m m' ec => ?_, hI.base⟩
    · obtain ⟨h1, h2⟩ := hmc' i T e
      exact ⟨h1, (hI.dom _ T h2).2⟩
    · exact (List.getElem?_eq_some_iff.1 (getF i x e)).1
    · have hx := getF i x e
      have hi := (List.getElem?_eq_some_iff.1 hx).1
      obtain ⟨b, y, hb, hy, hr⟩ := hF i x hx
      have hbi : is.getD i 0 = b := by rw [List.getD_eq_getElem?_getD, hb]; rfl
      obtain ⟨T, o, e1, e2, e3, e4⟩ := hI.cont b y (isD b (List.mem_of_getElem? hb)) hy
      exact ⟨T, o, by rw [hmc i hi, hbi]; exact e1, e2, e3, e4.rn hpc (fun j hj => hmc j hj) hr⟩
    · have hi := (List.getElem?_eq_some_iff.1 (getF i x e)).1
      have hj := (List.getElem?_eq_some_iff.1 (getF j y e')).1
      have h1 := (hmc' i T m).2
      have h2 := (hmc' j T' m').2
      obtain ⟨y1, hy1⟩ := isH _ (hgetD i hi)
      obtain ⟨y2, hy2⟩ := isH _ (hgetD j hj)
      exact ndi i j hi hj (hI.inj _ _ y1 y2 T T' (isD _ (hgetD i hi)) (isD _ (hgetD j hj)) hy1 hy2 h1 h2 ec)
  have hpwc : PW gc args (fun i => vs[i]?) := by
    intro i x hx
    have hlt := (List.getElem?_eq_some_iff.1 hx).1
    have hll := ha.1
    obtain ⟨u, hu, ru⟩ := hpw i _ (List.getElem?_eq_getElem (by omega))
    exact ⟨u, hu, ru.rn hpc (fun j hj => hmc j hj) (ha.2 i x _ hx (List.getElem?_eq_getElem (by omega)))⟩
  refine .inl ⟨hN.call vs w, (hN.run gc base w vs (hgl.mono (fun _ _ e => e)) hIc (by rw [hvs]; exact ha.1.symm) hpwc).mono fun e w' hq => ?_⟩
  obtain ⟨g1, vc, rfl, hv1, p⟩ := hq
  -- the caller's ghost behind it
  let g' : G := ⟨fun b => if b < H.next then g.mu b else if b < H'.next then g1.mu (b - H.next + is.length) else none, g1.phi⟩
  have hidx : ∀ b, b ∈ is → is.idxOf b < F.length ∧ is.getD (is.idxOf b) 0 = b := by
    intro b hb
    have h1 : is.idxOf b < is.length := List.idxOf_lt_length_of_mem hb
    refine ⟨by omega, ?_⟩
    rw [List.getD_eq_getElem?_getD, List.getElem?_eq_getElem h1]
    simp
  have hm' : ∀ b, (b ∈ is ∨ (H.next ≤ b ∧ b < H'.next)) → (b ∈ is → ∃ y, H.get b = some y) → g'.mu b = g1.mu (toCall is H.next b) := by
    intro b hb _
    rcases hb with hb | hb
    · have hlt := isLt b hb
      obtain ⟨h1, h2⟩ := hidx b hb
      show (if b < H.next then g.mu b else _) = _
      rw [if_pos hlt, toCall, if_pos hlt]
      obtain ⟨y, hy⟩ := isH b hb
      obtain ⟨T, o, e1, _⟩ := hI.cont b y (isD b hb) hy
      have : gc.mu (is.idxOf b) = some T := by rw [hmc _ h1, h2]; exact e1
      rw [e1, p.le.1 _ _ this]
    · show (if b < H.next then g.mu b else if b < H'.next then g1.mu (b - H.next + is.length) else none) = _
      rw [if_neg (by omega), if_pos hb.2, toCall, if_neg (by omega)]
  have hm : ∀ b, (b ∈ is ∨ (H.next ≤ b ∧ b < H'.next)) → g'.mu b = g1.mu (toCall is H.next b) := fun b hb => hm' b hb (fun h => isH b h)
  have hp1 : ∀ c a, g1.phi c = some a → g'.phi c = some a := fun _ _ e => e
  have elder : ∀ b, b < H.next → g'.mu b = g.mu b := fun b hb => if_pos hb
  have phiN : ∀ c, c < w.heap.size → g.phi c = none → g1.phi c = none := fun c hc hn => by
    cases e : g1.phi c with
    | none => rfl
    | some a =>
      rcases p.newphi c a e with e' | h
      · have e'' : g.phi c = some a := e'
        rw [hn] at e''; cases e''
      · omega
  have hle' : g.le g' := ⟨fun b T e => by rw [elder b (hI.dom b T e).1]; exact e, fun c a e => p.le.2 c a e⟩
  have wT : ∀ i ∈ W, ∀ T, gc.mu i = some T → g.mu (is.getD i 0) = some T ∧ is.getD i 0 ∈ is := fun i hi T e => ⟨(hmc' i T e).2, hgetD i (hN.sub i hi)⟩
  -- a block of the caller's that is not handed over stands
  have stand : ∀ b x T, D b → b ∉ is → H.get b = some x → g.mu b = some T → w'.heap[T.c]? = w.heap[T.c]? := by
    intro b x T hDb hb hx hT
    refine p.frame T.c (hI.dom b T hT).2.2 fun i hi T' e ec => ?_
    obtain ⟨e', hin⟩ := wT i hi T' e
    obtain ⟨y, hy⟩ := isH _ hin
    have := hI.inj _ b y x T' T (isD _ hin) hDb hy hx e' hT ec
    exact hb (this ▸ hin)
  have apart : ∀ b x T i T', D b → b ∉ is → H.get b = some x → g.mu b = some T → g1.mu i = some T' → T.c ≠ T'.c := by
    intro b x T i T' hDb hb hx hT hi' ec
    have hlt := (hI.dom b T hT).2.2
    rcases p.newmu i T' hi' with e0 | ⟨_, h1 | ⟨b0, hb0, T0, e0, ec0⟩⟩
    · obtain ⟨h1, h2⟩ := hmc' i T' e0
      have hin := hgetD i h1
      obtain ⟨y, hy⟩ := isH _ hin
      exact hb ((hI.inj b _ x y T T' hDb (isD _ hin) hx hy hT h2 ec) ▸ hin)
    · omega
    · obtain ⟨e', hin⟩ := wT b0 hb0 T0 e0
      obtain ⟨y, hy⟩ := isH _ hin
      exact hb ((hI.inj b _ x y T T0 hDb (isD _ hin) hx hy hT e' (ec.trans ec0.symm)) ▸ hin)
  refine ⟨g', vc, rfl, hv1.rn hp1 hm hv, hle', ?_, ?_, p.newphi, ?_, p.size, p.os, p.tape, p.output, hfr, hle⟩
  · refine ⟨p.inv.frz, fun b T e => ?_, fun b x e => ?_, fun b x hd e => ?_, fun b b' x x' T T' hd hd' e e' m m' ec => ?_, Nat.le_trans hI.base p.size⟩
    · simp only [g'] at e
      split at e
      · have := hI.dom b T e
        exact ⟨by show b < H'.next; omega, this.2.1, by have := p.size; omega⟩
      · split at e
        · rename_i h; exact ⟨h, (p.inv.dom _ T e).2⟩
        · cases e
    · rcases hH b x e with ⟨h1, _⟩ | ⟨h1 | h1, _⟩
      · show b < H'.next; omega
      · have := isLt b h1; show b < H'.next; omega
      · exact h1.2
    · rcases hH b x e with ⟨h1, h2, h3⟩ | ⟨h1, y, hy, hr⟩
      · have hDb : D b := hd.resolve_right (by omega)
        obtain ⟨T, o, e1, e2, e3, e4⟩ := hI.cont b x hDb h3
        exact ⟨T, o, by rw [elder b h1]; exact e1, phiN _ (hI.dom b T e1).2.2 e2, by rw [stand b x T hDb h2 h3 e1]; exact e3, e4.mono hle'⟩
      · obtain ⟨T, o, e1, e2, e3, e4⟩ := p.inv.cont _ y (.inl trivial) hy
        exact ⟨T, o, by rw [hm b h1]; exact e1, e2, e3, e4.rn hp1 hm hr⟩
    · rcases hH b x e with ⟨h1, h2, h3⟩ | ⟨h1, y, hy, hr⟩ <;> rcases hH b' x' e' with ⟨k1, k2, k3⟩ | ⟨k1, z, hz, kr⟩
      · rw [elder b h1] at m
        rw [elder b' k1] at m'
        exact hI.inj b b' x x' T T' (hd.resolve_right (by omega)) (hd'.resolve_right (by omega)) h3 k3 m m' ec
      · rw [elder b h1] at m
        rw [hm b' k1] at m'
        exact absurd ec (apart b x T _ T' (hd.resolve_right (by omega)) h2 h3 m m')
      · rw [hm b h1] at m
        rw [elder b' k1] at m'
        exact absurd ec.symm (apart b' x' T' _ T (hd'.resolve_right (by omega)) k2 k3 m' m)
      · rw [hm b h1] at m
        rw [hm b' k1] at m'
        have hi := p.inv.inj _ _ y z T T' (.inl trivial) (.inl trivial) hy hz m m' ec
        unfold toCall at hi
        split at hi <;> split at hi
        · rename_i q1 q2
          have hb := h1.resolve_right (by omega)
          have hb' := k1.resolve_right (by omega)
          rw [← (hidx b hb).2, ← (hidx b' hb').2, hi]
        · rename_i q1 q2
          have := (hidx b (h1.resolve_right (by omega))).1
          omega
        · rename_i q1 q2
          have := (hidx b' (k1.resolve_right (by omega))).1
          omega
        · omega
  · intro b T e
    rcases Nat.lt_or_ge b H.next with hlt | hge
    · rw [elder b hlt] at e; exact .inl e
    · refine .inr ⟨hge, ?_⟩
      simp only [g'] at e
      rw [if_neg (by omega)] at e
      split at e
      · rcases p.newmu _ T e with e0 | ⟨_, h1 | ⟨b0, hb0, T0, e0, ec0⟩⟩
        · have := (hmc' _ T e0).1
          omega
        · exact .inl h1
        · exact .inr ⟨is.getD b0 0, List.mem_map.2 ⟨b0, hb0, rfl⟩, T0, (wT b0 hb0 T0 e0).1, ec0⟩
      · cases e
  · intro c hc hw
    refine p.frame c hc fun i hi T e => hw _ (List.mem_map.2 ⟨i, hi, rfl⟩) T (wT i hi T e).1

end Go.Ab
