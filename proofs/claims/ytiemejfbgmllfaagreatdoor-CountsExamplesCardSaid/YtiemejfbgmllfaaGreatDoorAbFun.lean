/- The contract of a function from its body's walk: memory of its own that it hands out stands still. -/
import Derived.Test.YtiemejfbgmllfaaGreatDoorAbExec
namespace Go.Ab
open Go.RowKit (Below)

/-- A value that is handed out (the right one): our own blocks' cells written out. -/
inductive Frz (H : Hp) : V → V → Prop
  | pure {v} (h : Pure v) : Frz H v v
  | any {v} : Frz H v .any
  | nil0 : Frz H .nilS (.fs [] 0)
  | sl {b off len sz kc cs cs'} (hg : H.get b = some (.cells cs)) (hl : off + len * sz ≤ cs.length) (hll : cs'.length = len * sz)
      (h : ∀ (i : Nat) (x y : V), ((cs.drop off).take (len * sz))[i]? = some x → cs'[i]? = some y → Frz H x y) : Frz H (.sl b off len sz kc) (.fs cs' len)
  | ptr {b off cs cs'} (hg : H.get b = some (.cells cs)) (hl : cs'.length = (cs.drop off).length)
      (h : ∀ (i : Nat) (x y : V), (cs.drop off)[i]? = some x → cs'[i]? = some y → Frz H x y) : Frz H (.ptr b off) (.fp cs')
  | fn {f cs cs'} (hl : cs'.length = cs.length) (h : ∀ (i : Nat) (x y : V), cs[i]? = some x → cs'[i]? = some y → Frz H x y) : Frz H (.fn f cs) (.fn f cs')
  | ifc {t v v'} (h : Frz H v v') : Frz H (.ifc t v) (.ifc t v')
  | agg {cs cs'} (hl : cs'.length = cs.length) (h : ∀ (i : Nat) (x y : V), cs[i]? = some x → cs'[i]? = some y → Frz H x y) : Frz H (.agg cs) (.agg cs')
  | tup {cs cs'} (hl : cs'.length = cs.length) (h : ∀ (i : Nat) (x y : V), cs[i]? = some x → cs'[i]? = some y → Frz H x y) : Frz H (.tup cs) (.tup cs')

theorem Frz.rel {g g' : G} {base : Nat} {H : Hp} {D : Nat → Prop} {w : World} (hi : Inv g base H D w) (hD : ∀ b, D b) (hp : ∀ c a, g.phi c = some a → g'.phi c = some a)
    (ha : ∀ c arr t, base ≤ c → w.heap[c]? = some (.cells arr t (0, 0)) → g'.phi c = some arr) {v v' : V} (h : Frz H v v') : ∀ {vc : Value}, VRel g v vc → VRel g' v' vc := by
  have list : ∀ {l l' : List V} {get : Nat → Option Value}, l'.length = l.length → (∀ (i : Nat) (x y : V), l[i]? = some x → l'[i]? = some y → ∀ {vc : Value}, VRel g x vc → VRel g' y vc) → PW g l get → PW g' l' get := by
    intro l l' get hl ih p i y hy
    have hlt := (List.getElem?_eq_some_iff.1 hy).1
    obtain ⟨u, hu, ru⟩ := p i _ (List.getElem?_eq_getElem (by omega))
    exact ⟨u, hu, ih i _ y (List.getElem?_eq_getElem (by omega)) hy ru⟩
  induction h with
  | pure h => intro vc r; exact r.pure hp h
  | any => intro vc r; exact .any _
  | nil0 => intro vc r; cases r; exact .fs0 fun _ => rfl
  | @sl b off len sz kc cs cs' hg hl hll _ ih =>
    intro vc r
    obtain ⟨T, o, cap, hm, hlc, ho, hk, rfl⟩ := r.inv_sl
    obtain ⟨T1, ob, m1, p1, h1, r1⟩ := hi.cont b _ (hD b) hg
    obtain rfl : T1 = T := by rw [hm] at m1; exact (Option.some.inj m1).symm
    cases r1 with
    | cells hs hbd hpw =>
      rename_i arr t
      have hphi := ha _ _ _ (hi.dom b T1 hm).2.1 h1
      by_cases h0 : len * sz = 0
      · have : cs' = [] := List.eq_nil_of_length_eq_zero (by omega)
        subst this
        by_cases hl0 : len = 0
        · subst hl0; exact .fs0 (by simp)
        · exact VRel.mk_fs hphi hlc PW.nil
      · have hc : cap ≠ 0 := by rintro rfl; have : len = 0 := by omega
                                subst this; simp at h0
        obtain ⟨rfl, _⟩ := ho hc
        refine VRel.mk_fs hphi hlc (list (by simp; omega) ih (((hpw.drop off).take (len * sz)).congr fun i _ => ?_))
        show _ = arr[T1.sh + (off + i)]?
        rw [Nat.add_assoc]
  | @ptr b off cs cs' hg hl _ ih =>
    intro vc r
    obtain ⟨T, hm, rfl⟩ := r.inv_ptr
    obtain ⟨T1, ob, m1, p1, h1, r1⟩ := hi.cont b _ (hD b) hg
    obtain rfl : T1 = T := by rw [hm] at m1; exact (Option.some.inj m1).symm
    cases r1 with
    | cells hs hbd hpw =>
      rename_i arr t
      have hphi := ha _ _ _ (hi.dom b T1 hm).2.1 h1
      refine VRel.mk_fp hphi (list hl ih ((hpw.drop off).congr fun i _ => ?_))
      show _ = arr[T1.sh + (off + i)]?
      rw [Nat.add_assoc]
  | fn hl _ ih =>
    intro vc r
    obtain ⟨arr, rfl, hs, p⟩ := r.inv_fn
    exact VRel.mk_fn (by omega) (list hl ih p)
  | ifc _ ih =>
    intro vc r
    cases r with
    | ifc hv => exact .ifc (ih hv)
  | agg hl _ ih =>
    intro vc r
    obtain ⟨arr, rfl, hs, p⟩ := r.inv_agg
    exact VRel.mk_agg (by omega) (list hl ih p)
  | tup hl _ ih =>
    intro vc r
    obtain ⟨arr, rfl, hs, p⟩ := r.inv_tup
    exact VRel.mk_tup (by omega) (list hl ih p)

/-- The arguments as temporaries. -/
def argEnv : Nat → List V → Env
  | _, [] => []
  | i, a :: r => (i, a) :: argEnv (i + 1) r
theorem argEnv_lookup : ∀ (i : Nat) (l : List V) (t : Nat) (v : V), (argEnv i l).lookup t = some v → i ≤ t ∧ l[t - i]? = some v
  | _, [], _, _, h => by cases h
  | i, a :: r, t, v, h => by
    rw [argEnv, List.lookup_cons] at h
    by_cases ht : t = i
    · subst ht
      simp at h
      simp [h]
    · have hb : (t == i) = false := by simp [ht]
      simp only [hb] at h
      obtain ⟨h1, h2⟩ := argEnv_lookup (i + 1) r t v h
      refine ⟨by omega, ?_⟩
      rw [show t - i = (t - (i + 1)) + 1 by omega]
      simpa using h2

def tupV : List V → V
  | [v] => v
  | vs => .tup vs
/-- The results: what is asked to read them, and their values. -/
def resL (P : Program) (s : St) : List ResultVar → Prop × List V
  | [] => (True, [])
  | .tmp t :: r => ((resL P s r).1, (s.env.lookup t).getD .any :: (resL P s r).2)
  | .cell c t :: r => ((aLoad P t ((s.env.lookup c).getD .any) s.h).pre ∧ (resL P s r).1, (aLoad P t ((s.env.lookup c).getD .any) s.h).v :: (resL P s r).2)
def resP (P : Program) (fn : Func) (s : St) : Prop := (resL P s fn.results.toList).1
/-- The results' values. -/
def resV (P : Program) (fn : Func) (s : St) : V := tupV (resL P s fn.results.toList).2

theorem loadVar_ok {P : Program} {g : G} {base : Nat} {H : Hp} {D : Nat → Prop} {w : World} (h : Inv g base H D w) (hD : ∀ b, D b) {t : TypeId} {a : V} {ac : Value} (ha : VRel g a ac) (hp : (aLoad P t a H).pre) :
    ∃ v, (do loadVar t (← asAddr ac) : Sem Value).run P w = .ok v w ∧ VRel g (aLoad P t a H).v v := by
  unfold aLoad at *
  split at hp
  · rename_i ag n cs hag hn
    obtain ⟨c, o, arr, rfl, hphi, hpw⟩ := ha.inv_fp
    obtain ⟨ty, fr, hh⟩ := h.frz _ _ hphi
    obtain ⟨v, hv, hr⟩ := run_loadVar (P := P) hag hn hh hpw hp
    exact ⟨v, by simpa [asAddr] using hv, hr⟩
  · rename_i ag n b off hag hn
    split at hp
    · rename_i cs hg
      obtain ⟨T, hm, rfl⟩ := ha.inv_ptr
      obtain ⟨T1, o, m1, p1, h1, r1⟩ := h.cont b _ (hD b) hg
      obtain rfl : T1 = T := by rw [hm] at m1; exact (Option.some.inj m1).symm
      cases r1 with
      | cells hs hb hpw =>
        rename_i arr ty
        have hpw' : PW g (cs.drop off) (fun i => arr[T1.sh + off + i]?) := (hpw.drop off).congr fun i _ => by show _ = arr[T1.sh + (off + i)]?; rw [← Nat.add_assoc]
        obtain ⟨v, hv, hr⟩ := run_loadVar (P := P) hag hn h1 hpw' hp
        exact ⟨v, by simpa [asAddr] using hv, hr⟩
    · rename_i ty cs hg
      obtain ⟨T, hm, rfl⟩ := ha.inv_ptr
      obtain ⟨T1, o, m1, p1, h1, r1⟩ := h.cont b _ (hD b) hg
      obtain rfl : T1 = T := by rw [hm] at m1; exact (Option.some.inj m1).symm
      obtain ⟨arr, rfl, hs, hb, hsh, hpw⟩ := r1.ty_row
      have hpw' : PW g (cs.drop off) (fun i => arr[T1.sh + off + i]?) := (hpw.drop off).congr fun i _ => by show _ = arr[T1.sh + (off + i)]?; rw [← Nat.add_assoc]
      obtain ⟨v, hv, hr⟩ := run_loadVar (P := P) hag hn h1 hpw' hp
      exact ⟨v, by simpa [asAddr] using hv, hr⟩
    · exact hp.elim
  · exact hp.elim

theorem results_ok {P : Program} {fn : Func} {g : G} {n base : Nat} {D : Nat → Prop} {s : St} {a : Act} {w : World} (hI : Inv g base s.h D w) (hD : ∀ b, D b) (hp : resP P fn s) (r : EnvRel g n s.env a) :
    ∃ vc, (results fn a.tmps).run P w = .ok vc w ∧ VRel g (resV P fn s) vc := by
  have hvs : ∀ t, VRel g ((s.env.lookup t).getD .any) (a.tmps.getD t undef) := fun t => by
    cases e : s.env.lookup t with
    | none => exact .any _
    | some v => exact r.rel t v e
  have hrun : ∀ rs : List ResultVar, (resL P s rs).1 → ∃ vs : List Value, vs.length = (resL P s rs).2.length ∧ PW g (resL P s rs).2 (fun i => vs[i]?) ∧
      (List.mapM (fun (x : ResultVar) => match x with | .tmp t => (pure (a.tmps.getD t undef) : Sem Value) | .cell c t => do loadVar t (← asAddr (a.tmps.getD c undef))) rs).run P w = .ok vs w := by
    intro rs
    induction rs with
    | nil => intro _; exact ⟨[], rfl, PW.nil, rfl⟩
    | cons x rs ih =>
      have put : ∀ (v : V) (vc : Value) (l : List V) (vs : List Value), VRel g v vc → PW g l (fun i => vs[i]?) → PW g (v :: l) (fun i => (vc :: vs)[i]?) := by
        intro v vc l vs hv hl i y hy
        cases i with
        | zero => cases hy; exact ⟨vc, rfl, hv⟩
        | succ i => exact hl i y hy
      cases x with
      | tmp t =>
        intro hp
        obtain ⟨vs, h1, h2, h3⟩ := ih hp
        refine ⟨a.tmps.getD t undef :: vs, by simp [resL, h1], put _ _ _ _ (hvs t) h2, ?_⟩
        rw [List.mapM_cons]
        simp only [pure_bind, Sem.run_bind, h3, Result.andThen_ok, Sem.run_pure]
      | cell c t =>
        intro hp
        obtain ⟨vs, h1, h2, h3⟩ := ih hp.2
        obtain ⟨v, hv, hr⟩ := loadVar_ok hI hD (hvs c) hp.1
        refine ⟨v :: vs, by simp [resL, h1], put _ _ _ _ hr h2, ?_⟩
        rw [List.mapM_cons]
        have hv' := hv
        simp only [Sem.run_bind] at hv' ⊢
        rw [hv']
        simp only [h3, Result.andThen_ok, Sem.run_pure]
  obtain ⟨vs, h1, h2, h3⟩ := hrun fn.results.toList hp
  have hres : (results fn a.tmps).run P w = .ok (if h : vs.toArray.size = 1 then vs.toArray[0] else .tuple vs.toArray) w := by
    simp only [results]
    have he : fn.results = fn.results.toList.toArray := by simp
    rw [he]
    simp only [List.mapM_toArray, Sem.run_bind, map_eq_pure_bind, Sem.run_pure]
    exact congrArg (fun r => (Result.andThen r fun a w' => Result.ok a.toArray w').andThen fun a w' => Result.ok (if h : a.size = 1 then a[0] else Value.tuple a) w') h3
  rw [hres]
  refine ⟨_, rfl, ?_⟩
  unfold resV
  generalize resL P s fn.results.toList = rl at h1 h2
  obtain ⟨q, l⟩ := rl
  dsimp only at h1 h2 ⊢
  match l, vs, h1, h2 with
  | [], [], _, _ => exact VRel.mk_tup rfl PW.nil
  | [v], [u], _, h2 => obtain ⟨u', hu, hr⟩ := h2 0 v rfl; cases hu; exact hr
  | v :: v' :: l, u :: u' :: us, h1, h2 =>
    rw [dif_neg (by simp)]
    exact VRel.mk_tup (by simpa using h1) (h2.congr fun i _ => by simp)
  | [], _ :: _, h1, _ => simp at h1
  | _ :: _, [], h1, _ => simp at h1
  | [_], _ :: _ :: _, h1, _ => simp at h1
  | _ :: _ :: _, [_], h1, _ => simp at h1

/-- How the body's end stands to the contract. -/
def EndOK (P : Program) (fn : Func) (r : PR) : Out → St → Prop
  | .norm, s | .ret, s => resP P fn s ∧ ∃ v, r = .ret v ∧ Frz s.h (resV P fn s) v
  | .panic v0, s => ∃ v, r = .panic v ∧ Frz s.h v0 v
  | _, _ => False

theorem PCall.of {P : Program} {C : Cfg} {f : FuncId} {fn : Func} {c : Code} {args : List V} {r : PR} (hc : Callable P f) (hf : P.funcs[f]? = some fn) (hb : fn.body = some c) (hnt : fn.ntmps = C.nt) (hle : args.length ≤ C.nt)
    (hpure : ∀ x ∈ args, Pure x) (hnx : C.nx = 0) (hW : C.Wm = []) (h : AX C P c ⟨argEnv 0 args, ⟨[], 0⟩⟩ (EndOK P fn r)) : PCall P f args r := by
  refine fun g w vs hgl hfrz hvs hpw => .inl ⟨hc vs w, calls_of_wp hf hb ?_⟩
  let g0 : G := ⟨fun _ => none, g.phi⟩
  let H0 : Hp := ⟨[], 0⟩
  have hinv : Inv g0 w.heap.size H0 (fun _ => True) w :=
    ⟨hfrz, fun b T e => (by cases e), fun b x e => (by cases e), fun b x _ e => (by cases e), fun b b' x x' T T' _ _ e => (by cases e), Nat.le_refl _⟩
  have he : Entry C w.heap.size (fun _ => True) g0 H0 w := ⟨hinv, hnx.symm, fun _ _ => trivial⟩
  have hpost : Post g0 g0 w.heap.size H0 H0 (fun _ => True) C.Wm w w := (Post.refl hinv rfl rfl rfl rfl).weaken (fun _ h => by cases h)
  have hr : Rel C w.heap.size (fun _ => True) g0 H0 w g0 ⟨argEnv 0 args, ⟨[], 0⟩⟩ { tmps := vs ++ Array.replicate (fn.ntmps - vs.size) undef, defers := [] } w := by
    refine ⟨⟨hgl.mono (fun c a e => e), by simp; omega, fun t v e => ?_⟩, rfl, hpost⟩
    obtain ⟨_, h1⟩ := argEnv_lookup 0 args t v e
    have hlt := (List.getElem?_eq_some_iff.1 h1).1
    obtain ⟨u, hu, ru⟩ := hpw _ _ h1
    have hu' : vs[t]? = some u := hu
    have : (vs ++ Array.replicate (fn.ntmps - vs.size) undef).getD t undef = u := by
      rw [Array.getD_eq_getD_getElem?, Array.getElem?_append_left (by simp at hlt; omega), hu']; rfl
    rw [this]
    exact VRel.pure (g := g) (g' := g0) (fun c a e => e) ru (hpure v (List.mem_of_getElem? h1))
  refine wp_mono (h w.heap.size _ g0 H0 w g0 _ w he hr) fun e a w' ⟨o, s, g1, h1, h2, h3⟩ => ?_
  have hbel : Below w.heap.size w w' := ⟨h3.post.os, h3.post.tape, h3.post.output, h3.post.size, fun k hk => h3.post.frame k hk fun b hb => by rw [hW] at hb; cases hb⟩
  let phi' : Nat → Option (Array Value) := fun c => if w.heap.size ≤ c then (match w'.heap[c]? with | some (.cells arr _ _) => some arr | _ => none) else none
  have hphi : ∀ c a, phi' c = some a → w.heap.size ≤ c ∧ ∃ t fr, w'.heap[c]? = some (.cells a t fr) := by
    intro c a e
    simp only [phi'] at e
    split at e
    · rename_i hc'
      refine ⟨hc', ?_⟩
      split at e
      · rename_i arr t fr h'; cases e; exact ⟨t, fr, h'⟩
      · cases e
    · cases e
  have up : ∀ {v v' : V}, Frz s.h v v' → ∀ {vc : Value}, VRel g1 v vc → VRel (G.more ⟨fun _ => none, g.phi⟩ phi') v' vc := by
    intro v v' hz vc hv
    refine hz.rel h3.post.inv (fun b => .inl trivial) (fun c a e => ?_) (fun c arr t hge hcell => ?_) hv
    · rcases h3.post.newphi c a e with e0 | hge
      · show (g.phi c).or (phi' c) = some a
        have e0' : g.phi c = some a := e0
        rw [e0']; rfl
      · obtain ⟨t, fr, hh⟩ := h3.post.inv.frz c a e
        show (g.phi c).or (phi' c) = some a
        have hn : g.phi c = none := by
          cases e9 : g.phi c with
          | none => rfl
          | some a9 =>
            obtain ⟨t9, fr9, h9⟩ := hfrz c a9 e9
            have := (Array.getElem?_eq_some_iff.1 h9).1
            omega
        rw [hn]
        simp only [phi', if_pos hge, hh]; rfl
    · show (g.phi c).or (phi' c) = some arr
      have hn : g.phi c = none := by
        cases e9 : g.phi c with
        | none => rfl
        | some a9 =>
          obtain ⟨t9, fr9, h9⟩ := hfrz c a9 e9
          have := (Array.getElem?_eq_some_iff.1 h9).1
          omega
      rw [hn]
      simp only [phi', if_pos hge, hcell]; rfl
  have fin : ∀ v, r = .ret v → resP P fn s → Frz s.h (resV P fn s) v → a.defers = [] ∧ ∃ vc, (results fn a.tmps).run P w' = .ok vc w' ∧ ∃ phi' vc', (∀ c a, phi' c = some a → w.heap.size ≤ c ∧ ∃ t fr, w'.heap[c]? = some (.cells a t fr)) ∧
      Below w.heap.size w w' ∧ Ending.returned vc = r.ending vc' ∧ VRel (G.more ⟨fun _ => none, g.phi⟩ phi') r.v vc' := by
    rintro v rfl hrp hz
    obtain ⟨vc, hrun, hv⟩ := results_ok (P := P) (w := w') h3.post.inv (fun b => .inl trivial) hrp h3.env
    exact ⟨h3.defers, vc, hrun, phi', vc, hphi, hbel, rfl, up hz hv⟩
  cases o <;> cases e <;> first | exact h2.elim | skip
  · obtain ⟨hrp, v, hr, hz⟩ := h1
    exact fin v hr hrp hz
  · exact h1.elim
  · obtain ⟨hrp, v, hr, hz⟩ := h1
    exact fin v hr hrp hz
  · obtain ⟨v, rfl, hz⟩ := h1
    obtain ⟨vc, hv, rfl⟩ := h2
    exact ⟨h3.defers, phi', vc, hphi, hbel, rfl, up hz hv⟩

end Go.Ab
