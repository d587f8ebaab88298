/- A state may be told with less, and with other numbers for its blocks; memory of one's own that is handed out stands still. -/
import Derived.Test.YtiemejfbgmllfaaGreatDoorAbDraw4
namespace Go.Ab

/-- No block of ours stands in it. -/
inductive Pure : V → Prop
  | bool (b) : Pure (.bool b)
  | int (k n) : Pure (.int k n)
  | str (s) : Pure (.str s)
  | nilS : Pure .nilS
  | fs {cs n} (h : ∀ x ∈ cs, Pure x) : Pure (.fs cs n)
  | nilP : Pure .nilP
  | fp {cs} (h : ∀ x ∈ cs, Pure x) : Pure (.fp cs)
  | nilM : Pure .nilM
  | fn {f cs} (h : ∀ x ∈ cs, Pure x) : Pure (.fn f cs)
  | nilF : Pure .nilF
  | ifc {t v} (h : Pure v) : Pure (.ifc t v)
  | nilI : Pure .nilI
  | agg {cs} (h : ∀ x ∈ cs, Pure x) : Pure (.agg cs)
  | tup {cs} (h : ∀ x ∈ cs, Pure x) : Pure (.tup cs)
  | any : Pure .any
  | opt {b v} (h : Pure v) : Pure (.opt b v)

theorem pure_bool (b) : Pure (.bool b) ↔ True := ⟨fun _ => trivial, fun _ => .bool b⟩
theorem pure_int (k n) : Pure (.int k n) ↔ True := ⟨fun _ => trivial, fun _ => .int k n⟩
theorem pure_str (s) : Pure (.str s) ↔ True := ⟨fun _ => trivial, fun _ => .str s⟩
theorem pure_nilS : Pure .nilS ↔ True := ⟨fun _ => trivial, fun _ => .nilS⟩
theorem pure_nilP : Pure .nilP ↔ True := ⟨fun _ => trivial, fun _ => .nilP⟩
theorem pure_nilM : Pure .nilM ↔ True := ⟨fun _ => trivial, fun _ => .nilM⟩
theorem pure_nilF : Pure .nilF ↔ True := ⟨fun _ => trivial, fun _ => .nilF⟩
theorem pure_nilI : Pure .nilI ↔ True := ⟨fun _ => trivial, fun _ => .nilI⟩
theorem pure_any : Pure .any ↔ True := ⟨fun _ => trivial, fun _ => .any⟩
theorem pure_fs (cs n) : Pure (.fs cs n) ↔ ∀ x ∈ cs, Pure x := ⟨fun h => by cases h; assumption, .fs⟩
theorem pure_fp (cs) : Pure (.fp cs) ↔ ∀ x ∈ cs, Pure x := ⟨fun h => by cases h; assumption, .fp⟩
theorem pure_fn (f cs) : Pure (.fn f cs) ↔ ∀ x ∈ cs, Pure x := ⟨fun h => by cases h; assumption, .fn⟩
theorem pure_ifc (t v) : Pure (.ifc t v) ↔ Pure v := ⟨fun h => by cases h; assumption, .ifc⟩
theorem pure_agg (cs) : Pure (.agg cs) ↔ ∀ x ∈ cs, Pure x := ⟨fun h => by cases h; assumption, .agg⟩
theorem pure_tup (cs) : Pure (.tup cs) ↔ ∀ x ∈ cs, Pure x := ⟨fun h => by cases h; assumption, .tup⟩

/-- What is pure stands for the same wherever our blocks lie. -/
theorem VRel.pure {g g' : G} {v : V} {vc : Value} (hp : ∀ c a, g.phi c = some a → g'.phi c = some a) (r : VRel g v vc) (h : Pure v) : VRel g' v vc := by
  have mem : ∀ {l : List V} {i : Nat} {x : V}, l[i]? = some x → x ∈ l := fun e => List.mem_of_getElem? e
  induction r with
  | bool b => exact .bool b
  | int k n => exact .int k n
  | str hs => exact .str hs
  | nilS => exact .nilS
  | sl hm hl ho hk => cases h
  | fs vs hf hl h1 _ ih => exact .fs vs (hp _ _ hf) hl h1 fun i x e => ih i x e ((pure_fs _ _).1 h x (mem e))
  | fs0 ha => exact .fs0 ha
  | nilP => exact .nilP
  | ptr hm => cases h
  | fp vs hf h1 _ ih => exact .fp vs (hp _ _ hf) h1 fun i x e => ih i x e ((pure_fp _).1 h x (mem e))
  | nilM => exact .nilM
  | map hm => cases h
  | fn vs hs h1 _ ih => exact .fn vs hs h1 fun i x e => ih i x e ((pure_fn _ _).1 h x (mem e))
  | bnd vs hs h1 _ ih => cases h
  | nilF => exact .nilF
  | ifc _ ih => exact .ifc (ih ((pure_ifc _ _).1 h))
  | nilI => exact .nilI
  | agg vs hs h1 _ ih => exact .agg vs hs h1 fun i x e => ih i x e ((pure_agg _).1 h x (mem e))
  | tup vs hs h1 _ ih => exact .tup vs hs h1 fun i x e => ih i x e ((pure_tup _).1 h x (mem e))
  | any v => exact .any v
  | opt _ h2 ih => cases h with | opt h => exact .opt (fun e => ih e h) h2

/-- A list with another one, element by element. -/
def LRel (R : V → V → Prop) (l l' : List V) : Prop := l.length = l'.length ∧ ∀ (i : Nat) (x y : V), l[i]? = some x → l'[i]? = some y → R x y

/-- A value told anew (the left one): other numbers of blocks, or less. -/
inductive Rn (π : Nat → Nat) (N : Nat → Prop) : V → V → Prop
  | same {v} (h : Pure v) : Rn π N v v
  | any {v} : Rn π N .any v
  | nil0 : Rn π N (.fs [] 0) .nilS
  | sl {b off len sz kc kc'} (hb : N b) (hk : kc' = none ∨ kc' = kc) : Rn π N (.sl b off len sz kc') (.sl (π b) off len sz kc)
  | ptr {b off} (hb : N b) : Rn π N (.ptr b off) (.ptr (π b) off)
  | map {b} (hb : N b) : Rn π N (.map b) (.map (π b))
  | fn {f cs cs'} (hl : cs'.length = cs.length) (h : ∀ (i : Nat) (x y : V), cs'[i]? = some x → cs[i]? = some y → Rn π N x y) : Rn π N (.fn f cs') (.fn f cs)
  | ifc {t v v'} (h : Rn π N v' v) : Rn π N (.ifc t v') (.ifc t v)
  | agg {cs cs'} (hl : cs'.length = cs.length) (h : ∀ (i : Nat) (x y : V), cs'[i]? = some x → cs[i]? = some y → Rn π N x y) : Rn π N (.agg cs') (.agg cs)
  | tup {cs cs'} (hl : cs'.length = cs.length) (h : ∀ (i : Nat) (x y : V), cs'[i]? = some x → cs[i]? = some y → Rn π N x y) : Rn π N (.tup cs') (.tup cs)

theorem VRel.rn {g g' : G} {π : Nat → Nat} {N : Nat → Prop} (hp : ∀ c a, g.phi c = some a → g'.phi c = some a) (hm : ∀ b, N b → g'.mu b = g.mu (π b)) {v v' : V} (h : Rn π N v' v) :
    ∀ {vc : Value}, VRel g v vc → VRel g' v' vc := by
  induction h with
  | same h => intro vc r; exact r.pure hp h
  | any => intro vc r; exact .any _
  | nil0 => intro vc r; cases r; exact .fs0 fun _ => rfl
  | sl hb hk =>
    intro vc r
    obtain ⟨T, o, cap, e, hl, ho, hc, rfl⟩ := r.inv_sl
    refine .sl (by rw [hm _ hb]; exact e) hl ho fun k ek => ?_
    rcases hk with rfl | rfl
    · cases ek
    · exact hc k ek
  | ptr hb =>
    intro vc r
    obtain ⟨T, e, rfl⟩ := r.inv_ptr
    exact .ptr (by rw [hm _ hb]; exact e)
  | map hb =>
    intro vc r
    cases r with
    | map e => exact .map (by rw [hm _ hb]; exact e)
  | fn hl _ ih =>
    intro vc r
    obtain ⟨arr, rfl, hs, p⟩ := r.inv_fn
    refine VRel.mk_fn (by omega) fun i x hx => ?_
    have hlt := (List.getElem?_eq_some_iff.1 hx).1
    obtain ⟨u, hu, ru⟩ := p i _ (List.getElem?_eq_getElem (by omega))
    exact ⟨u, hu, ih i x _ hx (List.getElem?_eq_getElem (by omega)) ru⟩
  | ifc _ ih =>
    intro vc r
    cases r with
    | ifc hv => exact .ifc (ih hv)
  | agg hl _ ih =>
    intro vc r
    obtain ⟨arr, rfl, hs, p⟩ := r.inv_agg
    refine VRel.mk_agg (by omega) fun i x hx => ?_
    have hlt := (List.getElem?_eq_some_iff.1 hx).1
    obtain ⟨u, hu, ru⟩ := p i _ (List.getElem?_eq_getElem (by omega))
    exact ⟨u, hu, ih i x _ hx (List.getElem?_eq_getElem (by omega)) ru⟩
  | tup hl _ ih =>
    intro vc r
    obtain ⟨arr, rfl, hs, p⟩ := r.inv_tup
    refine VRel.mk_tup (by omega) fun i x hx => ?_
    have hlt := (List.getElem?_eq_some_iff.1 hx).1
    obtain ⟨u, hu, ru⟩ := p i _ (List.getElem?_eq_getElem (by omega))
    exact ⟨u, hu, ih i x _ hx (List.getElem?_eq_getElem (by omega)) ru⟩

theorem PW.rn {g g' : G} {π : Nat → Nat} {N : Nat → Prop} (hp : ∀ c a, g.phi c = some a → g'.phi c = some a) (hm : ∀ b, N b → g'.mu b = g.mu (π b)) {l l' : List V} (h : LRel (Rn π N) l' l) {get : Nat → Option Value}
    (p : PW g l get) : PW g' l' get := by
  intro i x hx
  have hlt := (List.getElem?_eq_some_iff.1 hx).1
  have hll := h.1
  obtain ⟨u, hu, ru⟩ := p i _ (List.getElem?_eq_getElem (by omega))
  exact ⟨u, hu, ru.rn hp hm (h.2 i x _ hx (List.getElem?_eq_getElem (by omega)))⟩

inductive RnB (π : Nat → Nat) (N : Nat → Prop) : Blk → Blk → Prop
  | cells {cs cs'} (h : LRel (Rn π N) cs' cs) : RnB π N (.cells cs') (.cells cs)
  | mp {es es' clock} (hb : es'.map (·.1) = es.map (·.1)) (hk : LRel (Rn π N) (es'.map (·.2.1)) (es.map (·.2.1))) (hv : LRel (Rn π N) (es'.map (·.2.2)) (es.map (·.2.2))) : RnB π N (.mp es' clock) (.mp es clock)
  | ty {t cs cs'} (h : LRel (Rn π N) cs' cs) : RnB π N (.ty t cs') (.ty t cs)

theorem BlkRel.rn {g g' : G} {π : Nat → Nat} {N : Nat → Prop} (hp : ∀ c a, g.phi c = some a → g'.phi c = some a) (hm : ∀ b, N b → g'.mu b = g.mu (π b)) {x x' : Blk} (h : RnB π N x' x) {T : Tgt} {o : Obj}
    (r : BlkRel g x T o) : BlkRel g' x' T o := by
  cases h with
  | cells h =>
    cases r with
    | cells hs hb p => exact .cells hs (by rw [h.1]; exact hb) (p.rn hp hm h)
  | mp hb hk hv =>
    cases r with
    | mp hs pb pk pv => exact .mp (by have := hk.1; simp at this; omega) (pb.trans hb.symm) (pk.rn hp hm hk) (pv.rn hp hm hv)
  | ty h =>
    cases r with
    | ty hs hb hsh p => exact .ty hs (by rw [h.1]; exact hb) hsh (p.rn hp hm h)

/-- State s' tells of s, with less and with other numbers for our own blocks. -/
structure SubP (nx : Nat) (Wm : List Nat) (π : Nat → Nat) (s s' : St) : Prop where
  env : ∀ t v', s'.env.lookup t = some v' → v' = .any ∨ ∃ v, s.env.lookup t = some v ∧ Rn π (· < s'.h.next) v' v
  heap : ∀ b x', s'.h.get b = some x' → b < s'.h.next ∧ ∃ x, s.h.get (π b) = some x ∧ RnB π (· < s'.h.next) x' x
  own : ∀ b, if b < nx then π b = b else nx ≤ π b
  inj : ∀ b b' x x', s'.h.get b = some x → s'.h.get b' = some x' → π b = π b' → b = b'
  elder : ∀ b, b < nx → b ∉ Wm → s'.h.get b = s.h.get b
  next : nx ≤ s'.h.next

def Sub (C : Cfg) (s s' : St) : Prop := ∃ π, SubP C.nx C.Wm π s s'

theorem Rel.sub {C : Cfg} {base : Nat} {D : Nat → Prop} {g0 : G} {H0 : Hp} {w0 : World} {g : G} {s s' : St} {a : Act} {w : World} (he : Entry C base D g0 H0 w0) (r : Rel C base D g0 H0 w0 g s a w) (h : Sub C s s') :
    ∃ g', Rel C base D g0 H0 w0 g' s' a w := by
  obtain ⟨π, h⟩ := h
  let g' : G := ⟨fun b => if b < s'.h.next then g.mu (π b) else none, g.phi⟩
  have hp : ∀ c a, g.phi c = some a → g'.phi c = some a := fun _ _ e => e
  have hm : ∀ b, b < s'.h.next → g'.mu b = g.mu (π b) := fun b hb => if_pos hb
  have hm' : ∀ b T, g'.mu b = some T → b < s'.h.next ∧ g.mu (π b) = some T := by
    intro b T e
    simp only [g'] at e
    split at e
    · rename_i hb; exact ⟨hb, e⟩
    · cases e
  have own : ∀ b, (b < C.nx → π b = b) ∧ (C.nx ≤ b → C.nx ≤ π b) := fun b => by
    have := h.own b
    split at this
    · exact ⟨fun _ => this, fun _ => by omega⟩
    · exact ⟨fun _ => by omega, fun _ => this⟩
  have pnx := he.nx
  refine ⟨g', ⟨⟨r.env.glob.mono hp, r.env.size, fun t v' e => ?_⟩, r.defers, ?_⟩⟩
  · rcases h.env t v' e with rfl | ⟨v, ev, rn⟩
    · exact .any _
    · exact (r.env.rel t v ev).rn hp hm rn
  · refine ⟨?_, ?_, ?_, r.post.newphi, r.post.frame, r.post.size, r.post.os, r.post.tape, r.post.output, ?_, ?_⟩
    · refine ⟨fun b T e => ?_, r.post.le.2⟩
      have hb := (he.inv.dom b T e).1
      rw [hm b (by have := h.next; omega), (own b).1 (by omega)]
      exact r.post.le.1 b T e
    · refine ⟨r.post.inv.frz, fun b T e => ?_, fun b x e => (h.heap b x e).1, fun b x _ e => ?_, fun b b' x x' T T' _ _ e e' m m' ec => ?_, r.post.inv.base⟩
      · obtain ⟨h1, h2⟩ := hm' b T e
        exact ⟨h1, (r.post.inv.dom _ T h2).2⟩
      · obtain ⟨hb, y, hy, rn⟩ := h.heap b x e
        obtain ⟨T, o, e1, e2, e3, e4⟩ := r.post.inv.cont _ y (he.inD _) hy
        exact ⟨T, o, by rw [hm b hb]; exact e1, e2, e3, e4.rn hp hm rn⟩
      · obtain ⟨hb, y, hy, _⟩ := h.heap b x e
        obtain ⟨hb', y', hy', _⟩ := h.heap b' x' e'
        have := r.post.inv.inj _ _ y y' T T' (he.inD _) (he.inD _) hy hy' (hm' b T m).2 (hm' b' T' m').2 ec
        exact h.inj b b' x x' e e' this
    · intro b T e
      obtain ⟨hb, e⟩ := hm' b T e
      rcases Nat.lt_or_ge b C.nx with hlt | hge
      · rw [(own b).1 hlt] at e
        exact r.post.newmu b T e
      · have h2 := (own b).2 hge
        rcases r.post.newmu _ T e with e0 | ⟨_, hc⟩
        · have := (he.inv.dom _ T e0).1; omega
        · exact .inr ⟨by omega, hc⟩
    · intro b hb hn
      rw [h.elder b (by omega) hn]
      exact r.post.aframe b hb hn
    · have := h.next; omega

end Go.Ab
