/- One operation, as a whole. -/
import Derived.Test.YtajodjbnkeeonaaGreatDoorAbOpOk7
set_option linter.unusedSimpArgs false
set_option linter.unusedVariables false
namespace Go.Ab

def aMakeIface (P : Program) (t : TypeId) (x : V) (H : Hp) : AR :=
  match P.underlying t with
  | some (.interface _) => .bad H
  | some _ => .val H (.ifc t x)
  | none => .bad H

def isIfc (P : Program) (t : TypeId) : Bool :=
  match P.underlying t with
  | some (.interface _) => true
  | _ => false

def aAssert (P : Program) (x : V) (asserted : TypeId) (ok : Bool) (H : Hp) : AR :=
  match P.underlying asserted, zeroT P asserted, x with
  | some _, some z, .ifc t v =>
    if isIfc P asserted = true then .bad H else
    if t = asserted then .val H (if ok then .tup [v, .bool true] else v) else
    if ok then .val H (.tup [cv z, .bool false]) else .bad H
  | some _, some z, .nilI =>
    if isIfc P asserted = true then .bad H else if ok then .val H (.tup [cv z, .bool false]) else .bad H
  | _, _, _ => .bad H

def aPick (c a b : V) (H : Hp) : AR :=
  match c with
  | .bool t => .val H (if t then a else b)
  | _ => .bad H

def aMax (x y : V) (mx : Bool) (H : Hp) : AR :=
  match x, y with
  | .int k a, .int _ b => .val H (.int k (if mx then maxI a b else minI a b))
  | _, _ => .bad H

def aBuiltin (P : Program) (b : Builtin) (ts : Array TypeId) (args : List V) (H : Hp) : AR :=
  match b, args with
  | .len, [x] => match ts[0]? with | some t => aLen P t x H | none => .bad H
  | .append, [s, x] => match ts.toList with | [sT, xT] => aAppend P sT xT s x H | _ => .bad H
  | .max, [x, y] => aMax x y true H
  | .min, [x, y] => aMax x y false H
  | .cap, [x] => match ts[0]? with | some t => XR.ar H (xCap P t x H) | none => .bad H
  | .copy, [d, x] => match ts.toList with | [dT, xT] => XR.ar H (xCopy P dT xT d x H) | _ => .bad H
  | .clear, [x] => match ts[0]? with | some t => XR.ar H (xClear P t x H) | none => .bad H
  | .unsafeSliceData, [x] => XR.ar H (xSliceData x H)
  | .unsafeString, [x, n] => match ts.toList with | [pt, _] => XR.ar H (xString P pt x n H) | _ => .bad H
  | _, _ => .bad H

/-- Every operation but calls of functions, panics and the like. -/
def aop (P : Program) (ρ : Operand → V) (o : Op) (H : Hp) : AR :=
  match o with
  | .move x | .assign x => .val H (ρ x)
  | .pick c a b => aPick (ρ c) (ρ a) (ρ b) H
  | .alloc t => aAlloc P t H
  | .box _ x => aBox (ρ x) H
  | .build t ps => aBuild P t (ps.toList.map fun p => (p.1, ρ p.2)) H
  | .buildSlice t n ps => aBuildSlice P t n (ps.toList.map fun p => (p.1, ρ p.2)) H
  | .load t a => aLoad P t (ρ a) H
  | .store t a x => aStore P t (ρ a) (ρ x) H
  | .nilCheck x => aNil (ρ x) H
  | .binOp op t x y _ => aBin P op t (ρ x) (ρ y) H
  | .unOp op _ x => aUn op (ρ x) H
  | .convert s d x => aConv P s d (ρ x) H
  | .makeInterface t x => aMakeIface P t (ρ x) H
  | .typeAssert x _ t ok => aAssert P (ρ x) t ok H
  | .makeFunc (.func f) first caps => if first.size = 0 then .val H (.fn f (caps.toList.map ρ)) else if caps.size = 0 then .val H (.bnd f (first.toList.map ρ)) else .bad H
  | .makeSlice t l c => aMakeSlice P t (ρ l) (ρ c) H
  | .slice t x lo hi mx => aSlice P t (ρ x) (lo.map ρ) (hi.map ρ) (mx.map ρ) H
  | .fieldAddr t x f => aFieldAddr P t (ρ x) f H
  | .field t x f => aField P t (ρ x) f H
  | .indexAddr t x i => aIndexAddr P t (ρ x) (ρ i) H
  | .index t x i => aIndex P t (ρ x) (ρ i) H
  | .extract x i => aExtract (ρ x) i H
  | .call { callee := .builtin b, args, argTypes } => aBuiltin P b argTypes (args.toList.map ρ) H
  | .makeMap _ none => XR.ar H (xMakeMap H)
  | .lookup t x k ok => XR.ar H (xLookup P t (ρ x) (ρ k) ok H)
  | .mapUpdate t m k x | .insert t m k x => XR.ar H (xMapUpdate P t (ρ m) (ρ k) (ρ x) H)
  | .mapEntry t m k => XR.ar H (xMapEntry P t (ρ m) (ρ k) H)
  | .entryStore _ m n x => XR.ar H (xEntryStore (ρ m) (ρ n) (ρ x) H)
  | .range t x => XR.ar H (xRange P t (ρ x) H)
  | .entry x => XR.ar H (xEntry (ρ x) H)
  | _ => .bad H

section
variable {P : Program} {g : G} {base : Nat} {H : Hp} {D : Nat → Prop} {w : World}

/-- What an operation that calls nothing does. -/
def SndN (P : Program) (g : G) (base : Nat) (H : Hp) (D : Nat → Prop) (w : World) (r : AR) (s : Sem Next) : Prop :=
  ∃ g' w' vc n, s.run P w = .ok n w' ∧ (n = .value vc ∨ (n = .skip ∧ vc = undef)) ∧ VRel g' r.v vc ∧ Post g g' base H r.h D r.W w w'

theorem Snd.next {r : AR} {s : Sem Value} (h : Snd P g base H D w r s) : SndN P g base H D w r (do pure (.value (← s))) := by
  obtain ⟨g', w', vc, h1, h2, h3⟩ := h
  exact ⟨g', w', vc, .value vc, by simp [h1], .inl rfl, h2, h3⟩
theorem SndU.next {r : AR} {s : Sem Unit} (h : SndU P g base H D w r s) : SndN P g base H D w r (do s; pure .skip) := by
  obtain ⟨hv, g', w', h1, h3⟩ := h
  exact ⟨g', w', undef, .skip, by simp [h1], .inr ⟨rfl, rfl⟩, by rw [hv]; exact VRel.mk_tup rfl PW.nil, h3⟩

theorem parts_rel {ρ : Operand → V} {ρc : Operand → Value} (hρ : ∀ x, VRel g (ρ x) (ρc x)) : ∀ (l : List (Nat × Operand)), Parts g (l.map fun p => (p.1, ρ p.2)) (l.map fun p => (p.1, ρc p.2))
  | [] => .nil
  | (_, x) :: l => .cons (hρ x) (parts_rel hρ l)

theorem map_rel {ρ : Operand → V} {ρc : Operand → Value} (hρ : ∀ x, VRel g (ρ x) (ρc x)) (xs : Array Operand) : PW g (xs.toList.map ρ) (fun i => (xs.map ρc)[i]?) := by
  intro i v hv
  rw [List.getElem?_map] at hv
  cases e : xs.toList[i]? with
  | none => rw [e] at hv; cases hv
  | some x =>
    rw [e] at hv
    cases hv
    exact ⟨ρc x, by show (xs.map ρc)[i]? = _; rw [Array.getElem?_map, ← Array.getElem?_toList, e]; rfl, hρ x⟩

theorem orel_map {ρ : Operand → V} {ρc : Operand → Value} (hρ : ∀ x, VRel g (ρ x) (ρc x)) (o : Option Operand) : ORel g (o.map ρ) (o.map ρc) := by
  cases o with
  | none => trivial
  | some x => exact hρ x

theorem aPick_ok (h : Inv g base H D w) {c a b : V} {cc ac bc : Value} (hc : VRel g c cc) (ha : VRel g a ac) (hb : VRel g b bc) (hp : (aPick c a b H).pre) :
    SndN P g base H D w (aPick c a b H) (do pure (.value (if ← asBool cc then ac else bc))) := by
  cases hc <;> first | exact hp.elim | skip
  rename_i t
  refine ⟨g, w, if t then ac else bc, _, rfl, .inl ?_, ?_, Post.refl h rfl rfl ⟨rfl, Nat.le_refl _⟩ rfl⟩
  · cases t <;> rfl
  · cases t <;> simp [aPick, AR.val, ha, hb]

theorem aMakeIface_ok (h : Inv g base H D w) {t : TypeId} {x : V} {xc : Value} (hx : VRel g x xc) (hp : (aMakeIface P t x H).pre) : Snd P g base H D w (aMakeIface P t x H) (Instr.makeInterface t xc) := by
  unfold aMakeIface at *
  split at hp
  · exact hp.elim
  · rename_i d hne hu
    refine Snd.val h _ (v := .iface t xc) ?_ (.ifc hx)
    simp only [Instr.makeInterface, Sem.run_bind, run_underlying hu, Result.andThen_ok]
    cases d <;> first | rfl | exact absurd rfl (hne _)
  · exact hp.elim

theorem aAssert_ok (h : Inv g base H D w) {xT t : TypeId} {ok : Bool} {x : V} {xc : Value} (hx : VRel g x xc) (hp : (aAssert P x t ok H).pre) : Snd P g base H D w (aAssert P x t ok H) (Instr.typeAssert xc xT t ok) := by
  unfold aAssert at *
  have zr : ∀ {z : Value}, VRel g (.tup [cv z, .bool false]) (.tuple #[z, .bool false]) := by
    intro z
    refine VRel.mk_tup rfl fun i y hy => ?_
    match i, hy with
    | 0, hy => cases hy; exact ⟨_, rfl, cv_rel g z⟩
    | 1, hy => cases hy; exact ⟨_, rfl, .bool _⟩
  split at hp
  · rename_i d z u v hu hz
    by_cases hi : isIfc P t = true
    · rw [if_pos hi] at hp; exact hp.elim
    · rw [if_neg hi] at hp ⊢
      cases hx with
      | ifc hv =>
        rename_i vc
        have hni : ∀ ms, d ≠ .interface ms := fun ms e => hi (by simp [isIfc, hu, e])
        by_cases ht : u = t
        · rw [if_pos ht] at hp ⊢
          subst ht
          refine Snd.val h _ (v := if ok then .tuple #[vc, .bool true] else vc) ?_ ?_
          · simp only [Instr.typeAssert, Sem.run_bind, run_underlying hu, Result.andThen_ok]
            cases d <;> first | exact absurd rfl (hni _) | simp
          · cases ok
            · simpa using hv
            · refine VRel.mk_tup rfl fun i y hy => ?_
              match i, hy with
              | 0, hy => cases hy; exact ⟨_, rfl, hv⟩
              | 1, hy => cases hy; exact ⟨_, rfl, .bool _⟩
        · rw [if_neg ht] at hp ⊢
          cases ok with
          | false => exact hp.elim
          | true =>
            refine Snd.val h _ (v := .tuple #[z, .bool false]) ?_ zr
            simp only [Instr.typeAssert, Sem.run_bind, run_underlying hu, Result.andThen_ok]
            cases d <;> first | exact absurd rfl (hni _) | simp [ht, run_zeroT hz]
  · rename_i d z hu hz
    by_cases hi : isIfc P t = true
    · rw [if_pos hi] at hp; exact hp.elim
    · rw [if_neg hi] at hp ⊢
      cases hx
      have hni : ∀ ms, d ≠ .interface ms := fun ms e => hi (by simp [isIfc, hu, e])
      cases ok with
      | false => exact hp.elim
      | true =>
        refine Snd.val h _ (v := .tuple #[z, .bool false]) ?_ zr
        simp only [Instr.typeAssert, Sem.run_bind, run_underlying hu, Result.andThen_ok]
        cases d <;> first | exact absurd rfl (hni _) | simp [run_zeroT hz]
  · exact hp.elim

theorem aMax_ok (h : Inv g base H D w) {ts : Array TypeId} {ty : TypeId} {x y : V} {xc yc : Value} (hx : VRel g x xc) (hy : VRel g y yc) :
    ((aMax x y true H).pre → Snd P g base H D w (aMax x y true H) (Builtin.max_ ts ty #[xc, yc])) ∧ ((aMax x y false H).pre → Snd P g base H D w (aMax x y false H) (Builtin.min_ ts ty #[xc, yc])) := by
  constructor <;> intro hp
  · cases hx <;> cases hy <;> first | exact hp.elim | skip
    refine Snd.val h _ (v := .int _ (maxI _ _)) ?_ (.int _ _)
    simp [Builtin.max_, Builtin.max2, maxI]
  · cases hx <;> cases hy <;> first | exact hp.elim | skip
    refine Snd.val h _ (v := .int _ (minI _ _)) ?_ (.int _ _)
    simp [Builtin.min_, Builtin.min2, minI]

theorem aBuiltin_ok (h : Inv g base H D w) {b : Builtin} {ts : Array TypeId} {ty : TypeId} {consts : Array Bool} {args : List V} {ac : Array Value} (hs : ac.size = args.length) (ha : PW g args (fun i => ac[i]?))
    (hp : (aBuiltin P b ts args H).pre) (hD : ∀ k ∈ (aBuiltin P b ts args H).R, D k) : SndN P g base H D w (aBuiltin P b ts args H) (builtin b ts ty consts ac) := by
  have one : ∀ {x : V}, args = [x] → ∃ xc, ac = #[xc] ∧ VRel g x xc := by
    intro x e
    subst e
    obtain ⟨v, hv, r⟩ := ha 0 x rfl
    have hv' : ac[0]? = some v := hv
    refine ⟨v, ?_, r⟩
    apply Array.ext_getElem?
    intro i
    match i with
    | 0 => rw [hv']; rfl
    | i + 1 => rw [Array.getElem?_eq_none (by simp at hs; omega), Array.getElem?_eq_none (by simp)]
  have two : ∀ {x y : V}, args = [x, y] → ∃ xc yc, ac = #[xc, yc] ∧ VRel g x xc ∧ VRel g y yc := by
    intro x y e
    subst e
    obtain ⟨v, hv, r⟩ := ha 0 x rfl
    obtain ⟨u, hu, r'⟩ := ha 1 y rfl
    have hv' : ac[0]? = some v := hv
    have hu' : ac[1]? = some u := hu
    refine ⟨v, u, ?_, r, r'⟩
    apply Array.ext_getElem?
    intro i
    match i with
    | 0 => rw [hv']; rfl
    | 1 => rw [hu']; rfl
    | i + 2 => rw [Array.getElem?_eq_none (by simp at hs; omega), Array.getElem?_eq_none (by simp)]
  revert hD
  unfold aBuiltin at *
  split at hp
  · rename_i x
    obtain ⟨xc, rfl, hx⟩ := one rfl
    split at hp
    · rename_i t ht
      intro hD
      exact (aLen_ok h ht hx hp hD).next
    · exact hp.elim
  · rename_i s x
    obtain ⟨sc, xc, rfl, hs', hx⟩ := two rfl
    split at hp
    · rename_i sT xT ht
      intro hD
      obtain rfl : ts = #[sT, xT] := by apply Array.toList_inj.1; exact ht
      exact (aAppend_ok h hs' hx hp hD).next
    · exact hp.elim
  · rename_i x y
    obtain ⟨xc, yc, rfl, hx, hy⟩ := two rfl
    intro _
    exact ((aMax_ok h hx hy).1 hp).next
  · rename_i x y
    obtain ⟨xc, yc, rfl, hx, hy⟩ := two rfl
    intro _
    exact ((aMax_ok h hx hy).2 hp).next
  · rename_i x
    obtain ⟨xc, rfl, hx⟩ := one rfl
    split at hp
    · rename_i t ht
      intro _
      exact (xCap_ok h ht hx hp).next
    · exact hp.elim
  · rename_i d x
    obtain ⟨dc, xc, rfl, hd', hx⟩ := two rfl
    split at hp
    · rename_i dT xT ht
      intro hD
      obtain rfl : ts = #[dT, xT] := by apply Array.toList_inj.1; exact ht
      exact (xCopy_ok h hd' hx hp hD).next
    · exact hp.elim
  · rename_i x
    obtain ⟨xc, rfl, hx⟩ := one rfl
    split at hp
    · rename_i t ht
      intro hD
      exact (xClear_ok h ht hx hp hD).next
    · exact hp.elim
  · rename_i x
    obtain ⟨xc, rfl, hx⟩ := one rfl
    intro _
    exact (xSliceData_ok h hx hp).next
  · rename_i x n
    obtain ⟨xc, nc, rfl, hx, hn⟩ := two rfl
    split at hp
    · rename_i pt it ht
      intro hD
      obtain rfl : ts = #[pt, it] := by apply Array.toList_inj.1; exact ht
      exact (xString_ok h hx hn hp hD).next
    · exact hp.elim
  · exact hp.elim

theorem aop_ok (h : Inv g base H D w) {ρ : Operand → V} {ρc : Operand → Value} (hρ : ∀ x, VRel g (ρ x) (ρc x)) (o : Oper) (hp : (aop P ρ o.op H).pre) (hD : ∀ b ∈ (aop P ρ o.op H).R, D b) :
    SndN P g base H D w (aop P ρ o.op H) (execOp ρc o) := by
  obtain ⟨dst, op, type, pos, after, guard⟩ := o
  unfold aop at hp hD ⊢
  unfold execOp
  dsimp only at *
  cases op <;> first | exact hp.elim | skip
  case move x => exact ⟨g, w, _, _, rfl, .inl rfl, hρ x, Post.refl h rfl rfl ⟨rfl, Nat.le_refl _⟩ rfl⟩
  case assign x => exact ⟨g, w, _, _, rfl, .inl rfl, hρ x, Post.refl h rfl rfl ⟨rfl, Nat.le_refl _⟩ rfl⟩
  case pick c a b => exact aPick_ok h (hρ c) (hρ a) (hρ b) hp
  case alloc t => exact (aAlloc_ok h _ hp).next
  case box t x => exact (aBox_ok h (hρ x) hp).next
  case build t ps => exact (aBuild_ok h (by simpa using parts_rel hρ ps.toList) hp).next
  case buildSlice t n ps => exact (aBuildSlice_ok h (by simpa using parts_rel hρ ps.toList) hp).next
  case load t a => exact (aLoad_ok h (hρ a) hp hD).next
  case store t a x => exact (aStore_ok h (hρ a) (hρ x) hp hD).next
  case nilCheck x =>
    dsimp only at hp hD ⊢
    have hx := hρ x
    revert hp hD
    generalize ρ x = v at hx ⊢
    generalize ρc x = vc at hx ⊢
    intro hp _
    have hx0 := hx
    cases hx <;> first
      | exact hp.elim
      | exact ⟨g, w, _, _, rfl, .inl rfl, hx0, Post.refl h rfl rfl ⟨rfl, Nat.le_refl _⟩ rfl⟩
  case binOp op t x y yT => exact (aBin_ok h x y (hρ x) (hρ y) hp).next
  case unOp op t x => exact (aUn_ok h (hρ x) hp).next
  case convert s d x => exact (aConv_ok h (hρ x) hp hD).next
  case makeInterface t x => exact (aMakeIface_ok h (hρ x) hp).next
  case typeAssert x xT t ok => exact (aAssert_ok h (hρ x) hp).next
  case makeFunc fn first caps =>
    cases fn <;> first | exact hp.elim | skip
    rename_i f
    dsimp only at *
    by_cases hf : first.size = 0
    · rw [if_pos hf] at hp ⊢
      have hf' : first.map ρc = #[] := by rw [Array.eq_empty_of_size_eq_zero hf]; simp
      refine ⟨g, w, .func (.func f) #[] (caps.map ρc), _, by simp [Instr.makeFunc, hf'], .inl rfl, VRel.mk_fn (by simp) (map_rel hρ caps), Post.refl h rfl rfl ⟨rfl, Nat.le_refl _⟩ rfl⟩
    · rw [if_neg hf] at hp ⊢
      by_cases hc : caps.size = 0
      · rw [if_pos hc] at hp ⊢
        have hc' : caps.map ρc = #[] := by rw [Array.eq_empty_of_size_eq_zero hc]; simp
        refine ⟨g, w, .func (.func f) (first.map ρc) #[], _, by simp [Instr.makeFunc, hc'], .inl rfl, VRel.mk_bnd (by simp) (map_rel hρ first), Post.refl h rfl rfl ⟨rfl, Nat.le_refl _⟩ rfl⟩
      · rw [if_neg hc] at hp; exact hp.elim
  case makeSlice t l c => exact (aMakeSlice_ok h (hρ l) (hρ c) hp).next
  case slice t x lo hi mx => exact (aSlice_ok h (hρ x) (orel_map hρ lo) (orel_map hρ hi) (orel_map hρ mx) hp hD).next
  case fieldAddr t x f => exact (aFieldAddr_ok h (hρ x) hp).next
  case field t x f => exact (aField_ok h (hρ x) hp).next
  case indexAddr t x i => exact (aIndexAddr_ok h (hρ x) (hρ i) hp).next
  case index t x i => exact (aIndex_ok h (hρ x) (hρ i) hp).next
  case extract x i => exact (aExtract_ok h (hρ x) hp).next
  case call c =>
    obtain ⟨callee, args, argTypes⟩ := c
    cases callee <;> first | exact hp.elim | skip
    rename_i b
    dsimp only at *
    simp only [resolve, invoke, pure_bind]
    exact aBuiltin_ok h (by simp) (map_rel hρ args) hp hD
  case makeMap t r =>
    cases r with
    | some r => exact hp.elim
    | none => exact (xMakeMap_ok h).next
  case lookup t x k ok => exact (xLookup_ok h (hρ x) (hρ k) hp hD).next
  case mapUpdate t m k x => exact (xMapUpdate_ok h (hρ m) (hρ k) (hρ x) hp hD).next
  case insert t m k x => exact (xMapUpdate_ok h (hρ m) (hρ k) (hρ x) hp hD).next
  case mapEntry t m k => exact (xMapEntry_ok h (hρ m) (hρ k) hp hD).next
  case entryStore t m n x => exact (xEntryStore_ok h (hρ m) (hρ n) (hρ x) hp hD).next
  case range t x => exact (xRange_ok h (hρ x) hp hD).next
  case entry x => exact (xEntry_ok h (hρ x) hp hD).next

/-- What an operation's result says of the abstract heap, whatever the world. -/
structure Stat (H H' : Hp) (W : List Nat) : Prop where
  next : H.next ≤ H'.next
  frame : ∀ b, b < H.next → b ∉ W → H'.get b = H.get b
  live : ∀ b ∈ W, ∃ x, H.get b = some x
  keys : (∀ b x, H.get b = some x → b < H.next) → ∀ b x, H'.get b = some x → b < H'.next

theorem Stat.refl (H : Hp) : Stat H H [] := ⟨Nat.le_refl _, fun _ _ _ => rfl, fun _ h => (by cases h), fun h => h⟩
theorem Stat.new (H : Hp) (x : Blk) : Stat H (H.new x) [] := by
  refine ⟨Nat.le_succ _, fun b hb _ => by rw [Hp.get_new, if_neg (by omega)], fun _ h => by (cases h), fun h b y e => ?_⟩
  rw [Hp.get_new] at e
  show b < H.next + 1
  split at e
  · omega
  · have := h b y e; omega
theorem Stat.put {H : Hp} {b : Nat} {x y : Blk} (hb : H.get b = some y) : Stat H (H.put b x) [b] := by
  refine ⟨Nat.le_refl _, fun k _ hn => by rw [Hp.get_put, if_neg (by simpa using hn)], fun k hk => by simp at hk; subst hk; exact ⟨y, hb⟩, fun h k z e => ?_⟩
  rw [Hp.get_put] at e
  split at e
  · rename_i hk; subst hk; exact h _ _ hb
  · exact h k z e
theorem Stat.take {H : Hp} {b : Nat} {x y : Blk} (hb : H.get b = some y) : Stat H ((H.kill b).new x) [b] := by
  refine ⟨Nat.le_succ _, fun k hk hn => ?_, fun k hk => by simp at hk; subst hk; exact ⟨y, hb⟩, fun h k z e => ?_⟩
  · rw [Hp.get_new, Hp.get_kill, if_neg (show ¬ k = (H.kill b).next from fun e => by have e' : k = H.next := e; omega), if_neg (by simpa using hn)]
  · rw [Hp.get_new, Hp.get_kill] at e
    show k < H.next + 1
    split at e
    · rename_i hk; have : k = H.next := hk; omega
    · split at e
      · cases e
      · have := h k z e; omega

theorem Stat.kill {H : Hp} {b : Nat} {y : Blk} (hb : H.get b = some y) : Stat H (H.kill b) [b] := by
  refine ⟨Nat.le_refl _, fun k hk hn => ?_, fun k hk => by simp at hk; subst hk; exact ⟨y, hb⟩, fun h k z e => ?_⟩
  · rw [Hp.get_kill, if_neg (by simpa using hn)]
  · rw [Hp.get_kill] at e
    split at e
    · cases e
    · exact h k z e

theorem XR.stat {q : Option XR} (h : ∀ r, q = some r → Stat H r.h r.W) (hp : (XR.ar H q).pre) : Stat H (XR.ar H q).h (XR.ar H q).W := by
  cases q with
  | none => exact hp.elim
  | some r => exact h r rfl

theorem xEq_h {op : BinOp} {t : TypeId} {x y : V} {r : XR} (h : xEq P op t x y H = some r) : r.h = H ∧ r.W = [] := by
  unfold xEq at h
  split at h <;> first | (cases h; exact ⟨rfl, rfl⟩) | cases h
theorem xIndexA_h {t : TypeId} {x i : V} {r : XR} (h : xIndexA P t x i H = some r) : r.h = H ∧ r.W = [] := by
  unfold xIndexA at h
  (repeat' split at h) <;> first | (cases h; exact ⟨rfl, rfl⟩) | cases h
theorem xBuildA_h {t : TypeId} {ps : List (Nat × V)} {r : XR} (h : xBuildA P t ps H = some r) : r.h = H ∧ r.W = [] := by
  unfold xBuildA at h
  (repeat' split at h) <;> first | (cases h; exact ⟨rfl, rfl⟩) | cases h
theorem xConv_stat {s d : TypeId} {x : V} {r : XR} (h : xConv P s d x H = some r) : Stat H r.h r.W := by
  unfold xConv at h
  (repeat' split at h) <;> first | (cases h; exact Stat.refl H) | cases h
theorem xLookup_stat {t : TypeId} {x k : V} {ok : Bool} {r : XR} (h : xLookup P t x k ok H = some r) : Stat H r.h r.W := by
  unfold xLookup at h
  (repeat' split at h) <;> first | (cases h; exact Stat.refl H) | cases h
theorem xMapUpdate_stat {t : TypeId} {m k x : V} {r : XR} (h : xMapUpdate P t m k x H = some r) : Stat H r.h r.W := by
  unfold xMapUpdate at h
  (repeat' split at h) <;> first | (cases h; exact Stat.put (by assumption)) | cases h
theorem xMapEntry_stat {t : TypeId} {m k : V} {r : XR} (h : xMapEntry P t m k H = some r) : Stat H r.h r.W := by
  unfold xMapEntry at h
  (repeat' split at h) <;> first | (cases h; exact Stat.put (by assumption)) | cases h
theorem xEntryStore_stat {m n x : V} {r : XR} (h : xEntryStore m n x H = some r) : Stat H r.h r.W := by
  unfold xEntryStore at h
  (repeat' split at h) <;> first | (cases h; exact Stat.put (by assumption)) | cases h
theorem xRange_stat {t : TypeId} {x : V} {r : XR} (h : xRange P t x H = some r) : Stat H r.h r.W := by
  unfold xRange at h
  (repeat' split at h) <;> first | (cases h; exact Stat.new H _) | cases h
theorem xEntry_stat {x : V} {r : XR} (h : xEntry x H = some r) : Stat H r.h r.W := by
  unfold xEntry at h
  (repeat' split at h) <;> first | (cases h; exact Stat.refl H) | cases h
theorem xCap_stat {t : TypeId} {x : V} {r : XR} (h : xCap P t x H = some r) : Stat H r.h r.W := by
  unfold xCap at h
  (repeat' split at h) <;> first | (cases h; exact Stat.refl H) | cases h
theorem xSliceData_stat {x : V} {r : XR} (h : xSliceData x H = some r) : Stat H r.h r.W := by
  unfold xSliceData at h
  (repeat' split at h) <;> first | (cases h; exact Stat.refl H) | cases h
theorem xString_stat {t : TypeId} {x n : V} {r : XR} (h : xString P t x n H = some r) : Stat H r.h r.W := by
  unfold xString at h
  (repeat' split at h) <;> first | (cases h; exact Stat.refl H) | (cases h; exact Stat.kill (by assumption)) | cases h
theorem xCopy_stat {dT xT : TypeId} {d x : V} {r : XR} (h : xCopy P dT xT d x H = some r) : Stat H r.h r.W := by
  unfold xCopy at h
  (repeat' split at h) <;> first | (cases h; exact Stat.refl H) | (cases h; exact Stat.put (by assumption)) | cases h
theorem xClear_stat {t : TypeId} {x : V} {r : XR} (h : xClear P t x H = some r) : Stat H r.h r.W := by
  unfold xClear at h
  (repeat' split at h) <;> first | (cases h; exact Stat.refl H) | (cases h; exact Stat.put (by assumption)) | cases h
theorem xGrow_stat {e xT : TypeId} {s x : V} {r : XR} (h : xGrow P e xT s x H = some r) : Stat H r.h r.W := by
  unfold xGrow at h
  (repeat' split at h) <;> first | (cases h; exact Stat.new H _) | cases h

theorem aop_stat {ρ : Operand → V} {o : Op} (hp : (aop P ρ o H).pre) : Stat H (aop P ρ o H).h (aop P ρ o H).W := by
  revert hp
  cases o <;> first | (intro hp; exact hp.elim) | skip
  all_goals unfold aop
  all_goals try dsimp only
  all_goals try unfold aPick
  all_goals try unfold aAlloc
  all_goals try unfold aBox
  all_goals try unfold aBuild
  all_goals try unfold aBuildSlice
  all_goals try unfold aLoad
  all_goals try unfold aStore
  all_goals try unfold aNil
  all_goals try unfold aBin
  all_goals try unfold aUn
  all_goals try unfold aConv
  all_goals try unfold aMakeIface
  all_goals try unfold aAssert
  all_goals try unfold aMakeSlice
  all_goals try unfold aSlice
  all_goals try unfold aFieldAddr
  all_goals try unfold aField
  all_goals try unfold aIndexAddr
  all_goals try unfold aIndex
  all_goals try unfold aExtract
  all_goals try unfold aBuiltin
  all_goals try unfold aLen
  all_goals try unfold aAppend
  all_goals try unfold aMax
  all_goals
    repeat' split
  all_goals first
    | (intro hp; exact hp.elim)
    | (intro _; exact Stat.refl H)
    | (intro _; exact Stat.new H _)
    | (intro _; exact Stat.put (by assumption))
    | (intro _; exact Stat.take (by assumption))
    | (intro hp; exact XR.stat (fun r hr => by rw [(xEq_h hr).1, (xEq_h hr).2]; exact Stat.refl H) hp)
    | (intro hp; exact XR.stat (fun r hr => xConv_stat hr) hp)
    | (intro hp; exact XR.stat (fun r hr => by rw [(xIndexA_h hr).1, (xIndexA_h hr).2]; exact Stat.refl H) hp)
    | (intro hp; exact XR.stat (fun r hr => by rw [(xBuildA_h hr).1, (xBuildA_h hr).2]; exact Stat.refl H) hp)
    | (intro hp; exact XR.stat (fun r hr => by cases hr; exact Stat.new H _) hp)
    | (intro hp; exact XR.stat (fun r hr => xLookup_stat hr) hp)
    | (intro hp; exact XR.stat (fun r hr => xMapUpdate_stat hr) hp)
    | (intro hp; exact XR.stat (fun r hr => xMapEntry_stat hr) hp)
    | (intro hp; exact XR.stat (fun r hr => xEntryStore_stat hr) hp)
    | (intro hp; exact XR.stat (fun r hr => xRange_stat hr) hp)
    | (intro hp; exact XR.stat (fun r hr => xEntry_stat hr) hp)
    | (intro hp; exact XR.stat (fun r hr => xCap_stat hr) hp)
    | (intro hp; exact XR.stat (fun r hr => xCopy_stat hr) hp)
    | (intro hp; exact XR.stat (fun r hr => xClear_stat hr) hp)
    | (intro hp; exact XR.stat (fun r hr => xSliceData_stat hr) hp)
    | (intro hp; exact XR.stat (fun r hr => xString_stat hr) hp)
    | (intro hp; exact XR.stat (fun r hr => xGrow_stat hr) hp)

end
end Go.Ab
