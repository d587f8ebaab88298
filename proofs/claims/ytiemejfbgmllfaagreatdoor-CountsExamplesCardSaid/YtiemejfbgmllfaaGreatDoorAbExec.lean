/- Code over abstract states: triples, what computes them, and the contract of a function from its body's. -/
import Derived.Test.YtiemejfbgmllfaaGreatDoorAbSub
namespace Go.Ab

theorem least (p : Nat → Prop) (h : ∃ n, p n) : ∃ n, p n ∧ ∀ m, p m → n ≤ m := by
  obtain ⟨n, hn⟩ := h
  induction n using Nat.strongRecOn with
  | _ n ih =>
    by_cases hc : ∃ m, m < n ∧ p m
    · obtain ⟨m, h1, h2⟩ := hc; exact ih m h1 h2
    · exact ⟨n, hn, fun m hm => Nat.le_of_not_lt fun hlt => hc ⟨m, hlt, hm⟩⟩

/-- From state s the code comes to an end that K tells of. -/
def AX (C : Cfg) (P : Program) (c : Code) (s : St) (K : Out → St → Prop) : Prop :=
  ∀ (base : Nat) (D : Nat → Prop) (g0 : G) (H0 : Hp) (w0 : World) (g : G) (a : Act) (w : World), Entry C base D g0 H0 w0 → Rel C base D g0 H0 w0 g s a w → c.wp P (Aft C base D g0 H0 w0 K) a w

def Out.norm? : Out → Bool
  | .norm => true
  | _ => false
def OThen (next : St → Prop) (K : Out → St → Prop) : Out → St → Prop
  | .norm, s => next s
  | o, s => K o s
def OBlock (id : Nat) (K : Out → St → Prop) : Out → St → Prop
  | .exit i, s => if i = id then K .norm s else K (.exit i) s
  | o, s => K o s
def OTrim (keep : Nat → Bool) (K : Out → St → Prop) : Out → St → Prop
  | .norm, s => K .norm (s.trim keep)
  | o, s => K o s

variable {C : Cfg} {P : Program} {K K' : Out → St → Prop} {s : St}

theorem AX.mono {c : Code} (h : AX C P c s K) (hk : ∀ o s, K o s → K' o s) : AX C P c s K' := fun base D g0 H0 w0 g a w he r =>
  wp_mono (h base D g0 H0 w0 g a w he r) fun _ _ _ ⟨o, s, g, h1, h2⟩ => ⟨o, s, g, hk o s h1, h2⟩

theorem AX.sub {c : Code} {s' : St} (hs : Sub C s s') (h : AX C P c s' K) : AX C P c s K := fun base D g0 H0 w0 _ a w he r =>
  let ⟨g', r'⟩ := r.sub he hs
  h base D g0 H0 w0 g' a w he r'

theorem AX.skip (h : K .norm s) : AX C P .skip s K := fun _ _ _ _ _ g _ _ _ r => wp_skip ⟨.norm, s, g, h, trivial, r⟩
theorem AX.ret (h : K .ret s) : AX C P .ret s K := fun _ _ _ _ _ g _ _ _ r => wp_ret ⟨.ret, s, g, h, trivial, r⟩
theorem AX.exit {id : Nat} (h : K (.exit id) s) : AX C P (.exit id) s K := fun _ _ _ _ _ g _ _ _ r => wp_exit ⟨.exit id, s, g, h, rfl, r⟩

theorem AX.seq {x y : Code} (h : AX C P x s (OThen (fun s => AX C P y s K) K)) : AX C P (.seq x y) s K := fun base D g0 H0 w0 g a w he r =>
  wp_seq (wp_mono (h base D g0 H0 w0 g a w he r) fun e a w ⟨o, s, g, h1, h2, h3⟩ => by
    cases o <;> cases e <;> first | exact h2.elim | skip
    · exact h1 base D g0 H0 w0 g a w he h3
    · exact ⟨_, s, g, h1, h2, h3⟩
    · exact ⟨_, s, g, h1, h2, h3⟩
    · exact ⟨_, s, g, h1, h2, h3⟩)

theorem AX.block {id : Nat} {x : Code} (h : AX C P x s (OBlock id K)) : AX C P (.block id x) s K := fun base D g0 H0 w0 g a w he r =>
  wp_block (wp_mono (h base D g0 H0 w0 g a w he r) fun e a w ⟨o, s, g, h1, h2, h3⟩ => by
    cases o <;> cases e <;> first | exact h2.elim | skip
    · exact ⟨_, s, g, h1, h2, h3⟩
    · rename_i i j _
      obtain rfl : i = j := h2
      show (if i = id then _ else _)
      simp only [OBlock] at h1
      split
      · rename_i hi; rw [if_pos hi] at h1; exact ⟨.norm, s, g, h1, trivial, h3⟩
      · rename_i hi; rw [if_neg hi] at h1; exact ⟨.exit i, s, g, h1, rfl, h3⟩
    · exact ⟨_, s, g, h1, h2, h3⟩
    · exact ⟨_, s, g, h1, h2, h3⟩)

theorem AX.cond {c : Operand} {x y : Code} {b : Bool} (hb : ev s.env c = .bool b) (h : if b = true then AX C P x s K else AX C P y s K) : AX C P (.cond c x y) s K := fun base D g0 H0 w0 g a w he r => by
  have hr := r.env.ev c
  rw [hb] at hr
  have hc := hr.inv_bool
  cases b with
  | true => exact wp_cond hc (h base D g0 H0 w0 g a w he r)
  | false => exact wp_cond hc (h base D g0 H0 w0 g a w he r)

theorem AX.loop {x : Code} {ι : Type} (inv : ι → St) (p : ι → Prop) (m : ι → Nat) (i0 : ι) (h0 : p i0) (hs : Sub C s (inv i0))
    (h : ∀ i, p i → AX C P x (inv i) (OThen (fun s' => ∃ j, p j ∧ m j < m i ∧ Sub C s' (inv j)) K)) : AX C P (.loop x) s K := fun base D g0 H0 w0 g a w he r => by
  obtain ⟨g1, r1⟩ := r.sub he hs
  -- the invariant with its measure
  let I : Nat → Act → World → Prop := fun n a w => ∃ i g, p i ∧ m i = n ∧ Rel C base D g0 H0 w0 g (inv i) a w
  have key : ∀ n a w, I n a w → (Code.loop x).wp P (Aft C base D g0 H0 w0 K) a w := by
    intro n a w hI
    classical
    refine wp_loop (fun a w => ∃ n, I n a w) (fun a w => if h : ∃ n, I n a w then Classical.choose (least (fun n => I n a w) h) else 0) ⟨n, hI⟩ ?_
    intro a w hE
    have hf := (Classical.choose_spec (least (fun n => I n a w) hE)).1
    obtain ⟨i, g, hp, hmi, hr⟩ := hf
    refine wp_mono (h i hp base D g0 H0 w0 g a w he hr) fun e a' w' ⟨o, s, g, h1, h2, h3⟩ => ?_
    cases o <;> cases e <;> first | exact h2.elim | skip
    · obtain ⟨j, hpj, hlt, hsub⟩ := h1
      obtain ⟨g', r'⟩ := h3.sub he hsub
      have hj : I (m j) a' w' := ⟨j, g', hpj, rfl, r'⟩
      refine ⟨⟨_, hj⟩, ?_⟩
      rw [dif_pos ⟨_, hj⟩, dif_pos hE]
      have := (Classical.choose_spec (least (fun n => I n a' w') ⟨_, hj⟩)).2 _ hj
      omega
    · exact ⟨_, s, g, h1, h2, h3⟩
    · exact ⟨_, s, g, h1, h2, h3⟩
    · exact ⟨_, s, g, h1, h2, h3⟩
  exact key _ a w ⟨i0, g1, h0, rfl, r1⟩

/-! ### Regions -/

/-- Every temporary that is written is one of the function's; every region whose order is open has been looked at. -/
def opsOK (nt : Nat) (os : List Oper) : Bool := os.all fun o => match o.dst with | some d => decide (d < nt) | none => true
def codeOK (nt : Nat) : Code → Bool
  | .region _ ops d => opsOK nt ops.toList && (!d || drawOK ops)
  | .seq a b => codeOK nt a && codeOK nt b
  | .cond _ a b => codeOK nt a && codeOK nt b
  | .block _ a => codeOK nt a
  | .loop a => codeOK nt a
  | _ => true

theorem opsOK_dst {nt : Nat} {os : List Oper} (h : opsOK nt os = true) : ∀ o ∈ os, ∀ d, o.dst = some d → d < nt := fun o ho d e => by
  have := List.all_eq_true.1 h o ho
  rw [e] at this
  simpa using this

theorem AX.region {id : Nat} {ops : Array Oper} (hΓ : GoodC P C) (hok : opsOK C.nt ops.toList = true) (h : ARun C P ops ops.toList s (OTrim C.keep K)) : AX C P (.region id ops false) s K := fun base D g0 H0 w0 g a w he r => by
  refine wp_region ?_
  have hq : ∀ e a w, Aft C base D g0 H0 w0 (OTrim C.keep K) e a w → Aft C base D g0 H0 w0 K e a w := fun e a w ⟨o, s, g, h1, h2, h3⟩ => by
    cases o with
    | norm => exact ⟨.norm, s.trim C.keep, g, h1, h2, h3.env.trim C.keep, h3.defers, h3.post⟩
    | exit i => exact ⟨_, s, g, h1, h2, h3⟩
    | ret => exact ⟨_, s, g, h1, h2, h3⟩
    | panic v => exact ⟨_, s, g, h1, h2, h3⟩
  have := ARun_ok he hΓ (opsOK_dst hok) (Aft C base D g0 H0 w0 K) hq ops.toList 0 rfl s g a w r h
  rw [List.range_eq_range']
  simpa using this

theorem AX.drawEnd {id : Nat} {ops : Array Oper} (hm : P.follows .mixedOrders = true) (hok : opsOK C.nt ops.toList = true) (hdr : drawOK ops = true)
    (h : (∀ b x, s.h.get b = some x → b < s.h.next) → ∃ m S v f, DEnd C P ops s (OTrim C.keep K) m S v f) :
    AX C P (.region id ops true) s K := fun base D g0 H0 w0 g a w he r => by
  obtain ⟨m, S, v, f, T⟩ := h r.post.inv.keys
  refine wp_region_any hm ?_
  have hp : Post g g base s.h s.h (fun b => D b ∨ H0.next ≤ b) [] w { w with drawn := w.drawn + 1 } := Post.refl r.post.inv rfl rfl rfl rfl
  have r' : Rel C base D g0 H0 w0 g s a { w with drawn := w.drawn + 1 } := ⟨r.env, r.defers, r.step he hp rfl⟩
  refine draw_ok he T hdr (opsOK_dst hok) r' _ fun e a w ⟨o, s, g, h1, h2, h3⟩ => ?_
  cases o with
  | norm => exact ⟨.norm, s.trim C.keep, g, h1, h2, h3.env.trim C.keep, h3.defers, h3.post⟩
  | exit i => exact ⟨_, s, g, h1, h2, h3⟩
  | ret => exact ⟨_, s, g, h1, h2, h3⟩
  | panic v => exact ⟨_, s, g, h1, h2, h3⟩

theorem AX.draw {id : Nat} {ops : Array Oper} (hm : P.follows .mixedOrders = true) (hΓ : GoodC P C) (hok : opsOK C.nt ops.toList = true) (hdr : drawOK ops = true) (h : DRun C P ops ops.toList 0 s [] (OTrim C.keep K)) :
    AX C P (.region id ops true) s K := AX.drawEnd hm hok hdr fun hk => by
  obtain ⟨m, S, v, f, acc', T⟩ := DRun_spec hΓ ops.toList 0 (Nat.zero_le _) rfl s [] h
  exact ⟨m, S, v, f, T.toEnd hdr hk (opsOK_dst hok)⟩

/-- Code that ends with a loop. -/
def isLoop : Code → Bool
  | .loop _ => true
  | .block _ x => isLoop x
  | .seq _ y => isLoop y
  | .cond _ x y => isLoop x || isLoop y
  | _ => false
/-- What can be computed of code; loops are left as they are, and so is what stands behind them. -/
def AXf (C : Cfg) (P : Program) : Code → St → (Out → St → Prop) → Prop
  | .skip, s, K => K .norm s
  | .ret, s, K => K .ret s
  | .exit id, s, K => K (.exit id) s
  | .seq x y, s, K => AXf C P x s (OThen (fun s => if isLoop x = true then AX C P y s K else AXf C P y s K) K)
  | .block id x, s, K => AXf C P x s (OBlock id K)
  | .cond c x y, s, K =>
    match ev s.env c with
    | .bool b => if b = true then AXf C P x s K else AXf C P y s K
    | _ => False
  | .region _ ops false, s, K => ARun C P ops ops.toList s (OTrim C.keep K)
  | .region _ ops true, s, K => DRun C P ops ops.toList 0 s [] (OTrim C.keep K)
  | .loop x, s, K => AX C P (.loop x) s K
  | _, _, _ => False

theorem AXf_ok (hm : P.follows .mixedOrders = true) (hΓ : GoodC P C) : ∀ (c : Code) (s : St) (K : Out → St → Prop), codeOK C.nt c = true → AXf C P c s K → AX C P c s K
  | .skip, _, _, _, h => AX.skip h
  | .ret, _, _, _, h => AX.ret h
  | .exit _, _, _, _, h => AX.exit h
  | .seq x y, s, K, hc, h => by
    simp only [codeOK, Bool.and_eq_true] at hc
    refine AX.seq ((AXf_ok hm hΓ x s _ hc.1 h).mono fun o s' hk => ?_)
    cases o with
    | norm =>
      have hk' : if isLoop x = true then AX C P y s' K else AXf C P y s' K := hk
      split at hk'
      · exact hk'
      · exact AXf_ok hm hΓ y s' K hc.2 hk'
    | exit i => exact hk
    | ret => exact hk
    | panic v => exact hk
  | .block id x, s, K, hc, h => AX.block (AXf_ok hm hΓ x s _ hc h)
  | .cond c x y, s, K, hc, h => by
    simp only [codeOK, Bool.and_eq_true] at hc
    unfold AXf at h
    split at h
    · rename_i b hb
      refine AX.cond hb ?_
      split
      · rename_i ht; rw [if_pos ht] at h; exact AXf_ok hm hΓ x s K hc.1 h
      · rename_i ht; rw [if_neg ht] at h; exact AXf_ok hm hΓ y s K hc.2 h
    · exact h.elim
  | .region _ ops false, s, K, hc, h => by
    simp only [codeOK, Bool.and_eq_true] at hc
    exact AX.region hΓ hc.1 h
  | .region _ ops true, s, K, hc, h => by
    simp only [codeOK, Bool.and_eq_true, Bool.not_true, Bool.false_or] at hc
    exact AX.draw hm hΓ hc.1 hc.2 h
  | .loop _, _, _, _, h => h
  | .rangeFunc .., _, _, _, h => h.elim
  | .scope _, _, _, _, h => h.elim
  | .label _, _, _, _, h => h.elim
  | .goto _, _, _, _, h => h.elim
  | .refuse _, _, _, _, h => h.elim

end Go.Ab
