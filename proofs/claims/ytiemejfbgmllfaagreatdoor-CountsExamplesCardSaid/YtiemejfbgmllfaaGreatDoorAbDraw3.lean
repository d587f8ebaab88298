/- A statement whose order is open: its soundness. -/
import Derived.Test.YtiemejfbgmllfaaGreatDoorAbDraw2
namespace Go.Ab

section
variable {P : Program} {base : Nat} {D : Nat → Prop}

/-- An operation that is wanted. -/
theorem wpOp_wanted {ops : Array Oper} {Q : Exit → Act → World → Prop} {i : Nat} {o : Oper} {K : Act → World → Prop} {a : Act} {w : World} (ho : ops[i]? = some o) (hw : Region.wanted o (yielded ops a.tmps) = true)
    (h : o.wp P a w K Q) : wpOp P ops Q i K a w := by
  unfold wpOp
  simp only [ho, hw, if_true]
  exact .inl h

theorem wpOp_unwanted {ops : Array Oper} {Q : Exit → Act → World → Prop} {i : Nat} {o : Oper} {K : Act → World → Prop} {a : Act} {w : World} (ho : ops[i]? = some o) (hw : Region.wanted o (yielded ops a.tmps) = false)
    (h : K (a.put o.dst undef) w) : wpOp P ops Q i K a w := by
  unfold wpOp
  simp only [ho, hw, Bool.false_eq_true, if_false]
  exact h

theorem dst_of {ops : Array Oper} {i : Nat} {o : Oper} (h : ops[i]? = some o) : dstOf ops i = o.dst := by simp [dstOf, h]

/-- What a wanted operation that panics shows. -/
def PanOK (C : Cfg) (P : Program) (ops : Array Oper) (i : Nat) (s : St) (v : V) : Prop :=
  ∀ (g0 : G) (base : Nat) (D : Nat → Prop) (H0 : Hp) (w0 : World) (g : G) (a : Act) (w : World) (K : Out → St → Prop) (Q : Exit → Act → World → Prop) (next : Act → World → Prop), Entry C base D g0 H0 w0 →
    Rel C base D g0 H0 w0 g s a w → (∀ e a w, Aft C base D g0 H0 w0 K e a w → Q e a w) → K (.panic v) s → wpOp P ops Q i next a w

/-- One operation in the order of the text. -/
theorem DStep_ok {C : Cfg} {ops : Array Oper} {o : Oper} {os : List Oper} {i : Nat} {s : St} {acc : List (Nat × Foot)} {K : Out → St → Prop} (hΓ : GoodC P C) (ho : ops[i]? = some o) (h : DRun C P ops (o :: os) i s acc K) :
    (∃ f s' v, DRun C P ops os (i + 1) s' (accF acc i f) K ∧ StepOK C P ops i s s' v f) ∨ (∃ v, (panOK ops i = true ∧ chk ops acc = true ∧ K (.panic v) s) ∧ PanOK C P ops i s v) := by
  have hdst := dst_of ho
  have sem := step1_sem hΓ ops o s.env s.h
  have want0 : o.guard = none → ∀ a : Act, Region.wanted o (yielded ops a.tmps) = true := fun e a => by unfold Region.wanted; rw [e]
  have stp : ∀ (st : Bool) (v : V) (h' : Hp) (f : Foot), StepSem P C.nt ops o s.env s.h st v h' f → wok C f.W = true → (∀ (g : G) (a : Act), OpsRel g C.nt ops o s.env a → Region.wanted o (yielded ops a.tmps) = true) →
      StepOK C P ops i s ((s.put o.dst v).hp h') v f := by
    intro st v h' f hst hw hwant
    refine ⟨by rw [hdst]; rfl, hst.stat, hw, hst.births, ?_⟩
    intro o' ho' g base D w a next Q hI hO hD hn
    obtain rfl := Option.some.inj (ho.symm.trans ho')
    exact wpOp_wanted ho (hwant g a hO) (hst.exec g base D w a next Q hI hO hD hn)
  have unw : ∀ (v : V) (f : Foot), f.W = [] → (∀ g : G, VRel g v undef) → (∀ (g : G) (a : Act), OpsRel g C.nt ops o s.env a → Region.wanted o (yielded ops a.tmps) = false) → StepOK C P ops i s ((s.put o.dst v).hp s.h) v f := by
    intro v f hf hv hwant
    refine ⟨by rw [hdst]; rfl, by rw [hf]; exact Stat.refl _, by rw [hf]; rfl, fun b h1 h2 => by have : b < s.h.next := h2; omega, ?_⟩
    intro o' ho' g base D w a next Q hI hO hD hn
    obtain rfl := Option.some.inj (ho.symm.trans ho')
    refine wpOp_unwanted ho (hwant g a hO) (hn g w undef (hv g) ?_)
    rw [hf]
    exact Post.refl hI rfl rfl rfl rfl
  have pan : ∀ (v : V) (R : List Nat), PanSem P C.nt ops o s.env s.h v R → (∀ (g : G) (a : Act), OpsRel g C.nt ops o s.env a → Region.wanted o (yielded ops a.tmps) = true) → PanOK C P ops i s v := by
    intro v R hst hwant g0 base D H0 w0 g a w K Q next he hr hQ hk
    have hO := hr.env.ops ops o
    refine wpOp_wanted ho (hwant g a hO) ?_
    refine hst g base _ w a _ Q hr.post.inv hO (fun b _ => he.inD b) fun g' w' vc hv hp => ?_
    exact hQ _ _ _ ⟨.panic v, s, g', hk, ⟨vc, hv, rfl⟩, hr.env.mono hp.le, hr.defers, hr.step he hp rfl⟩
  unfold DRun at h
  split at h
  · rename_i hg
    rcases fol_ok sem h with ⟨st, v, h', f, hk, hwk, hst⟩ | ⟨v, R, hk, hst⟩
    · exact .inl ⟨f, _, v, hk, stp st v h' f hst hwk fun g a _ => want0 hg a⟩
    · exact .inr ⟨v, hk, pan v R hst fun g a _ => want0 hg a⟩
  · split at h
    rotate_left; · exact h.elim
    rename_i gb hg
    have hwant : ∀ (g : G) (a : Act), OpsRel g C.nt ops o s.env a → Region.wanted o (yielded ops a.tmps) = gb := fun g a hO => want_of hO.rel hg
    rcases folG_ok sem h with ⟨rfl, st, v, h', f, hk, hwk, hst⟩ | ⟨rfl, v, R, hk, hst⟩ | ⟨rfl, hk⟩ | ⟨v, R, hk, hst⟩
    · exact .inl ⟨f, _, v, hk, stp st v h' f hst hwk hwant⟩
    · exact .inr ⟨v, hk, pan v R hst hwant⟩
    · exact .inl ⟨⟨[], [], 0, 0⟩, _, undefV, hk, unw undefV _ rfl (fun g => VRel.mk_tup rfl PW.nil) hwant⟩
    · cases gb with
      | false => exact .inl ⟨⟨R, [], 0, 0⟩, _, .opt false v, hk, unw _ _ rfl (fun g => opt_undef rfl) hwant⟩
      | true =>
        refine .inl ⟨⟨R, [], 0, 0⟩, _, .opt true v, hk, ?_⟩
        have hst := hst rfl
        refine ⟨by rw [hdst]; rfl, hst.stat, rfl, hst.births, ?_⟩
        intro o' ho' g base D w a next Q hI hO hD hn
        obtain rfl := Option.some.inj (ho.symm.trans ho')
        exact wpOp_wanted ho (hwant g a hO) (hst.exec g base D w a next Q hI hO hD fun g' w' vc hv hp => hn g' w' vc (opt_rel rfl hv) hp)

end
end Go.Ab
