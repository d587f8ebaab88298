/- How simp is to walk: small rewrite rules, one an operation; what is looked into first, what is left alone. -/
import Derived.Test.YtfilkkmcagndlaaGreatDoorAbCall
import Derived.Tactics
set_option linter.unusedSimpArgs false
set_option linter.unusedVariables false
set_option linter.all false
namespace Go.Ab
variable {C : Cfg} {P : Program}
def lookE : Env → Nat → V
  | [], _ => .any
  | (k, v) :: r, t => bif t == k then v else lookE r t
theorem lookE_nil (t : Nat) : lookE [] t = .any := rfl
theorem lookE_cons (k : Nat) (v : V) (r : Env) (t : Nat) : lookE ((k, v) :: r) t = bif t == k then v else lookE r t := rfl
theorem lookE_eq : ∀ (env : Env) (t : Nat), (env.lookup t).getD .any = lookE env t
  | [], _ => rfl
  | (k, v) :: r, t => by
    rw [List.lookup_cons, lookE_cons, ← lookE_eq r t]
    cases t == k <;> rfl
theorem ev_tmp (env : Env) (t : Nat) : ev env (.tmp t) = lookE env t := lookE_eq env t
theorem ev_const (env : Env) (v : Value) : ev env (.const v) = cv v := rfl
theorem ev_func (env : Env) (f : FuncId) : ev env (.func f) = .fn f [] := rfl
theorem ev_global (env : Env) (k : Nat) : ev env (.global k) = (match GL k with | some cs => .fp cs | none => .any) := rfl
theorem cv_bool (b : Bool) : cv (.bool b) = .bool b := rfl
theorem cv_int (k : IntKind) (n : Int) : cv (.int k n) = .int k n := rfl
theorem cv_str (l : List UInt8) : cv (.string ⟨l.toArray⟩) = .str l := rfl
theorem cv_nilS : cv (.slice none 0 0) = .nilS := rfl
theorem cv_nilP : cv (.pointer none) = .nilP := rfl
theorem cv_nilM : cv (.map none) = .nilM := rfl
theorem cv_nilF : cv .nilFunc = .nilF := rfl
theorem cv_nilI : cv .nilIface = .nilI := rfl
theorem cv_agg (cs : List Value) : cv (.agg cs.toArray) = .agg (cs.map cv1) := rfl
theorem cv_tup (cs : List Value) : cv (.tuple cs.toArray) = .tup (cs.map cv1) := rfl
theorem cv1_bool (b : Bool) : cv1 (.bool b) = .bool b := rfl
theorem cv1_int (k : IntKind) (n : Int) : cv1 (.int k n) = .int k n := rfl
theorem cv1_str (l : List UInt8) : cv1 (.string ⟨l.toArray⟩) = .str l := rfl
theorem cv1_nilS : cv1 (.slice none 0 0) = .nilS := rfl
theorem cv1_nilP : cv1 (.pointer none) = .nilP := rfl
theorem cv1_nilM : cv1 (.map none) = .nilM := rfl
theorem cv1_nilF : cv1 .nilFunc = .nilF := rfl
theorem cv1_nilI : cv1 .nilIface = .nilI := rfl
theorem vc_bool (b : Bool) : V.cond (.bool b) = True := rfl
theorem vc_int (k : IntKind) (n : Int) : V.cond (.int k n) = True := rfl
theorem vc_str (l : List UInt8) : V.cond (.str l) = True := rfl
theorem vc_nilS : V.cond .nilS = True := rfl
theorem vc_sl (b o l s : Nat) (k : Option Nat) : V.cond (.sl b o l s k) = True := rfl
theorem vc_fs (cs : List V) (n : Nat) : V.cond (.fs cs n) = True := rfl
theorem vc_nilP : V.cond .nilP = True := rfl
theorem vc_ptr (b o : Nat) : V.cond (.ptr b o) = True := rfl
theorem vc_fp (cs : List V) : V.cond (.fp cs) = True := rfl
theorem vc_nilM : V.cond .nilM = True := rfl
theorem vc_map (b : Nat) : V.cond (.map b) = True := rfl
theorem vc_fn (f : FuncId) (cs : List V) : V.cond (.fn f cs) = True := rfl
theorem vc_nilF : V.cond .nilF = True := rfl
theorem vc_ifc (t : TypeId) (v : V) : V.cond (.ifc t v) = True := rfl
theorem vc_nilI : V.cond .nilI = True := rfl
theorem vc_agg (cs : List V) : V.cond (.agg cs) = True := rfl
theorem vc_tup (cs : List V) : V.cond (.tup cs) = True := rfl
theorem vc_any : V.cond .any = True := rfl
theorem vc_opt (b : Bool) (v : V) : V.cond (.opt b v) = (b = true) := rfl
theorem vv_bool (b : Bool) : V.val (.bool b) = .bool b := rfl
theorem vv_int (k : IntKind) (n : Int) : V.val (.int k n) = .int k n := rfl
theorem vv_str (l : List UInt8) : V.val (.str l) = .str l := rfl
theorem vv_nilS : V.val .nilS = .nilS := rfl
theorem vv_sl (b o l s : Nat) (k : Option Nat) : V.val (.sl b o l s k) = .sl b o l s k := rfl
theorem vv_fs (cs : List V) (n : Nat) : V.val (.fs cs n) = .fs cs n := rfl
theorem vv_nilP : V.val .nilP = .nilP := rfl
theorem vv_ptr (b o : Nat) : V.val (.ptr b o) = .ptr b o := rfl
theorem vv_fp (cs : List V) : V.val (.fp cs) = .fp cs := rfl
theorem vv_nilM : V.val .nilM = .nilM := rfl
theorem vv_map (b : Nat) : V.val (.map b) = .map b := rfl
theorem vv_fn (f : FuncId) (cs : List V) : V.val (.fn f cs) = .fn f cs := rfl
theorem vv_nilF : V.val .nilF = .nilF := rfl
theorem vv_ifc (t : TypeId) (v : V) : V.val (.ifc t v) = .ifc t v := rfl
theorem vv_nilI : V.val .nilI = .nilI := rfl
theorem vv_agg (cs : List V) : V.val (.agg cs) = .agg cs := rfl
theorem vv_tup (cs : List V) : V.val (.tup cs) = .tup cs := rfl
theorem vv_any : V.val .any = .any := rfl
theorem vv_opt (b : Bool) (v : V) : V.val (.opt b v) = v := rfl
def delE (t : Nat) (env : Env) : Env := env.filter fun p => p.1 != t
theorem delE_nil (t : Nat) : delE t [] = [] := rfl
theorem delE_cons (t k : Nat) (v : V) (r : Env) : delE t ((k, v) :: r) = bif k == t then delE t r else (k, v) :: delE t r := by
  unfold delE
  rw [List.filter_cons]
  by_cases h : k = t
  · subst h; simp
  · have h1 : (k == t) = false := by simp [h]
    have h2 : (k != t) = true := by simp [h]
    simp [h1]
    intro e; exact absurd e h
theorem trimE_nil (keep : Nat → Bool) : trimE keep [] = [] := rfl
theorem trimE_cons (keep : Nat → Bool) (t : Nat) (v : V) (r : Env) : trimE keep ((t, v) :: r) = bif keep t then (t, v) :: delE t (trimE keep r) else trimE keep r := by
  rw [trimE]
  cases keep t <;> rfl
def keepL : List Nat → Nat → Bool
  | [], _ => false
  | k :: r, t => (t == k) || keepL r t
theorem keepL_nil (t : Nat) : keepL [] t = false := rfl
theorem keepL_cons (k : Nat) (r : List Nat) (t : Nat) : keepL (k :: r) t = ((t == k) || keepL r t) := rfl
theorem trim_mk (keep : Nat → Bool) (env : Env) (h : Hp) : St.trim ⟨env, h⟩ keep = ⟨trimE keep env, h⟩ := rfl
def lookB : List (Nat × Blk) → Nat → Option Blk
  | [], _ => none
  | (k, x) :: r, b => bif b == k then some x else lookB r b
theorem lookB_nil (b : Nat) : lookB [] b = none := rfl
theorem lookB_cons (k : Nat) (x : Blk) (r : List (Nat × Blk)) (b : Nat) : lookB ((k, x) :: r) b = bif b == k then some x else lookB r b := rfl
theorem lookB_eq : ∀ (bs : List (Nat × Blk)) (b : Nat), bs.lookup b = lookB bs b
  | [], _ => rfl
  | (k, v) :: r, b => by
    rw [List.lookup_cons, lookB_cons, ← lookB_eq r b]
    cases b == k <;> rfl
theorem get_mk (bs : List (Nat × Blk)) (n b : Nat) : Hp.get ⟨bs, n⟩ b = lookB bs b := lookB_eq bs b
def putB : List (Nat × Blk) → Nat → Blk → List (Nat × Blk)
  | [], _, _ => []
  | (k, y) :: r, b, x => (bif k == b then (k, x) else (k, y)) :: putB r b x
theorem putB_nil (b : Nat) (x : Blk) : putB [] b x = [] := rfl
theorem putB_cons (k : Nat) (y : Blk) (r : List (Nat × Blk)) (b : Nat) (x : Blk) : putB ((k, y) :: r) b x = (bif k == b then (k, x) else (k, y)) :: putB r b x := rfl
theorem putB_eq : ∀ (bs : List (Nat × Blk)) (b : Nat) (x : Blk), (bs.map fun p => if p.1 == b then (p.1, x) else p) = putB bs b x
  | [], _, _ => rfl
  | (k, v) :: r, b, x => by
    rw [List.map_cons, putB_cons, putB_eq r b x]
    cases h : k == b <;> simp_all
theorem put_mk (bs : List (Nat × Blk)) (n b : Nat) (x : Blk) : Hp.put ⟨bs, n⟩ b x = ⟨putB bs b x, n⟩ := by rw [← putB_eq]; rfl
def killB : List (Nat × Blk) → Nat → List (Nat × Blk)
  | [], _ => []
  | (k, y) :: r, b => bif k == b then killB r b else (k, y) :: killB r b
theorem killB_nil (b : Nat) : killB [] b = [] := rfl
theorem killB_cons (k : Nat) (y : Blk) (r : List (Nat × Blk)) (b : Nat) : killB ((k, y) :: r) b = bif k == b then killB r b else (k, y) :: killB r b := rfl
theorem killB_eq : ∀ (bs : List (Nat × Blk)) (b : Nat), (bs.filter fun p => p.1 != b) = killB bs b
  | [], _ => rfl
  | (k, v) :: r, b => by
    rw [List.filter_cons, killB_cons, ← killB_eq r b]
    cases h : k == b <;> simp_all
theorem kill_mk (bs : List (Nat × Blk)) (n b : Nat) : Hp.kill ⟨bs, n⟩ b = ⟨killB bs b, n⟩ := by rw [← killB_eq]; rfl
theorem new_mk (bs : List (Nat × Blk)) (n : Nat) (x : Blk) : Hp.new ⟨bs, n⟩ x = ⟨(n, x) :: bs, n + 1⟩ := rfl
inductive Fr where
  | seq (y : Code)
  | sem (y : Code)
  | block (id : Nat)
def unst (C : Cfg) (P : Program) (K : Out → St → Prop) : List Fr → Out → St → Prop
  | [] => K
  | .seq y :: st => OThen (fun s => AXf C P y s (unst C P K st)) (unst C P K st)
  | .sem y :: st => OThen (fun s => AX C P y s (unst C P K st)) (unst C P K st)
  | .block i :: st => OBlock i (unst C P K st)
theorem unst_panic (K : Out → St → Prop) (v : V) (s : St) : ∀ st, unst C P K st (.panic v) s = K (.panic v) s
  | [] => rfl
  | .seq _ :: st => unst_panic K v s st
  | .sem _ :: st => unst_panic K v s st
  | .block _ :: st => unst_panic K v s st
def AXs (C : Cfg) (P : Program) (K : Out → St → Prop) (st : List Fr) (c : Code) (env : Env) (h : Hp) : Prop := AXf C P c ⟨env, h⟩ (unst C P K st)
def AXc (C : Cfg) (P : Program) (K : Out → St → Prop) (st : List Fr) (x y : Code) (b : V) (env : Env) (h : Hp) : Prop :=
  match b with
  | .bool b => if b = true then AXs C P K st x env h else AXs C P K st y env h
  | _ => False
def AXt (C : Cfg) (P : Program) (K : Out → St → Prop) (st : List Fr) (env : Env) (h : Hp) : Prop := AXs C P K st .skip env h
def AXr (C : Cfg) (P : Program) (K : Out → St → Prop) (st : List Fr) (ops : Array Oper) (os : List Oper) (env : Env) (h : Hp) : Prop := ARun C P ops os ⟨env, h⟩ (OTrim C.keep (unst C P K st))
def AXf1 (C : Cfg) (P : Program) (K : Out → St → Prop) (st : List Fr) (ops : Array Oper) (os : List Oper) (d : Option Tmp) (r : SR) (env : Env) (h : Hp) : Prop :=
  fol C r (fun v h' _ => ARun C P ops os (((⟨env, h⟩ : St).put d v).hp h') (OTrim C.keep (unst C P K st))) (fun v => OTrim C.keep (unst C P K st) (.panic v) ⟨env, h⟩)
def AXg1 (C : Cfg) (P : Program) (K : Out → St → Prop) (st : List Fr) (ops : Array Oper) (os : List Oper) (d : Option Tmp) (gb : Option Bool) (r : SR) (env : Env) (h : Hp) : Prop :=
  match gb with
  | some gb => folG C gb r h (fun v h' _ => ARun C P ops os (((⟨env, h⟩ : St).put d v).hp h') (OTrim C.keep (unst C P K st))) (fun v => OTrim C.keep (unst C P K st) (.panic v) ⟨env, h⟩)
  | none => False
def AXd (C : Cfg) (P : Program) (K : Out → St → Prop) (st : List Fr) (ops : Array Oper) (os : List Oper) (i : Nat) (acc : List (Nat × Foot)) (env : Env) (h : Hp) : Prop := DRun C P ops os i ⟨env, h⟩ acc (OTrim C.keep (unst C P K st))
def AXf2 (C : Cfg) (P : Program) (K : Out → St → Prop) (st : List Fr) (ops : Array Oper) (os : List Oper) (i : Nat) (d : Option Tmp) (r : SR) (acc : List (Nat × Foot)) (env : Env) (h : Hp) : Prop :=
  fol C r (fun v h' f => DRun C P ops os (i + 1) (((⟨env, h⟩ : St).put d v).hp h') (accF acc i f) (OTrim C.keep (unst C P K st))) (fun v => panOK ops i = true ∧ chk ops acc = true ∧ OTrim C.keep (unst C P K st) (.panic v) ⟨env, h⟩)
def AXg2 (C : Cfg) (P : Program) (K : Out → St → Prop) (st : List Fr) (ops : Array Oper) (os : List Oper) (i : Nat) (d : Option Tmp) (gb : Option Bool) (r : SR) (acc : List (Nat × Foot)) (env : Env) (h : Hp) : Prop :=
  match gb with
  | some gb => folG C gb r h (fun v h' f => DRun C P ops os (i + 1) (((⟨env, h⟩ : St).put d v).hp h') (accF acc i f) (OTrim C.keep (unst C P K st))) (fun v => panOK ops i = true ∧ chk ops acc = true ∧ OTrim C.keep (unst C P K st) (.panic v) ⟨env, h⟩)
  | none => False
def AXk (C : Cfg) (P : Program) (K : Out → St → Prop) (st : List Fr) (ops : Array Oper) (acc : List (Nat × Foot)) (env : Env) (h : Hp) : Prop := chk ops acc = true ∧ AXt C P K st (trimE C.keep env) h
variable {K : Out → St → Prop} {st : List Fr} {ops : Array Oper} {os : List Oper} {env : Env} {h : Hp}
@[congr] theorem AXs_congr {c : Code} {env' : Env} {h' : Hp} (e : env = env') (e' : h = h') : AXs C P K st c env h = AXs C P K st c env' h' := by rw [e, e']
@[congr] theorem AXc_congr {x y : Code} {b b' : V} {env' : Env} {h' : Hp} (eb : b = b') (e : env = env') (e' : h = h') : AXc C P K st x y b env h = AXc C P K st x y b' env' h' := by rw [eb, e, e']
@[congr] theorem AXt_congr {env' : Env} {h' : Hp} (e : env = env') (e' : h = h') : AXt C P K st env h = AXt C P K st env' h' := by rw [e, e']
@[congr] theorem AXf1_congr {d : Option Tmp} {r r' : SR} (e : r = r') : AXf1 C P K st ops os d r env h = AXf1 C P K st ops os d r' env h := by rw [e]
@[congr] theorem AXg1_congr {d : Option Tmp} {gb gb' : Option Bool} {r r' : SR} (eb : gb = gb') (e : r = r') : AXg1 C P K st ops os d gb r env h = AXg1 C P K st ops os d gb' r' env h := by rw [e, eb]
@[congr] theorem AXf2_congr {i : Nat} {d : Option Tmp} {r r' : SR} {acc : List (Nat × Foot)} (e : r = r') : AXf2 C P K st ops os i d r acc env h = AXf2 C P K st ops os i d r' acc env h := by rw [e]
@[congr] theorem AXg2_congr {i : Nat} {d : Option Tmp} {gb gb' : Option Bool} {r r' : SR} {acc : List (Nat × Foot)} (eb : gb = gb') (e : r = r') : AXg2 C P K st ops os i d gb r acc env h = AXg2 C P K st ops os i d gb' r' acc env h := by rw [e, eb]
@[congr] theorem AXk_congr {acc acc' : List (Nat × Foot)} (ea : acc = acc') : AXk C P K st ops acc env h = AXk C P K st ops acc' env h := by rw [ea]
theorem AXs.of {c : Code} {s : St} (h : AXs C P K [] c s.env s.h) : AXf C P c s K := h
def AXp (C : Cfg) (P : Program) (K : Out → St → Prop) (st : List Fr) (x y : Code) (b : Bool) (env : Env) (h : Hp) : Prop := AXs C P K ((if b = true then .sem y else .seq y) :: st) x env h
theorem axs_seq (x y : Code) : AXs C P K st (.seq x y) env h = AXp C P K st x y (isLoop x) env h := by
  unfold AXp AXs
  rw [AXf]
  cases isLoop x <;> rfl
theorem axp_false (x y : Code) : AXp C P K st x y false env h = AXs C P K (.seq y :: st) x env h := rfl
theorem axp_true (x y : Code) : AXp C P K st x y true env h = AXs C P K (.sem y :: st) x env h := rfl
theorem isLoop_loop (x : Code) : isLoop (.loop x) = true := rfl
theorem isLoop_block (i : Nat) (x : Code) : isLoop (.block i x) = isLoop x := rfl
theorem isLoop_seq (x y : Code) : isLoop (.seq x y) = isLoop y := rfl
theorem isLoop_cond (c : Operand) (x y : Code) : isLoop (.cond c x y) = (isLoop x || isLoop y) := rfl
theorem isLoop_region (i : Nat) (o : Array Oper) (d : Bool) : isLoop (.region i o d) = false := rfl
theorem isLoop_skip : isLoop .skip = false := rfl
theorem isLoop_ret : isLoop .ret = false := rfl
theorem isLoop_exit (i : Nat) : isLoop (.exit i) = false := rfl
def AXa (C : Cfg) (P : Program) (K : Out → St → Prop) (st : List Fr) (y : Code) (env : Env) (h : Hp) : Prop := AX C P y ⟨env, h⟩ (unst C P K st)
theorem axs_skip_sem (y : Code) : AXs C P K (.sem y :: st) .skip env h = AXa C P K st y env h := rfl
theorem axs_exit_sem (i : Nat) (y : Code) : AXs C P K (.sem y :: st) (.exit i) env h = AXs C P K st (.exit i) env h := rfl
theorem axs_ret_sem (y : Code) : AXs C P K (.sem y :: st) .ret env h = AXs C P K st .ret env h := rfl
theorem AXa.go {y : Code} (hm : P.follows .mixedOrders = true) (hΓ : ∀ f args r, C.Γ f args = some r → PCall P f args r) (hΔ : ∀ f args H r, C.Δ f args H = some r → HCall P f args H r) (hok : codeOK C.nt y = true) (hx : AXs C P K st y env h) : AXa C P K st y env h :=
  AXf_ok hm ⟨hΓ, hΔ⟩ y _ _ hok hx
theorem AXa.sub {y : Code} {env' : Env} {h' : Hp} (hs : Sub C ⟨env, h⟩ ⟨env', h'⟩) (hx : AXa C P K st y env' h') : AXa C P K st y env h := AX.sub hs hx
theorem AXa.freeze {y : Code} {env' : Env} {h' : Hp} {F : Nat → Prop} (hW : C.Wm = []) (hs : Fz C.nx F ⟨env, h⟩ ⟨env', h'⟩) (hx : AXa C P K st y env' h') : AXa C P K st y env h := AX.freeze hW hs hx
theorem axs_block (i : Nat) (x : Code) : AXs C P K st (.block i x) env h = AXs C P K (.block i :: st) x env h := rfl
theorem axs_skip_seq (y : Code) : AXs C P K (.seq y :: st) .skip env h = AXs C P K st y env h := rfl
theorem axs_skip_block (i : Nat) : AXs C P K (.block i :: st) .skip env h = AXs C P K st .skip env h := rfl
theorem axs_skip_nil : AXs C P K [] .skip env h = K .norm ⟨env, h⟩ := rfl
theorem axs_exit_seq (i : Nat) (y : Code) : AXs C P K (.seq y :: st) (.exit i) env h = AXs C P K st (.exit i) env h := rfl
theorem axs_exit_block (i j : Nat) : AXs C P K (.block j :: st) (.exit i) env h = if i = j then AXs C P K st .skip env h else AXs C P K st (.exit i) env h := rfl
theorem axs_exit_nil (i : Nat) : AXs C P K [] (.exit i) env h = K (.exit i) ⟨env, h⟩ := rfl
theorem axs_ret_seq (y : Code) : AXs C P K (.seq y :: st) .ret env h = AXs C P K st .ret env h := rfl
theorem axs_ret_block (i : Nat) : AXs C P K (.block i :: st) .ret env h = AXs C P K st .ret env h := rfl
theorem axs_ret_nil : AXs C P K [] .ret env h = K .ret ⟨env, h⟩ := rfl
theorem axs_cond (c : Operand) (x y : Code) : AXs C P K st (.cond c x y) env h = AXc C P K st x y (ev env c) env h := by
  unfold AXs AXc AXf; rfl
def AXm (C : Cfg) (P : Program) (K : Out → St → Prop) (st : List Fr) (os : List Oper) (n : Option (Option Tmp × Operand × List Oper)) (env : Env) (h : Hp) : Prop := ARunN C P ⟨os⟩ n ⟨env, h⟩ (OTrim C.keep (unst C P K st))
def AXw (C : Cfg) (P : Program) (K : Out → St → Prop) (st : List Fr) (ops : Array Oper) (os : List Oper) (d : Option Tmp) (c : Prop) (x : V) (env : Env) (h : Hp) : Prop := ANext C P ops os d c (xNext x h) ⟨env, h⟩ (OTrim C.keep (unst C P K st))
def AXl (C : Cfg) (P : Program) (K : Out → St → Prop) (st : List Fr) (os : List Oper) (n : Option (Nat × Op × Nat)) (env : Env) (h : Hp) : Prop := DRunN C P ⟨os⟩ n ⟨env, h⟩ (OTrim C.keep (unst C P K st))
def AXe (C : Cfg) (P : Program) (K : Out → St → Prop) (st : List Fr) (ops : Array Oper) (i0 : Nat) (op0 : Op) (j0 : Nat) (os : List Oper) (i : Nat) (acc : List (Nat × Foot)) (r : Option LK) (env : Env) (h : Hp) : Prop :=
  DRunL C P ops i0 op0 j0 os i ⟨env, h⟩ acc r (OTrim C.keep (unst C P K st))
def lateA (b : Bool) (W : List Nat) (h' h : Hp) : Prop := match b with | true => W = [] ∧ h' = h | false => True
def lateB1 (b : Bool) (C : Cfg) (P : Program) (op0 : Op) (r : Option LK) (h : Hp) (f : Foot) : Prop := match b with | true => (match r with | some r => LateOb C P op0 r h f | none => False) | false => True
def lateR (b : Bool) (env : Env) (h : Hp) (v : V) (f : Foot) (r : Option LK) : Option LK := match b with | true => some ⟨⟨env, h⟩, v, f⟩ | false => r
theorem axs_run (i : Nat) (os : List Oper) : AXs C P K st (.region i ⟨os⟩ false) env h = AXm C P K st os (nextOf os) env h := rfl
theorem axs_draw (i : Nat) (os : List Oper) : AXs C P K st (.region i ⟨os⟩ true) env h = AXl C P K st os (latePair os) env h := rfl
theorem axm_none : AXm C P K st os none env h = AXr C P K st ⟨os⟩ os env h := rfl
theorem axm_some (d : Option Tmp) (it : Operand) (r : List Oper) : AXm C P K st os (some (d, it, r)) env h = AXw C P K st ⟨os⟩ r d (ev env it).cond (rho env it) env h := rfl
theorem axl_none : AXl C P K st os none env h = AXd C P K st ⟨os⟩ os 0 [] env h := rfl
theorem axl_some (i0 : Nat) (op0 : Op) (j0 : Nat) : AXl C P K st os (some (i0, op0, j0)) env h = AXe C P K st ⟨os⟩ i0 op0 j0 os 0 [] none env h := rfl
theorem nextOf_nil : nextOf [] = none := rfl
def notNext : Op → Bool
  | .next _ _ => false
  | _ => true
def nextX := @nextOf
theorem nextX_next (dst : Option Tmp) (it : Operand) (type : TypeId) (pos : String) (after : Array Edge) (r : List Oper) : nextX ({ dst, op := .next it false, type, pos, after, guard := none } :: r) = some (dst, it, r) := rfl
theorem notNext_next (a b) : notNext (.next a b) = false := rfl
theorem nextOf_cons (dst : Option Tmp) (op : Op) (type : TypeId) (pos : String) (after : Array Edge) (g : Option (Nat × Bool)) (r : List Oper) : nextOf ({ dst, op, type, pos, after, guard := g } :: r) = bif notNext op then none else nextX ({ dst, op, type, pos, after, guard := g } :: r) := by
  cases h : notNext op with
  | false => rfl
  | true =>
    unfold nextOf
    cases op <;> first | rfl | cases h
theorem isEn_move (a) : isEn (.move a) = false := rfl
theorem isLk_move (a) : isLk (.move a) = false := rfl
theorem notNext_move (a) : notNext (.move a) = true := rfl
theorem isEn_assign (a) : isEn (.assign a) = false := rfl
theorem isLk_assign (a) : isLk (.assign a) = false := rfl
theorem notNext_assign (a) : notNext (.assign a) = true := rfl
theorem isEn_pick (a) (b) (c) : isEn (.pick a b c) = false := rfl
theorem isLk_pick (a) (b) (c) : isLk (.pick a b c) = false := rfl
theorem notNext_pick (a) (b) (c) : notNext (.pick a b c) = true := rfl
theorem isEn_alloc (a) : isEn (.alloc a) = false := rfl
theorem isLk_alloc (a) : isLk (.alloc a) = false := rfl
theorem notNext_alloc (a) : notNext (.alloc a) = true := rfl
theorem isEn_box (a) (b) : isEn (.box a b) = false := rfl
theorem isLk_box (a) (b) : isLk (.box a b) = false := rfl
theorem notNext_box (a) (b) : notNext (.box a b) = true := rfl
theorem isEn_build (a) (b) : isEn (.build a b) = false := rfl
theorem isLk_build (a) (b) : isLk (.build a b) = false := rfl
theorem notNext_build (a) (b) : notNext (.build a b) = true := rfl
theorem isEn_buildSlice (a) (b) (c) : isEn (.buildSlice a b c) = false := rfl
theorem isLk_buildSlice (a) (b) (c) : isLk (.buildSlice a b c) = false := rfl
theorem notNext_buildSlice (a) (b) (c) : notNext (.buildSlice a b c) = true := rfl
theorem isEn_insert (a) (b) (c) (d) : isEn (.insert a b c d) = false := rfl
theorem isLk_insert (a) (b) (c) (d) : isLk (.insert a b c d) = false := rfl
theorem notNext_insert (a) (b) (c) (d) : notNext (.insert a b c d) = true := rfl
theorem isEn_load (a) (b) : isEn (.load a b) = false := rfl
theorem isLk_load (a) (b) : isLk (.load a b) = false := rfl
theorem notNext_load (a) (b) : notNext (.load a b) = true := rfl
theorem isEn_store (a) (b) (c) : isEn (.store a b c) = false := rfl
theorem isLk_store (a) (b) (c) : isLk (.store a b c) = false := rfl
theorem notNext_store (a) (b) (c) : notNext (.store a b c) = true := rfl
theorem isEn_ready (a) : isEn (.ready a) = false := rfl
theorem isLk_ready (a) : isLk (.ready a) = false := rfl
theorem notNext_ready (a) : notNext (.ready a) = true := rfl
theorem isEn_waits (a) : isEn (.waits a) = false := rfl
theorem isLk_waits (a) : isLk (.waits a) = false := rfl
theorem notNext_waits (a) : notNext (.waits a) = true := rfl
theorem isEn_nilCheck (a) : isEn (.nilCheck a) = false := rfl
theorem isLk_nilCheck (a) : isLk (.nilCheck a) = false := rfl
theorem notNext_nilCheck (a) : notNext (.nilCheck a) = true := rfl
theorem isEn_binOp (a) (b) (c) (d) (e) : isEn (.binOp a b c d e) = false := rfl
theorem isLk_binOp (a) (b) (c) (d) (e) : isLk (.binOp a b c d e) = false := rfl
theorem notNext_binOp (a) (b) (c) (d) (e) : notNext (.binOp a b c d e) = true := rfl
theorem isEn_unOp (a) (b) (c) : isEn (.unOp a b c) = false := rfl
theorem isLk_unOp (a) (b) (c) : isLk (.unOp a b c) = false := rfl
theorem notNext_unOp (a) (b) (c) : notNext (.unOp a b c) = true := rfl
theorem isEn_convert (a) (b) (c) : isEn (.convert a b c) = false := rfl
theorem isLk_convert (a) (b) (c) : isLk (.convert a b c) = false := rfl
theorem notNext_convert (a) (b) (c) : notNext (.convert a b c) = true := rfl
theorem isEn_sliceToArrayPointer (a) (b) : isEn (.sliceToArrayPointer a b) = false := rfl
theorem isLk_sliceToArrayPointer (a) (b) : isLk (.sliceToArrayPointer a b) = false := rfl
theorem notNext_sliceToArrayPointer (a) (b) : notNext (.sliceToArrayPointer a b) = true := rfl
theorem isEn_makeInterface (a) (b) : isEn (.makeInterface a b) = false := rfl
theorem isLk_makeInterface (a) (b) : isLk (.makeInterface a b) = false := rfl
theorem notNext_makeInterface (a) (b) : notNext (.makeInterface a b) = true := rfl
theorem isEn_makeFunc (a) (b) (c) : isEn (.makeFunc a b c) = false := rfl
theorem isLk_makeFunc (a) (b) (c) : isLk (.makeFunc a b c) = false := rfl
theorem notNext_makeFunc (a) (b) (c) : notNext (.makeFunc a b c) = true := rfl
theorem isEn_makeMap (a) (b) : isEn (.makeMap a b) = false := rfl
theorem isLk_makeMap (a) (b) : isLk (.makeMap a b) = false := rfl
theorem notNext_makeMap (a) (b) : notNext (.makeMap a b) = true := rfl
theorem isEn_makeChan (a) (b) : isEn (.makeChan a b) = false := rfl
theorem isLk_makeChan (a) (b) : isLk (.makeChan a b) = false := rfl
theorem notNext_makeChan (a) (b) : notNext (.makeChan a b) = true := rfl
theorem isEn_makeSlice (a) (b) (c) : isEn (.makeSlice a b c) = false := rfl
theorem isLk_makeSlice (a) (b) (c) : isLk (.makeSlice a b c) = false := rfl
theorem notNext_makeSlice (a) (b) (c) : notNext (.makeSlice a b c) = true := rfl
theorem isEn_slice (a) (b) (c) (d) (e) : isEn (.slice a b c d e) = false := rfl
theorem isLk_slice (a) (b) (c) (d) (e) : isLk (.slice a b c d e) = false := rfl
theorem notNext_slice (a) (b) (c) (d) (e) : notNext (.slice a b c d e) = true := rfl
theorem isEn_fieldAddr (a) (b) (c) : isEn (.fieldAddr a b c) = false := rfl
theorem isLk_fieldAddr (a) (b) (c) : isLk (.fieldAddr a b c) = false := rfl
theorem notNext_fieldAddr (a) (b) (c) : notNext (.fieldAddr a b c) = true := rfl
theorem isEn_field (a) (b) (c) : isEn (.field a b c) = false := rfl
theorem isLk_field (a) (b) (c) : isLk (.field a b c) = false := rfl
theorem notNext_field (a) (b) (c) : notNext (.field a b c) = true := rfl
theorem isEn_indexAddr (a) (b) (c) : isEn (.indexAddr a b c) = false := rfl
theorem isLk_indexAddr (a) (b) (c) : isLk (.indexAddr a b c) = false := rfl
theorem notNext_indexAddr (a) (b) (c) : notNext (.indexAddr a b c) = true := rfl
theorem isEn_index (a) (b) (c) : isEn (.index a b c) = false := rfl
theorem isLk_index (a) (b) (c) : isLk (.index a b c) = false := rfl
theorem notNext_index (a) (b) (c) : notNext (.index a b c) = true := rfl
theorem isEn_mapUpdate (a) (b) (c) (d) : isEn (.mapUpdate a b c d) = false := rfl
theorem isLk_mapUpdate (a) (b) (c) (d) : isLk (.mapUpdate a b c d) = false := rfl
theorem notNext_mapUpdate (a) (b) (c) (d) : notNext (.mapUpdate a b c d) = true := rfl
theorem isEn_mapEntry (a) (b) (c) : isEn (.mapEntry a b c) = true := rfl
theorem isLk_mapEntry (a) (b) (c) : isLk (.mapEntry a b c) = false := rfl
theorem notNext_mapEntry (a) (b) (c) : notNext (.mapEntry a b c) = true := rfl
theorem isEn_entryStore (a) (b) (c) (d) : isEn (.entryStore a b c d) = false := rfl
theorem isLk_entryStore (a) (b) (c) (d) : isLk (.entryStore a b c d) = false := rfl
theorem notNext_entryStore (a) (b) (c) (d) : notNext (.entryStore a b c d) = true := rfl
theorem isEn_range (a) (b) : isEn (.range a b) = false := rfl
theorem isLk_range (a) (b) : isLk (.range a b) = false := rfl
theorem notNext_range (a) (b) : notNext (.range a b) = true := rfl
theorem isEn_entry (a) : isEn (.entry a) = false := rfl
theorem isLk_entry (a) : isLk (.entry a) = false := rfl
theorem notNext_entry (a) : notNext (.entry a) = true := rfl
theorem isEn_typeAssert (a) (b) (c) (d) : isEn (.typeAssert a b c d) = false := rfl
theorem isLk_typeAssert (a) (b) (c) (d) : isLk (.typeAssert a b c d) = false := rfl
theorem notNext_typeAssert (a) (b) (c) (d) : notNext (.typeAssert a b c d) = true := rfl
theorem isEn_extract (a) (b) : isEn (.extract a b) = false := rfl
theorem isLk_extract (a) (b) : isLk (.extract a b) = false := rfl
theorem notNext_extract (a) (b) : notNext (.extract a b) = true := rfl
theorem isEn_call (a) : isEn (.call a) = false := rfl
theorem isLk_call (a) : isLk (.call a) = false := rfl
theorem notNext_call (a) : notNext (.call a) = true := rfl
theorem isEn_panic (a) : isEn (.panic a) = false := rfl
theorem isLk_panic (a) : isLk (.panic a) = false := rfl
theorem notNext_panic (a) : notNext (.panic a) = true := rfl
theorem isEn_lookup (a b c d) : isEn (.lookup a b c d) = false := rfl
theorem isLk_lookup (a b c) : isLk (.lookup a b c false) = true := rfl
theorem isLk_lookup1 (a b c) : isLk (.lookup a b c true) = false := rfl
theorem notNext_lookup (a b c d) : notNext (.lookup a b c d) = true := rfl
theorem latePair_eq (os : List Oper) : latePair os = match lateJ os 0 with | none => none | some j => lateI os 0 none j := rfl
theorem lateJ_nil (j : Nat) : lateJ [] j = none := rfl
theorem lateJ_cons (dst : Option Tmp) (op : Op) (type : TypeId) (pos : String) (after : Array Edge) (g : Option (Nat × Bool)) (r : List Oper) (j : Nat) : lateJ ({ dst, op, type, pos, after, guard := g } :: r) j = bif isEn op then some j else lateJ r (j + 1) := by
  show (match isEn op with | true => _ | false => _) = _
  cases isEn op <;> rfl
theorem lateI_nil (i : Nat) (x : Option Op) (j : Nat) : lateI [] i x j = none := rfl
theorem axc_true (x y : Code) : AXc C P K st x y (.bool true) env h = AXs C P K st x env h := by simp [AXc]
theorem axc_false (x y : Code) : AXc C P K st x y (.bool false) env h = AXs C P K st y env h := by simp [AXc]
theorem AXc.intro {x y : Code} {b : Bool} (h1 : b = true → AXs C P K st x env h) (h2 : b = false → AXs C P K st y env h) : AXc C P K st x y (.bool b) env h := by
  cases b with
  | true => rw [axc_true]; exact h1 rfl
  | false => rw [axc_false]; exact h2 rfl
theorem axt_eq : AXt C P K st env h = AXs C P K st .skip env h := rfl
theorem axr_nil : AXr C P K st ops [] env h = AXt C P K st (trimE C.keep env) h := rfl
theorem axr_cons (dst : Option Tmp) (op : Op) (type : TypeId) (pos : String) (after : Array Edge) :
    AXr C P K st ops ({ dst, op, type, pos, after, guard := none } :: os) env h = AXf1 C P K st ops os dst (step1 C P env op h) env h := rfl
theorem axf1_some (d : Tmp) (b : Bool) (pre : Prop) (v : V) (h' : Hp) (R W : List Nat) (lo hi : Nat) : AXf1 C P K st ops os (some d) (.ok b pre v h' ⟨R, W, lo, hi⟩) env h = (pre ∧ wok C W = true ∧ AXr C P K st ops os ((d, v) :: env) h') := rfl
theorem axf1_none (b : Bool) (pre : Prop) (v : V) (h' : Hp) (R W : List Nat) (lo hi : Nat) : AXf1 C P K st ops os none (.ok b pre v h' ⟨R, W, lo, hi⟩) env h = (pre ∧ wok C W = true ∧ AXr C P K st ops os env h') := rfl
def getO : List Oper → Nat → Option Tmp
  | [], _ => none
  | o :: r, i => bif i == 0 then o.dst else getO r (i - 1)
theorem getO_cons (o : Oper) (r : List Oper) (i : Nat) : getO (o :: r) i = bif i == 0 then o.dst else getO r (i - 1) := rfl
theorem getO_eq : ∀ (os : List Oper) (i : Nat), (os[i]?).bind (·.dst) = getO os i
  | [], _ => rfl
  | o :: r, 0 => rfl
  | o :: r, i + 1 => by rw [List.getElem?_cons_succ, getO_eq r i, getO_cons]; rfl
def guardV (v : V) (want : Bool) : Option Bool :=
  match v with
  | .bool b => some (b == want)
  | .opt c (.bool b) => some (c && (b == want))
  | .opt false _ => some false
  | .tup [] => some false
  | _ => none
theorem guardV_t (b : Bool) : guardV (.bool b) true = some b := by cases b <;> rfl
theorem guardV_f (b : Bool) : guardV (.bool b) false = some (!b) := by cases b <;> rfl
theorem guardV_ot (c b : Bool) : guardV (.opt c (.bool b)) true = some (c && b) := by cases b <;> rfl
theorem guardV_of (c b : Bool) : guardV (.opt c (.bool b)) false = some (c && !b) := by cases b <;> rfl
def guardO (o : Option Tmp) (env : Env) (want : Bool) : Option Bool :=
  match o with
  | some d => guardV (lookE env d) want
  | none => none
theorem guardO_some (d : Tmp) (env : Env) (want : Bool) : guardO (some d) env want = guardV (lookE env d) want := rfl
theorem gval_eq (os : List Oper) (env : Env) (o : Oper) (j : Nat) (want : Bool) (hg : o.guard = some (j, want)) : gval ⟨os⟩ env o = guardO (getO os j) env want := by
  unfold gval
  rw [hg]
  have e : ((⟨os⟩ : Array Oper)[j]?).bind (·.dst) = getO os j := by rw [← getO_eq]; simp
  simp only [e]
  unfold guardO
  cases hd : getO os j with
  | none => rfl
  | some d =>
    simp only []
    rw [← lookE_eq]
    cases env.lookup d with
    | none => rfl
    | some v =>
      cases v with
      | opt c v => cases v <;> cases c <;> rfl
      | tup l => cases l <;> rfl
      | _ => rfl
theorem axr_guard (os0 : List Oper) (dst : Option Tmp) (op : Op) (type : TypeId) (pos : String) (after : Array Edge) (j : Nat) (want : Bool) :
    AXr C P K st ⟨os0⟩ ({ dst, op, type, pos, after, guard := some (j, want) } :: os) env h = AXg1 C P K st ⟨os0⟩ os dst (guardO (getO os0 j) env want) (step1 C P env op h) env h := by
  rw [← gval_eq os0 env { dst, op, type, pos, after, guard := some (j, want) } j want rfl]
  unfold AXr AXg1
  rfl
theorem axg1_some (d : Tmp) (gb : Bool) (pre : Prop) (v : V) (h' : Hp) (R W : List Nat) (lo hi : Nat) : AXg1 C P K st ops os (some d) (some gb) (.ok true pre v h' ⟨R, W, lo, hi⟩) env h = ((gb = true → pre) ∧ AXr C P K st ops os ((d, .opt gb v) :: env) h) := rfl
theorem axg1_none (gb : Bool) (pre : Prop) (v : V) (h' : Hp) (R W : List Nat) (lo hi : Nat) : AXg1 C P K st ops os none (some gb) (.ok true pre v h' ⟨R, W, lo, hi⟩) env h = ((gb = true → pre) ∧ AXr C P K st ops os env h) := rfl
theorem AXg1.pan {d : Tmp} {gb : Bool} {pre : Prop} {v : V} {R : List Nat} (h1 : gb = true → pre ∧ K (.panic v) ⟨env, h⟩) (h2 : gb = false → AXr C P K st ops os ((d, undefV) :: env) h) : AXg1 C P K st ops os (some d) (some gb) (.pan pre v R) env h := by
  show (if gb = true then (pre ∧ unst C P K st (.panic v) _) else _)
  cases gb with
  | true => rw [if_pos rfl, unst_panic]; exact h1 rfl
  | false => rw [if_neg (by simp)]; exact h2 rfl
theorem axd_nil (i : Nat) (acc : List (Nat × Foot)) : AXd C P K st ops [] i acc env h = AXk C P K st ops acc env h := rfl
theorem axd_cons (dst : Option Tmp) (op : Op) (type : TypeId) (pos : String) (after : Array Edge) (i : Nat) (acc : List (Nat × Foot)) :
    AXd C P K st ops ({ dst, op, type, pos, after, guard := none } :: os) i acc env h = AXf2 C P K st ops os i dst (step1 C P env op h) acc env h := rfl
theorem axd_guard (os0 : List Oper) (dst : Option Tmp) (op : Op) (type : TypeId) (pos : String) (after : Array Edge) (j : Nat) (want : Bool) (i : Nat) (acc : List (Nat × Foot)) :
    AXd C P K st ⟨os0⟩ ({ dst, op, type, pos, after, guard := some (j, want) } :: os) i acc env h = AXg2 C P K st ⟨os0⟩ os i dst (guardO (getO os0 j) env want) (step1 C P env op h) acc env h := by
  rw [← gval_eq os0 env { dst, op, type, pos, after, guard := some (j, want) } j want rfl]
  unfold AXd AXg2
  rfl
def accM (acc : List (Nat × Foot)) (i : Nat) (R W : List Nat) (lo hi : Nat) : List (Nat × Foot) := bif R.isEmpty && W.isEmpty && lo == hi then acc else (i, ⟨R, W, lo, hi⟩) :: acc
theorem accF_mk (acc : List (Nat × Foot)) (i : Nat) (R W : List Nat) (lo hi : Nat) : accF acc i ⟨R, W, lo, hi⟩ = accM acc i R W lo hi := by
  unfold accF Foot.idle accM
  cases (R.isEmpty && W.isEmpty && lo == hi) <;> rfl
theorem accM_idle (acc : List (Nat × Foot)) (i lo hi : Nat) : accM acc i [] [] lo hi = bif lo == hi then acc else (i, ⟨[], [], lo, hi⟩) :: acc := rfl
theorem accM_r (acc : List (Nat × Foot)) (i b : Nat) (R W : List Nat) (lo hi : Nat) : accM acc i (b :: R) W lo hi = (i, ⟨b :: R, W, lo, hi⟩) :: acc := rfl
theorem accM_w (acc : List (Nat × Foot)) (i b : Nat) (W : List Nat) (lo hi : Nat) : accM acc i [] (b :: W) lo hi = (i, ⟨[], b :: W, lo, hi⟩) :: acc := rfl
theorem axf2_some (i : Nat) (d : Tmp) (b : Bool) (pre : Prop) (v : V) (h' : Hp) (R W : List Nat) (lo hi : Nat) (acc : List (Nat × Foot)) : AXf2 C P K st ops os i (some d) (.ok b pre v h' ⟨R, W, lo, hi⟩) acc env h =
    (pre ∧ wok C W = true ∧ AXd C P K st ops os (i + 1) (accM acc i R W lo hi) ((d, v) :: env) h') := by rw [← accF_mk]; rfl
theorem axf2_none (i : Nat) (b : Bool) (pre : Prop) (v : V) (h' : Hp) (R W : List Nat) (lo hi : Nat) (acc : List (Nat × Foot)) : AXf2 C P K st ops os i none (.ok b pre v h' ⟨R, W, lo, hi⟩) acc env h =
    (pre ∧ wok C W = true ∧ AXd C P K st ops os (i + 1) (accM acc i R W lo hi) env h') := by rw [← accF_mk]; rfl
theorem axe_nil (i0 : Nat) (op0 : Op) (j0 : Nat) (i : Nat) (acc : List (Nat × Foot)) (l : Option LK) : AXe C P K st ops i0 op0 j0 [] i acc l env h = (chkX ops i0 j0 acc = true ∧ AXt C P K st (trimE C.keep env) h) := rfl
theorem lateA_f (W : List Nat) (h' h : Hp) : lateA false W h' h = True := rfl
theorem lateA_t (W : List Nat) (h' h : Hp) : lateA true W h' h = (W = [] ∧ h' = h) := rfl
theorem lateB_f (op0 : Op) (r : Option LK) (h : Hp) (f : Foot) : lateB1 false C P op0 r h f = True := rfl
theorem lateR_f (env : Env) (h : Hp) (v : V) (f : Foot) (r : Option LK) : lateR false env h v f r = r := rfl
theorem lateR_t (env : Env) (h : Hp) (v : V) (f : Foot) (r : Option LK) : lateR true env h v f r = some ⟨⟨env, h⟩, v, f⟩ := rfl
theorem lateK_ok (b : Bool) (pre : Prop) (v v' : V) (h h' : Hp) (f f' : Foot) : LateK (.ok b pre v' h' f') h v f = (pre ∧ v' = v ∧ h' = h ∧ f' = f) := rfl
theorem axg2_some (i : Nat) (d : Tmp) (gb : Bool) (pre : Prop) (v : V) (h' : Hp) (R W : List Nat) (lo hi : Nat) (acc : List (Nat × Foot)) : AXg2 C P K st ops os i (some d) (some gb) (.ok true pre v h' ⟨R, W, lo, hi⟩) acc env h =
    ((gb = true → pre) ∧ AXd C P K st ops os (i + 1) (accM acc i R [] 0 0) ((d, .opt gb v) :: env) h) := by rw [← accF_mk]; rfl
theorem AXg2.pan {i : Nat} {d : Tmp} {gb : Bool} {pre : Prop} {v : V} {R : List Nat} {acc : List (Nat × Foot)} (h1 : gb = true → pre ∧ panOK ops i = true ∧ chk ops acc = true ∧ K (.panic v) ⟨env, h⟩)
    (h2 : gb = false → AXd C P K st ops os (i + 1) (accF acc i ⟨[], [], 0, 0⟩) ((d, undefV) :: env) h) : AXg2 C P K st ops os i (some d) (some gb) (.pan pre v R) acc env h := by
  show (if gb = true then (pre ∧ panOK ops i = true ∧ chk ops acc = true ∧ unst C P K st (.panic v) _) else _)
  cases gb with
  | true => rw [if_pos rfl, unst_panic]; exact h1 rfl
  | false => rw [if_neg (by simp)]; exact h2 rfl
theorem axk_nil : AXk C P K st ops [] env h = AXt C P K st (trimE C.keep env) h := by
  show (chk ops [] = true ∧ _) = _
  simp [chk]
theorem AXk.intro {acc : List (Nat × Foot)} (h1 : chk ops acc = true) (h2 : AXt C P K st (trimE C.keep env) h) : AXk C P K st ops acc env h := ⟨h1, h2⟩
def stillF : List (Nat × Foot) → Bool
  | [] => true
  | (_, f) :: r => f.still && stillF r
theorem stillF_nil : stillF [] = true := rfl
theorem stillF_cons (i : Nat) (R W : List Nat) (lo hi : Nat) (r : List (Nat × Foot)) : stillF ((i, ⟨R, W, lo, hi⟩) :: r) = (W.isEmpty && lo == hi && stillF r) := rfl
theorem wok_nil : wok C [] = true := rfl
theorem wok_cons (b : Nat) (W : List Nat) : wok C (b :: W) = ((decide (C.nx ≤ b) || C.Wm.contains b) && wok C W) := rfl
def mkSR (st : Bool) (c : Prop) (r : AR) (H : Hp) : SR := .ok st (c ∧ r.pre) r.v r.h ⟨r.R, r.W, H.next, r.h.next⟩
@[congr] theorem mkSR_congr {st : Bool} {c c' : Prop} {r r' : AR} {H : Hp} (hc : c = c') (hr : r = r') : mkSR st c r H = mkSR st c' r' H := by rw [hc, hr]
theorem mkSR_mk (st : Bool) (c p : Prop) (v : V) (h : Hp) (R W : List Nat) (H : Hp) : mkSR st c ⟨p, v, h, R, W⟩ H = .ok st (c ∧ p) v h ⟨R, W, H.next, h.next⟩ := rfl
theorem next_mk (bs : List (Nat × Blk)) (n : Nat) : Hp.next ⟨bs, n⟩ = n := rfl
theorem step_of {op : Op} {env : Env} {H : Hp} {c : Prop} {r : AR} (h1 : step1 C P env op H = .ok (stillOp op) (needs (op.operands.toList.map (ev env)) ∧ (aop P (rho env) op H).pre) (aop P (rho env) op H).v (aop P (rho env) op H).h
      ⟨(aop P (rho env) op H).R, (aop P (rho env) op H).W, H.next, (aop P (rho env) op H).h.next⟩) (h2 : needs (op.operands.toList.map (ev env)) ↔ c) (h3 : aop P (rho env) op H = r) : step1 C P env op H = mkSR (stillOp op) c r H := by
  rw [h1, h3, propext h2]; rfl
theorem needs_cons (v : V) (r : List V) : needs (v :: r) = (v.cond ∧ needs r) := rfl
variable {H : Hp}
theorem step1_move (x : Operand) : step1 C P env (.move x) H = mkSR true (ev env x).cond (.val H (ev env x).val) H := step_of rfl (by simp [Op.operands, needs]) rfl
theorem step1_assign (x : Operand) : step1 C P env (.assign x) H = mkSR true (ev env x).cond (.val H (ev env x).val) H := step_of rfl (by simp [Op.operands, needs]) rfl
theorem step1_pick (c a b : Operand) : step1 C P env (.pick c a b) H = pick1 (ev env c) (ev env a) (ev env b) H := rfl
theorem step1_alloc (t : TypeId) : step1 C P env (.alloc t) H = mkSR false True (aAlloc P t H) H := step_of rfl (by simp [Op.operands, needs]) rfl
def boxK (b : Bool) (c : Prop) (v : V) (H : Hp) : SR := match b with | true => .ok true (c ∧ okCells v = true) (.fp v.cellsV) H ⟨[], [], H.next, H.next⟩ | false => mkSR false c (aBox v H) H
theorem step1_box (t : TypeId) (x : Operand) : step1 C P env (.box t x) H = boxK (C.fz t) (ev env x).cond (ev env x).val H := by
  show (if C.fz t = true then _ else _) = _
  unfold boxK
  cases C.fz t with
  | true => rw [if_pos rfl]
  | false =>
    rw [if_neg (by simp)]
    show SR.ok false (needs [ev env x] ∧ _) _ _ _ = mkSR _ _ _ _
    unfold mkSR needs needs
    simp only [and_true]
    rfl
theorem boxK_true (c : Prop) (v : V) : boxK true c v H = .ok true (c ∧ okCells v = true) (.fp v.cellsV) H ⟨[], [], H.next, H.next⟩ := rfl
theorem boxK_false (c : Prop) (v : V) : boxK false c v H = mkSR false c (aBox v H) H := rfl
theorem step1_load (t : TypeId) (x : Operand) : step1 C P env (.load t x) H = mkSR true (ev env x).cond (aLoad P t (ev env x).val H) H := step_of rfl (by simp [Op.operands, needs]) rfl
theorem step1_store (t : TypeId) (a x : Operand) : step1 C P env (.store t a x) H = mkSR false ((ev env a).cond ∧ (ev env x).cond) (aStore P t (ev env a).val (ev env x).val H) H := step_of rfl (by simp [Op.operands, needs]) rfl
theorem step1_nilCheck (x : Operand) : step1 C P env (.nilCheck x) H = mkSR true (ev env x).cond (aNil (ev env x).val H) H := step_of rfl (by simp [Op.operands, needs]) rfl
theorem step1_bin (op : BinOp) (t : TypeId) (x y : Operand) (u : TypeId) : step1 C P env (.binOp op t x y u) H = mkSR true ((ev env x).cond ∧ (ev env y).cond) (aBin P op t (ev env x).val (ev env y).val H) H := step_of rfl (by simp [Op.operands, needs]) rfl
theorem step1_un (op : UnOp) (t : TypeId) (x : Operand) : step1 C P env (.unOp op t x) H = mkSR true (ev env x).cond (aUn op (ev env x).val H) H := step_of rfl (by simp [Op.operands, needs]) rfl
theorem step1_convert (s d : TypeId) (x : Operand) : step1 C P env (.convert s d x) H = mkSR false (ev env x).cond (aConv P s d (ev env x).val H) H := step_of rfl (by simp [Op.operands, needs]) rfl
theorem step1_makeFunc (f : FuncId) (caps : List Operand) : step1 C P env (.makeFunc (.func f) #[] ⟨caps⟩) H = mkSR true (needs (caps.map (ev env))) (.val H (.fn f (caps.map (rho env)))) H := step_of rfl (by simp [Op.operands]) rfl
theorem step1_makeSlice (t : TypeId) (l c : Operand) : step1 C P env (.makeSlice t l c) H = mkSR false ((ev env l).cond ∧ (ev env c).cond) (aMakeSlice P t (ev env l).val (ev env c).val H) H := step_of rfl (by simp [Op.operands, needs]) rfl
theorem step1_slice10 (t : TypeId) (x l : Operand) : step1 C P env (.slice t x (some l) none none) H = mkSR true ((ev env x).cond ∧ (ev env l).cond) (aSlice P t (ev env x).val (some (ev env l).val) none none H) H := step_of rfl (by simp [Op.operands, needs]) rfl
theorem step1_slice01 (t : TypeId) (x h : Operand) : step1 C P env (.slice t x none (some h) none) H = mkSR true ((ev env x).cond ∧ (ev env h).cond) (aSlice P t (ev env x).val none (some (ev env h).val) none H) H := step_of rfl (by simp [Op.operands, needs]) rfl
theorem step1_slice11 (t : TypeId) (x l h : Operand) : step1 C P env (.slice t x (some l) (some h) none) H = mkSR true ((ev env x).cond ∧ (ev env l).cond ∧ (ev env h).cond) (aSlice P t (ev env x).val (some (ev env l).val) (some (ev env h).val) none H) H := step_of rfl (by simp [Op.operands, needs]) rfl
theorem step1_fieldAddr (t : TypeId) (x : Operand) (f : Nat) : step1 C P env (.fieldAddr t x f) H = mkSR true (ev env x).cond (aFieldAddr P t (ev env x).val f H) H := step_of rfl (by simp [Op.operands, needs]) rfl
theorem step1_indexAddr (t : TypeId) (x i : Operand) : step1 C P env (.indexAddr t x i) H = mkSR true ((ev env x).cond ∧ (ev env i).cond) (aIndexAddr P t (ev env x).val (ev env i).val H) H := step_of rfl (by simp [Op.operands, needs]) rfl
theorem step1_index (t : TypeId) (x i : Operand) : step1 C P env (.index t x i) H = mkSR true ((ev env x).cond ∧ (ev env i).cond) (aIndex P t (ev env x).val (ev env i).val H) H := step_of rfl (by simp [Op.operands, needs]) rfl
theorem step1_extract (x : Operand) (i : Nat) : step1 C P env (.extract x i) H = mkSR true (ev env x).cond (aExtract (ev env x).val i H) H := step_of rfl (by simp [Op.operands, needs]) rfl
theorem step1_len (t : TypeId) (x : Operand) : step1 C P env (.call { callee := .builtin .len, args := ⟨[x]⟩, argTypes := ⟨[t]⟩ }) H = mkSR true (ev env x).cond (aLen P t (ev env x).val H) H := step_of rfl (by simp [Op.operands, Call.operands, needs]) rfl
theorem step1_append (t u : TypeId) (x y : Operand) : step1 C P env (.call { callee := .builtin .append, args := ⟨[x, y]⟩, argTypes := ⟨[t, u]⟩ }) H = mkSR false ((ev env x).cond ∧ (ev env y).cond) (aAppend P t u (ev env x).val (ev env y).val H) H := step_of rfl (by simp [Op.operands, Call.operands, needs]) rfl
theorem step1_max (x y : Operand) (ts : Array TypeId) : step1 C P env (.call { callee := .builtin .max, args := ⟨[x, y]⟩, argTypes := ts }) H = mkSR true ((ev env x).cond ∧ (ev env y).cond) (aMax (ev env x).val (ev env y).val true H) H := step_of rfl (by simp [Op.operands, Call.operands, needs]) rfl
def partsV (env : Env) : List (Nat × Operand) → List (Nat × V)
  | [] => []
  | (i, x) :: r => (i, (ev env x).val) :: partsV env r
theorem partsV_nil : partsV env [] = [] := rfl
theorem partsV_cons (i : Nat) (x : Operand) (r : List (Nat × Operand)) : partsV env ((i, x) :: r) = (i, (ev env x).val) :: partsV env r := rfl
theorem partsV_eq : ∀ ps : List (Nat × Operand), ps.map (fun p => (p.1, rho env p.2)) = partsV env ps
  | [] => rfl
  | (i, x) :: r => by rw [List.map_cons, partsV_eq r]; rfl
def needsP (env : Env) : List (Nat × Operand) → Prop
  | [] => True
  | (_, x) :: r => (ev env x).cond ∧ needsP env r
theorem needsP_nil : needsP env [] = True := rfl
theorem needsP_cons (i : Nat) (x : Operand) (r : List (Nat × Operand)) : needsP env ((i, x) :: r) = ((ev env x).cond ∧ needsP env r) := rfl
theorem needsP_eq : ∀ ps : List (Nat × Operand), needs ((ps.map (·.2)).map (ev env)) ↔ needsP env ps
  | [] => Iff.rfl
  | _ :: r => and_congr Iff.rfl (needsP_eq r)
theorem step1_build (t : TypeId) (ps : List (Nat × Operand)) : step1 C P env (.build t ⟨ps⟩) H = mkSR true (needsP env ps) (aBuild P t (partsV env ps) H) H :=
  step_of rfl (by rw [← needsP_eq]; simp [Op.operands]) (by rw [← partsV_eq]; rfl)
theorem step1_buildSlice (t : TypeId) (n : Nat) (ps : List (Nat × Operand)) : step1 C P env (.buildSlice t n ⟨ps⟩) H = mkSR false (needsP env ps) (aBuildSlice P t n (partsV env ps) H) H :=
  step_of rfl (by rw [← needsP_eq]; simp [Op.operands]) (by rw [← partsV_eq]; rfl)
theorem step1_panic (x : Operand) : step1 C P env (.panic x) H = match (ev env x).val with | .ifc t v => .pan (ev env x).cond (.ifc t v) [] | _ => .bad := rfl
def vals (env : Env) : List Operand → List V
  | [] => []
  | x :: r => (ev env x).val :: vals env r
theorem vals_nil : vals env [] = [] := rfl
theorem vals_cons (x : Operand) (r : List Operand) : vals env (x :: r) = (ev env x).val :: vals env r := rfl
theorem vals_eq : ∀ xs : List Operand, xs.map (rho env) = vals env xs
  | [] => rfl
  | x :: r => by rw [List.map_cons, vals_eq r]; rfl
def conds (env : Env) : List Operand → Prop
  | [] => True
  | x :: r => (ev env x).cond ∧ conds env r
theorem conds_nil : conds env [] = True := rfl
theorem conds_cons (x : Operand) (r : List Operand) : conds env (x :: r) = ((ev env x).cond ∧ conds env r) := rfl
theorem conds_eq : ∀ xs : List Operand, needs (xs.map (ev env)) = conds env xs
  | [] => rfl
  | x :: r => by rw [List.map_cons, needs_cons, conds_eq r]; rfl
theorem step1_makeFunc' (f : FuncId) (caps : List Operand) : step1 C P env (.makeFunc (.func f) ⟨[]⟩ ⟨caps⟩) H = mkSR true (conds env caps) (.val H (.fn f (vals env caps))) H := by
  rw [← vals_eq, ← conds_eq]; exact step1_makeFunc f caps
def callF (C : Cfg) (v : V) (as : List V) (nd : Prop) (H : Hp) : SR :=
  match v with
  | .fn f caps => call1 C f (as ++ caps) nd H
  | .bnd f fs => call1 C f (fs ++ as) nd H
  | _ => .bad
theorem callF_fn (f : FuncId) (caps as : List V) (nd : Prop) : callF C (.fn f caps) as nd H = call1 C f (as ++ caps) nd H := rfl
theorem step1_call (f : Operand) (args : List Operand) (ts : Array TypeId) : step1 C P env (.call { callee := .value f, args := ⟨args⟩, argTypes := ts }) H =
    callF C (ev env f).val (vals env args) ((ev env f).cond ∧ conds env args) H := by
  rw [← vals_eq, ← conds_eq]; rfl
def callG (o : Option PR) (C : Cfg) (f : FuncId) (as : List V) (nd : Prop) (H : Hp) : SR :=
  match o with
  | some (.ret v) => .ok true nd v H ⟨[], [], 0, 0⟩
  | some (.panic v) => .pan nd v []
  | none =>
    match C.Δ f as H with
    | some r => mkSR false nd r H
    | none => .bad
def nzs : List V → List V
  | [] => []
  | v :: r => nz v :: nzs r
theorem nzs_nil : nzs [] = [] := rfl
theorem nzs_cons (v : V) (r : List V) : nzs (v :: r) = nz v :: nzs r := rfl
theorem nzs_eq : ∀ as : List V, as.map nz = nzs as
  | [] => rfl
  | v :: r => by rw [List.map_cons, nzs_eq r]; rfl
theorem nz_bool (b : Bool) : nz (.bool b) = .bool b := rfl
theorem nz_int (k : IntKind) (n : Int) : nz (.int k n) = .int k n := rfl
theorem nz_str (l : List UInt8) : nz (.str l) = .str l := rfl
theorem nz_nilS : nz .nilS = .fs [] 0 := rfl
theorem nz_sl (b o l s : Nat) (k : Option Nat) : nz (.sl b o l s k) = .sl b o l s k := rfl
theorem nz_fs (cs : List V) (n : Nat) : nz (.fs cs n) = .fs cs n := rfl
theorem nz_nilP : nz .nilP = .nilP := rfl
theorem nz_ptr (b o : Nat) : nz (.ptr b o) = .ptr b o := rfl
theorem nz_fp (cs : List V) : nz (.fp cs) = .fp cs := rfl
theorem nz_nilM : nz .nilM = .nilM := rfl
theorem nz_map (b : Nat) : nz (.map b) = .map b := rfl
theorem nz_fn (f : FuncId) (cs : List V) : nz (.fn f cs) = .fn f cs := rfl
theorem nz_nilF : nz .nilF = .nilF := rfl
theorem nz_ifc (t : TypeId) (v : V) : nz (.ifc t v) = .ifc t v := rfl
theorem nz_nilI : nz .nilI = .nilI := rfl
theorem nz_agg (cs : List V) : nz (.agg cs) = .agg cs := rfl
theorem nz_tup (cs : List V) : nz (.tup cs) = .tup cs := rfl
theorem nz_any : nz .any = .any := rfl
def callE (b : Bool) (C : Cfg) (f : FuncId) (as : List V) (nd : Prop) (H : Hp) : SR :=
  match b with
  | true => callG (C.Γ f (nzs as)) C f as nd H
  | false =>
    match C.Δ f as H with
    | some r => mkSR false nd r H
    | none =>
      match C.Γ f (as.map (lend H)) with
      | some (.ret v) => .ok true (nd ∧ scalarV v = true) v H ⟨lendR as, [], 0, 0⟩
      | some (.panic v) => .pan (nd ∧ scalarV v = true) v (lendR as)
      | none => .bad
theorem call1_eq (f : FuncId) (as : List V) (nd : Prop) : call1 C f as nd H = callE (lendR as).isEmpty C f as nd H := by
  unfold call1 callE
  cases (lendR as).isEmpty with
  | true => rw [if_pos rfl, ← nzs_eq]; unfold callG mkSR; rfl
  | false => rw [if_neg (by simp)]; rfl
theorem callE_true (f : FuncId) (as : List V) (nd : Prop) : callE true C f as nd H = callG (C.Γ f (nzs as)) C f as nd H := rfl
@[congr] theorem callE_congr {b b' : Bool} {f : FuncId} {as : List V} {nd : Prop} (h : b = b') : callE b C f as nd H = callE b' C f as nd H := by rw [h]
theorem lend_sl (b off len sz : Nat) (kc : Option Nat) : lend H (.sl b off len sz kc) = lendS (H.get b) b off len sz kc := rfl
theorem lendS_some (cs : List V) (b off len sz : Nat) (kc : Option Nat) : lendS (some (.cells cs)) b off len sz kc = if off + len * sz ≤ cs.length then .fs ((cs.drop off).take (len * sz)) len else .sl b off len sz kc := rfl
theorem lend_bool (b : Bool) : lend H (.bool b) = .bool b := rfl
theorem lend_int (k : IntKind) (n : Int) : lend H (.int k n) = .int k n := rfl
theorem lend_str (l : List UInt8) : lend H (.str l) = .str l := rfl
theorem lend_nilS : lend H .nilS = .fs [] 0 := rfl
theorem lend_fs (cs : List V) (n : Nat) : lend H (.fs cs n) = .fs cs n := rfl
theorem lend_nilP : lend H .nilP = .nilP := rfl
theorem lend_ptr (b o : Nat) : lend H (.ptr b o) = lendP (H.get b) b o := rfl
theorem lendP_some (cs : List V) (b off : Nat) : lendP (some (.cells cs)) b off = .fp (cs.drop off) := rfl
theorem lend_fp (cs : List V) : lend H (.fp cs) = .fp cs := rfl
theorem lend_map (b : Nat) : lend H (.map b) = .map b := rfl
def lends0 (H : Hp) : List V → List V
  | [] => []
  | v :: r => lend0 H v :: lends0 H r
theorem lends0_nil : lends0 H [] = [] := rfl
theorem lends0_cons (v : V) (r : List V) : lends0 H (v :: r) = lend0 H v :: lends0 H r := rfl
theorem lend0_sl (b off len sz : Nat) (kc : Option Nat) : lend0 H (.sl b off len sz kc) = lendS (H.get b) b off len sz kc := rfl
theorem lend0_ptr (b o : Nat) : lend0 H (.ptr b o) = lendP (H.get b) b o := rfl
theorem lend0_bool (b : Bool) : lend0 H (.bool b) = .bool b := rfl
theorem lend0_int (k : IntKind) (n : Int) : lend0 H (.int k n) = .int k n := rfl
theorem lend0_str (l : List UInt8) : lend0 H (.str l) = .str l := rfl
theorem lend0_fs (cs : List V) (n : Nat) : lend0 H (.fs cs n) = .fs cs n := rfl
theorem lend0_fp (cs : List V) : lend0 H (.fp cs) = .fp cs := rfl
theorem refs1_bool (b : Bool) : refs1 (.bool b) = [] := rfl
theorem refs1_int (k : IntKind) (n : Int) : refs1 (.int k n) = [] := rfl
theorem refs1_str (l : List UInt8) : refs1 (.str l) = [] := rfl
theorem refs1_fs (cs : List V) (n : Nat) : refs1 (.fs cs n) = [] := rfl
theorem refs1_fp (cs : List V) : refs1 (.fp cs) = [] := rfl
theorem refs1_nilS : refs1 .nilS = [] := rfl
theorem refs1_nilP : refs1 .nilP = [] := rfl
theorem refs1_sl (b off len sz : Nat) (kc : Option Nat) : refs1 (.sl b off len sz kc) = [b] := rfl
theorem refs1_ptr (b o : Nat) : refs1 (.ptr b o) = [b] := rfl
def refsL : List V → List Nat
  | [] => []
  | v :: r => refs0 v ++ refsL r
theorem refsL_nil : refsL [] = [] := rfl
theorem refsL_cons (v : V) (r : List V) : refsL (v :: r) = refs0 v ++ refsL r := rfl
theorem refsL_eq : ∀ vs : List V, vs.flatMap refs0 = refsL vs
  | [] => rfl
  | v :: r => by rw [List.flatMap_cons, refsL_eq r]; rfl
theorem refs1_fn (f : FuncId) (cs : List V) : refs1 (.fn f cs) = refsL cs := by rw [← refsL_eq]; rfl
theorem refs1_agg (cs : List V) : refs1 (.agg cs) = refsL cs := by rw [← refsL_eq]; rfl
theorem refs0_sl (b off len sz : Nat) (kc : Option Nat) : refs0 (.sl b off len sz kc) = [b] := rfl
theorem refs0_ptr (b o : Nat) : refs0 (.ptr b o) = [b] := rfl
theorem refs0_int (k : IntKind) (n : Int) : refs0 (.int k n) = [] := rfl
theorem refs0_str (l : List UInt8) : refs0 (.str l) = [] := rfl
theorem refs0_bool (b : Bool) : refs0 (.bool b) = [] := rfl
theorem refs0_fs (cs : List V) (n : Nat) : refs0 (.fs cs n) = [] := rfl
theorem refs0_fp (cs : List V) : refs0 (.fp cs) = [] := rfl
theorem lendR_nil : lendR [] = [] := rfl
theorem lendR_cons (v : V) (r : List V) : lendR (v :: r) = refs1 v ++ lendR r := rfl
theorem scalar_bool (b : Bool) : scalarV (.bool b) = true := rfl
theorem scalar_int (k : IntKind) (n : Int) : scalarV (.int k n) = true := rfl
theorem scalar_str (l : List UInt8) : scalarV (.str l) = true := rfl
theorem scalar_tup (vs : List V) : scalarV (.tup vs) = vs.all atomV := rfl
theorem scalar_agg (vs : List V) : scalarV (.agg vs) = vs.all atomV := rfl
theorem scalar_ifc (t : TypeId) (v : V) : scalarV (.ifc t v) = atomV v := rfl
theorem atoms_nil : ([] : List V).all atomV = true := rfl
theorem atoms_cons (v : V) (r : List V) : (v :: r).all atomV = (atomV v && r.all atomV) := rfl
theorem atom_bool (b : Bool) : atomV (.bool b) = true := rfl
theorem atom_int (k : IntKind) (n : Int) : atomV (.int k n) = true := rfl
theorem atom_str (l : List UInt8) : atomV (.str l) = true := rfl
theorem lend_ifc (t : TypeId) (v : V) : lend H (.ifc t v) = .ifc t v := rfl
theorem lend0_nilS : lend0 H .nilS = .fs [] 0 := rfl
theorem refs0_nilS : refs0 .nilS = [] := rfl
theorem callG_ret (v : V) (f : FuncId) (as : List V) (nd : Prop) : callG (some (.ret v)) C f as nd H = .ok true nd v H ⟨[], [], 0, 0⟩ := rfl
theorem callG_pan (v : V) (f : FuncId) (as : List V) (nd : Prop) : callG (some (.panic v)) C f as nd H = .pan nd v [] := rfl
@[congr] theorem callG_congr {o o' : Option PR} {f : FuncId} {as : List V} {nd : Prop} (h : o = o') : callG o C f as nd H = callG o' C f as nd H := by rw [h]
def callM (o : Option AR) (nd : Prop) (H : Hp) : SR := match o with | some r => mkSR false nd r H | none => .bad
theorem callG_none (f : FuncId) (as : List V) (nd : Prop) : callG none C f as nd H = callM (C.Δ f as H) nd H := rfl
theorem callM_some (r : AR) (nd : Prop) : callM (some r) nd H = mkSR false nd r H := rfl
def callD (o : Option AR) (C : Cfg) (f : FuncId) (as : List V) (nd : Prop) (H : Hp) : SR :=
  match o with
  | some r => mkSR false nd r H
  | none =>
    match C.Γ f (as.map (lend H)) with
    | some (.ret v) => .ok true (nd ∧ scalarV v = true) v H ⟨lendR as, [], 0, 0⟩
    | some (.panic v) => .pan (nd ∧ scalarV v = true) v (lendR as)
    | none => .bad
theorem callE_false (f : FuncId) (as : List V) (nd : Prop) : callE false C f as nd H = callD (C.Δ f as H) C f as nd H := by
  unfold callE callD; rfl
@[congr] theorem callD_congr {o o' : Option AR} {f : FuncId} {as : List V} {nd : Prop} (h : o = o') : callD o C f as nd H = callD o' C f as nd H := by rw [h]
theorem callD_some (r : AR) (f : FuncId) (as : List V) (nd : Prop) : callD (some r) C f as nd H = mkSR false nd r H := rfl
def callL (o : Option PR) (as : List V) (nd : Prop) (H : Hp) : SR :=
  match o with
  | some (.ret v) => .ok true (nd ∧ scalarV v = true) v H ⟨lendR as, [], 0, 0⟩
  | some (.panic v) => .pan (nd ∧ scalarV v = true) v (lendR as)
  | none => .bad
def lends (H : Hp) : List V → List V
  | [] => []
  | v :: r => lend H v :: lends H r
theorem lends_nil : lends H [] = [] := rfl
theorem lends_cons (v : V) (r : List V) : lends H (v :: r) = lend H v :: lends H r := rfl
theorem lends_eq : ∀ as : List V, as.map (lend H) = lends H as
  | [] => rfl
  | v :: r => by rw [List.map_cons, lends_eq r]; rfl
theorem callD_none (f : FuncId) (as : List V) (nd : Prop) : callD none C f as nd H = callL (C.Γ f (lends H as)) as nd H := by
  rw [← lends_eq]; unfold callD callL; rfl
@[congr] theorem callL_congr {o o' : Option PR} {as : List V} {nd : Prop} (h : o = o') : callL o as nd H = callL o' as nd H := by rw [h]
theorem callL_ret (v : V) (as : List V) (nd : Prop) : callL (some (.ret v)) as nd H = .ok true (nd ∧ scalarV v = true) v H ⟨lendR as, [], 0, 0⟩ := rfl
theorem callL_pan (v : V) (as : List V) (nd : Prop) : callL (some (.panic v)) as nd H = .pan (nd ∧ scalarV v = true) v (lendR as) := rfl
def extΓ (f0 : FuncId) (c : List V → Option PR) (Γ : FuncId → List V → Option PR) : FuncId → List V → Option PR := fun f as => bif f == f0 then c as else Γ f as
def noΓ : FuncId → List V → Option PR := fun _ _ => none
def extΔ (f0 : FuncId) (c : List V → Hp → Option AR) (Δ : FuncId → List V → Hp → Option AR) : FuncId → List V → Hp → Option AR := fun f as H => bif f == f0 then c as H else Δ f as H
def noΔ : FuncId → List V → Hp → Option AR := fun _ _ _ => none
theorem extΓ_at (f0 : FuncId) (c : List V → Option PR) (Γ : FuncId → List V → Option PR) (f : FuncId) (as : List V) : extΓ f0 c Γ f as = bif f == f0 then c as else Γ f as := rfl
theorem noΓ_at (f : FuncId) (as : List V) : noΓ f as = none := rfl
theorem extΔ_at (f0 : FuncId) (c : List V → Hp → Option AR) (Δ : FuncId → List V → Hp → Option AR) (f : FuncId) (as : List V) (H : Hp) : extΔ f0 c Δ f as H = bif f == f0 then c as H else Δ f as H := rfl
theorem noΔ_at (f : FuncId) (as : List V) (H : Hp) : noΔ f as H = none := rfl
def GoodΓ (P : Program) (Γ : FuncId → List V → Option PR) : Prop := ∀ f args r, Γ f args = some r → PCall P f args r
def GoodΔ (P : Program) (Δ : FuncId → List V → Hp → Option AR) : Prop := ∀ f args H r, Δ f args H = some r → HCall P f args H r
theorem noΓ_ok : GoodΓ P noΓ := fun _ _ _ h => by cases h
theorem noΔ_ok : GoodΔ P noΔ := fun _ _ _ _ h => by cases h
theorem extΓ_ok {f0 : FuncId} {c : List V → Option PR} {Γ : FuncId → List V → Option PR} (h : ∀ args r, c args = some r → PCall P f0 args r) (hΓ : GoodΓ P Γ) : GoodΓ P (extΓ f0 c Γ) := fun f args r e => by
  rw [extΓ_at] at e
  cases hb : f == f0 with
  | true => rw [hb] at e; simp at hb; subst hb; exact h _ _ e
  | false => rw [hb] at e; exact hΓ _ _ _ e
theorem extΔ_ok {f0 : FuncId} {c : List V → Hp → Option AR} {Δ : FuncId → List V → Hp → Option AR} (h : ∀ args H r, c args H = some r → HCall P f0 args H r) (hΔ : GoodΔ P Δ) : GoodΔ P (extΔ f0 c Δ) := fun f args H r e => by
  rw [extΔ_at] at e
  cases hb : f == f0 with
  | true => rw [hb] at e; simp at hb; subst hb; exact h _ _ _ e
  | false => rw [hb] at e; exact hΔ _ _ _ _ e
end Go.Ab
