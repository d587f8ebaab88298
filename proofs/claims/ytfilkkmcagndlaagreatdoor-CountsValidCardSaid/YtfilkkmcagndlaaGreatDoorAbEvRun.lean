/- The machine of AbEv is sound: operations. -/
import Derived.Test.YtfilkkmcagndlaaGreatDoorAbEvOk
set_option linter.unusedSimpArgs false
set_option linter.unusedVariables false
set_option linter.all false
namespace Go.Ab
variable {P : Program}
theorem get_node (v : Option V) (l r : Tr) (m : Nat) : (Tr.node v l r).get m = if m = 0 then v else if m % 2 = 1 then l.get (m / 2) else r.get (m / 2 - 1) := by
  show (Bool.rec (Bool.rec (r.get (m / 2 - 1)) (l.get (m / 2)) (Nat.beq (m % 2) 1)) v (Nat.beq m 0) : Option V) = _
  by_cases h : m = 0
  · subst h; rfl
  · rw [if_neg h, beqF0 h]
    show (Bool.rec (r.get (m / 2 - 1)) (l.get (m / 2)) (Nat.beq (m % 2) 1) : Option V) = _
    by_cases h1 : m % 2 = 1
    · rw [if_pos h1, h1]; rfl
    · rw [if_neg h1, beqF0 h1]
theorem one_succ (x : V) (k n : Nat) : Tr.one x (k + 1) n = if n = 0 then .node (some x) .nil .nil else if n % 2 = 1 then .node none (Tr.one x k (n / 2)) .nil else .node none .nil (Tr.one x k (n / 2 - 1)) := by
  show (Bool.rec (Bool.rec (.node none .nil (Tr.one x k (n / 2 - 1))) (.node none (Tr.one x k (n / 2)) .nil) (Nat.beq (n % 2) 1)) (.node (some x) .nil .nil) (Nat.beq n 0) : Tr) = _
  by_cases h : n = 0
  · subst h; rfl
  · rw [if_neg h, beqF0 h]
    show (Bool.rec (.node none .nil (Tr.one x k (n / 2 - 1))) (.node none (Tr.one x k (n / 2)) .nil) (Nat.beq (n % 2) 1) : Tr) = _
    by_cases h1 : n % 2 = 1
    · rw [if_pos h1, h1]; rfl
    · rw [if_neg h1, beqF0 h1]
theorem set_node (x : V) (v : Option V) (l r : Tr) (n : Nat) : (Tr.node v l r).set x n = if n = 0 then .node (some x) l r else if n % 2 = 1 then .node v (l.set x (n / 2)) r else .node v l (r.set x (n / 2 - 1)) := by
  show (Bool.rec (Bool.rec (.node v l (r.set x (n / 2 - 1))) (.node v (l.set x (n / 2)) r) (Nat.beq (n % 2) 1)) (.node (some x) l r) (Nat.beq n 0) : Tr) = _
  by_cases h : n = 0
  · subst h; rfl
  · rw [if_neg h, beqF0 h]
    show (Bool.rec (.node v l (r.set x (n / 2 - 1))) (.node v (l.set x (n / 2)) r) (Nat.beq (n % 2) 1) : Tr) = _
    by_cases h1 : n % 2 = 1
    · rw [if_pos h1, h1]; rfl
    · rw [if_neg h1, beqF0 h1]
theorem get_nil (m : Nat) : Tr.nil.get m = none := rfl
theorem set_nil (x : V) (n : Nat) : Tr.nil.set x n = Tr.one x 12 n := rfl
theorem get_one (x : V) : ∀ (k n m : Nat), n + 1 < 2 ^ k → (Tr.one x k n).get m = if m = n then some x else none
  | 0, n, m, h => by simp at h
  | k + 1, n, m, h => by
    rw [one_succ]
    have hp : 2 ^ (k + 1) = 2 * 2 ^ k := by rw [Nat.pow_succ]; omega
    split
    · subst n
      rw [get_node]
      by_cases hm : m = 0
      · rw [if_pos hm, if_pos hm]
      · rw [if_neg hm, if_neg hm]; split <;> rfl
    · split
      · rw [get_node, get_one x k (n / 2) (m / 2) (by omega)]
        by_cases hm : m = 0
        · rw [if_pos hm, if_neg (by omega)]
        · rw [if_neg hm]
          split
          · by_cases e : m / 2 = n / 2
            · rw [if_pos e, if_pos (by omega)]
            · rw [if_neg e, if_neg (by omega)]
          · rw [if_neg (by omega)]; rfl
      · rw [get_node, get_one x k (n / 2 - 1) (m / 2 - 1) (by omega)]
        by_cases hm : m = 0
        · rw [if_pos hm, if_neg (by omega)]
        · rw [if_neg hm]
          split
          · rw [if_neg (by omega)]; rfl
          · by_cases e : m / 2 - 1 = n / 2 - 1
            · rw [if_pos e, if_pos (by omega)]
            · rw [if_neg e, if_neg (by omega)]
theorem get_set (x : V) : ∀ (t : Tr) (n m : Nat), n < 4095 → (t.set x n).get m = if m = n then some x else t.get m
  | .nil, n, m, h => by rw [set_nil, get_one x 12 n m (by omega), get_nil]
  | .node v l r, n, m, h => by
    rw [set_node, get_node]
    split
    · subst n
      rw [get_node]
      by_cases hm : m = 0
      · rw [if_pos hm, if_pos hm]
      · rw [if_neg hm, if_neg hm, if_neg hm]
    · split
      · rw [get_node, get_set x l (n / 2) (m / 2) (by omega)]
        by_cases hm : m = 0
        · rw [if_pos hm, if_neg (by omega), if_pos hm]
        · rw [if_neg hm, if_neg hm]
          split
          · by_cases e : m / 2 = n / 2
            · rw [if_pos e, if_pos (by omega)]
            · rw [if_neg e, if_neg (by omega)]
          · rw [if_neg (by omega)]
      · rw [get_node, get_set x r (n / 2 - 1) (m / 2 - 1) (by omega)]
        by_cases hm : m = 0
        · rw [if_pos hm, if_neg (by omega), if_pos hm]
        · rw [if_neg hm, if_neg hm]
          split
          · rw [if_neg (by omega)]
          · by_cases e : m / 2 - 1 = n / 2 - 1
            · rw [if_pos e, if_pos (by omega)]
            · rw [if_neg e, if_neg (by omega)]
def TE (t : Tr) (env : Env) : Prop := ∀ k, t.get k = env.lookup k
theorem TE.put {t : Tr} {env : Env} (h : TE t env) (v : V) {d : Nat} (hd : d < 4095) : TE (t.set v d) ((d, v) :: env) := fun k => by
  rw [get_set v t d k hd, List.lookup_cons]
  by_cases e : k = d
  · subst e; simp
  · rw [if_neg e, h k]
    have : (k == d) = false := by simp [e]
    rw [this]
theorem TE.ev {t : Tr} {env : Env} (h : TE t env) : evT t = ev env := by
  funext x
  cases x <;> first | rfl | exact congrArg (fun o => o.getD V.any) (h _)
theorem lookup_filter_ne : ∀ (l : List (Nat × V)) (t k : Nat), (l.filter fun p => p.1 != t).lookup k = if k = t then none else l.lookup k
  | [], t, k => by simp
  | p :: l, t, k => by
    rw [List.filter_cons, List.lookup_cons]
    by_cases hp : p.1 = t
    · rw [if_neg (by simp [hp]), lookup_filter_ne l t k]
      by_cases hk : k = t
      · rw [if_pos hk, if_pos hk]
      · have : (k == p.1) = false := by simp [hp, hk]
        rw [if_neg hk, if_neg hk, this]
    · rw [if_pos (by simp [hp]), List.lookup_cons, lookup_filter_ne l t k]
      by_cases hk : k = p.1
      · have : (k == p.1) = true := by simp [hk]
        have ht : ¬ k = t := by omega
        rw [this]; simp [ht]
      · have : (k == p.1) = false := by simp [hk]
        rw [this]
theorem TE.trim {t : Tr} : ∀ {env : Env}, TE t env → TE t (trimE (fun _ => true) env) := by
  have key : ∀ (env : Env) (k : Nat), (trimE (fun _ => true) env).lookup k = env.lookup k := by
    intro env
    induction env with
    | nil => intro k; rfl
    | cons p r ih =>
      intro k
      obtain ⟨d, v⟩ := p
      show (((d, v) :: (trimE _ r).filter fun p => p.1 != d) : Env).lookup k = _
      rw [List.lookup_cons, List.lookup_cons, lookup_filter_ne, ih]
      by_cases hk : k = d
      · have : (k == d) = true := by simp [hk]
        rw [this]
      · have : (k == d) = false := by simp [hk]
        rw [this, if_neg hk]
  intro env h k
  rw [key, h k]
theorem unopt_ok {v u : V} (h : unopt v = some u) : v.val = u ∧ v.cond := by
  cases v <;> first | (cases h; exact ⟨rfl, trivial⟩) | (cases h; done) | skip
  rename_i b v
  cases b with
  | true => cases h; exact ⟨rfl, rfl⟩
  | false => cases h
theorem fetch_ok {t : Tr} {env : Env} (hT : TE t env) {x : Operand} {v : V} (h : fetch t x = some v) : rho env x = v ∧ (ev env x).cond := by
  cases x with
  | tmp k =>
    unfold fetch at h
    simp only at h
    split at h
    · rename_i u hu
      have : ev env (.tmp k) = u := by
        show (env.lookup k).getD .any = u
        rw [← hT k, hu]; rfl
      unfold rho
      rw [this]
      exact unopt_ok h
    · cases h
  | const c => exact unopt_ok h
  | global k =>
    unfold fetch at h
    simp only at h
    unfold rho ev
    split at h
    · rename_i cs hc; cases h; simp only [hc]; exact ⟨rfl, trivial⟩
    · cases h
  | func f => cases h; exact ⟨rfl, trivial⟩
theorem fetchL_ok {t : Tr} {env : Env} (hT : TE t env) : ∀ {l : List Operand} {vs : List V}, fetchL t l = some vs → l.map (rho env) = vs ∧ needs (l.map (ev env))
  | [], vs, h => by cases h; exact ⟨rfl, trivial⟩
  | x :: r, vs, h => by
    unfold fetchL at h
    split at h
    · rename_i v hv
      split at h
      · rename_i l hl
        cases h
        obtain ⟨h1, h2⟩ := fetch_ok hT hv
        obtain ⟨h3, h4⟩ := fetchL_ok hT hl
        exact ⟨by rw [List.map_cons, h1, h3], h2, h4⟩
      · cases h
    · cases h
theorem fetchP_ok {t : Tr} {env : Env} (hT : TE t env) : ∀ {l : List (Nat × Operand)} {vs : List (Nat × V)}, fetchP t l = some vs → l.map (fun p => (p.1, rho env p.2)) = vs ∧ needs (l.map fun p => ev env p.2)
  | [], vs, h => by cases h; exact ⟨rfl, trivial⟩
  | x :: r, vs, h => by
    unfold fetchP at h
    split at h
    · rename_i v hv
      split at h
      · rename_i l hl
        cases h
        obtain ⟨h1, h2⟩ := fetch_ok hT hv
        obtain ⟨h3, h4⟩ := fetchP_ok hT hl
        exact ⟨by rw [List.map_cons, h1, h3], h2, h4⟩
      · cases h
    · cases h
theorem fetchO_ok {t : Tr} {env : Env} (hT : TE t env) {x : Option Operand} {v : Option V} (h : fetchO t x = some v) : x.map (rho env) = v ∧ ∀ y, x = some y → (ev env y).cond := by
  cases x with
  | none => cases h; exact ⟨rfl, fun y e => by cases e⟩
  | some x =>
    unfold fetchO at h
    simp only at h
    split at h
    · rename_i u hu
      cases h
      obtain ⟨h1, h2⟩ := fetch_ok hT hu
      exact ⟨by rw [Option.map_some, h1], fun y e => by cases e; exact h2⟩
    · cases h
def ERof (C : Cfg) (P : Program) (env : Env) (op : Op) (H : Hp) : ER → Prop
  | .ok st v h f => ∃ pre : Prop, step1 C P env op H = .ok st pre v h f ∧ pre
  | .pan v => ∃ (pre : Prop) (R : List Nat), step1 C P env op H = .pan pre v R ∧ pre
  | .bad => True
theorem eFin_ok {C : Cfg} {env : Env} {op : Op} {H : Hp} {st p : Bool} {r : AR} {pre : Prop} (h1 : step1 C P env op H = .ok st pre r.v r.h ⟨r.R, r.W, H.next, r.h.next⟩) (h2 : p = true → pre) :
    ERof C P env op H (eFin st p r H) := by
  unfold eFin
  cases p with
  | true => exact ⟨pre, h1, h2 rfl⟩
  | false => trivial
theorem eXR_ok {C : Cfg} {env : Env} {op : Op} {H : Hp} {q : Option XR} {pre : Prop} (h : step1 C P env op H = .ok false (pre ∧ (XR.ar H q).pre) (XR.ar H q).v (XR.ar H q).h ⟨(XR.ar H q).R, (XR.ar H q).W, H.next, (XR.ar H q).h.next⟩) (hp : pre) :
    ERof C P env op H (eXR q H) := by
  cases q with
  | none => trivial
  | some r => exact ⟨_, h, hp, trivial⟩
theorem nd1 {env : Env} {x : Operand} (h : (ev env x).cond) : needs ([x].map (ev env)) := ⟨h, trivial⟩
theorem nd2 {env : Env} {x y : Operand} (h : (ev env x).cond) (k : (ev env y).cond) : needs ([x, y].map (ev env)) := ⟨h, k, trivial⟩
theorem eCall_ok {C : Cfg} (hΔ : ∀ f ags H r, C.Δ f ags H = some r → r.pre) {env : Env} {f : Operand} {args : Array Operand} {argTypes : Array TypeId} {fid : FuncId} {ags : List V} {H : Hp}
    (hs : step1 C P env (.call { callee := .value f, args, argTypes }) H = call1 C fid ags ((ev env f).cond ∧ needs (args.toList.map (ev env))) H)
    (nd : (ev env f).cond ∧ needs (args.toList.map (ev env))) : ERof C P env (.call { callee := .value f, args, argTypes }) H (eCall C fid ags H) := by
  generalize ((ev env f).cond ∧ needs (args.toList.map (ev env))) = ndp at hs nd
  unfold call1 at hs
  unfold eCall
  cases hl : (lendR ags).isEmpty with
  | true =>
    rw [if_pos hl] at hs
    simp only [cond_true]
    cases hg : C.Γ fid (ags.map nz) with
    | some r =>
      rw [hg] at hs
      cases r with
      | ret v => exact ⟨_, hs, nd⟩
      | panic v => exact ⟨_, _, hs, nd⟩
    | none =>
      rw [hg] at hs
      simp only at hs ⊢
      cases hd : C.Δ fid ags H with
      | some r => rw [hd] at hs; exact ⟨_, hs, nd, hΔ _ _ _ _ hd⟩
      | none => trivial
  | false =>
    rw [if_neg (by rw [hl]; simp)] at hs
    simp only [cond_false]
    cases hd : C.Δ fid ags H with
    | some r => rw [hd] at hs; exact ⟨_, hs, nd, hΔ _ _ _ _ hd⟩
    | none =>
      rw [hd] at hs
      simp only at hs ⊢
      cases hg : C.Γ fid (ags.map (lend H)) with
      | none => trivial
      | some r =>
        rw [hg] at hs
        cases r with
        | ret v =>
          simp only
          cases hv : scalarV v with
          | true => exact ⟨_, hs, nd, hv⟩
          | false => trivial
        | panic v =>
          simp only
          cases hv : scalarV v with
          | true => exact ⟨_, _, hs, nd, hv⟩
          | false => trivial
theorem eStep_ok {C : Cfg} (hΔ : ∀ f ags H r, C.Δ f ags H = some r → r.pre) {t : Tr} {env : Env} (hT : TE t env) (op : Op) (H : Hp) : ERof C P env op H (eStep C P t op H) := by
  unfold eStep
  cases op
  case move x =>
    simp only
    split
    · rename_i v hv
      obtain ⟨rfl, h2⟩ := fetch_ok hT hv
      exact ⟨_, rfl, nd1 h2, trivial⟩
    · trivial
  case assign x =>
    simp only
    split
    · rename_i v hv
      obtain ⟨rfl, h2⟩ := fetch_ok hT hv
      exact ⟨_, rfl, nd1 h2, trivial⟩
    · trivial
  case load ty a =>
    simp only
    split
    · rename_i v hv
      obtain ⟨rfl, h2⟩ := fetch_ok hT hv
      exact eFin_ok rfl fun h => ⟨nd1 h2, pLoad_ok h⟩
    · trivial
  case binOp b ty x y z =>
    simp only
    split
    · rename_i v hv
      split
      · rename_i u hu
        obtain ⟨rfl, h2⟩ := fetch_ok hT hv
        obtain ⟨rfl, h3⟩ := fetch_ok hT hu
        exact eFin_ok rfl fun h => ⟨nd2 h2 h3, pBin_ok h⟩
      · trivial
    · trivial
  case indexAddr ty x i =>
    simp only
    split
    · rename_i v hv
      split
      · rename_i u hu
        obtain ⟨rfl, h2⟩ := fetch_ok hT hv
        obtain ⟨rfl, h3⟩ := fetch_ok hT hu
        exact eFin_ok rfl fun h => ⟨nd2 h2 h3, pIndexAddr_ok h⟩
      · trivial
    · trivial
  case index ty x i =>
    simp only
    split
    · rename_i v hv
      split
      · rename_i u hu
        obtain ⟨rfl, h2⟩ := fetch_ok hT hv
        obtain ⟨rfl, h3⟩ := fetch_ok hT hu
        exact eFin_ok rfl fun h => ⟨nd2 h2 h3, pIndex_ok h⟩
      · trivial
    · trivial
  case store ty a x =>
    simp only
    split
    · rename_i v hv
      split
      · rename_i u hu
        obtain ⟨rfl, h2⟩ := fetch_ok hT hv
        obtain ⟨rfl, h3⟩ := fetch_ok hT hu
        exact eFin_ok rfl fun h => ⟨nd2 h2 h3, pStore_ok h⟩
      · trivial
    · trivial
  case makeSlice ty l c =>
    simp only
    split
    · rename_i v hv
      split
      · rename_i u hu
        obtain ⟨rfl, h2⟩ := fetch_ok hT hv
        obtain ⟨rfl, h3⟩ := fetch_ok hT hu
        exact eFin_ok rfl fun h => ⟨nd2 h2 h3, pMakeSlice_ok h⟩
      · trivial
    · trivial
  case nilCheck x =>
    simp only
    split
    · rename_i v hv
      obtain ⟨rfl, h2⟩ := fetch_ok hT hv
      exact eFin_ok rfl fun h => ⟨nd1 h2, pNil_ok h⟩
    · trivial
  case fieldAddr ty x f =>
    simp only
    split
    · rename_i v hv
      obtain ⟨rfl, h2⟩ := fetch_ok hT hv
      exact eFin_ok rfl fun h => ⟨nd1 h2, pFieldAddr_ok h⟩
    · trivial
  case field ty x f =>
    simp only
    split
    · rename_i v hv
      obtain ⟨rfl, h2⟩ := fetch_ok hT hv
      exact eFin_ok rfl fun h => ⟨nd1 h2, pField_ok h⟩
    · trivial
  case extract x i =>
    simp only
    split
    · rename_i v hv
      obtain ⟨rfl, h2⟩ := fetch_ok hT hv
      exact eFin_ok rfl fun h => ⟨nd1 h2, pExtract_ok h⟩
    · trivial
  case unOp o ty x =>
    simp only
    split
    · rename_i v hv
      obtain ⟨rfl, h2⟩ := fetch_ok hT hv
      exact eFin_ok rfl fun h => ⟨nd1 h2, pUn_ok h⟩
    · trivial
  case convert s d x =>
    simp only
    split
    · rename_i v hv
      obtain ⟨rfl, h2⟩ := fetch_ok hT hv
      exact eFin_ok rfl fun h => ⟨nd1 h2, pConv_ok h⟩
    · trivial
  case makeInterface ty x =>
    simp only
    split
    · rename_i v hv
      obtain ⟨rfl, h2⟩ := fetch_ok hT hv
      exact eFin_ok rfl fun h => ⟨nd1 h2, pMakeIface_ok h⟩
    · trivial
  case typeAssert x ty0 ty ok =>
    simp only
    split
    · rename_i v hv
      obtain ⟨rfl, h2⟩ := fetch_ok hT hv
      exact eFin_ok rfl fun h => ⟨nd1 h2, pAssert_ok h⟩
    · trivial
  case makeMap ty r =>
    cases r with
    | some r => trivial
    | none => exact eXR_ok (pre := True) rfl trivial
  case lookup ty x k ok =>
    simp only
    split
    · rename_i v hv
      split
      · rename_i u hu
        obtain ⟨rfl, h2⟩ := fetch_ok hT hv
        obtain ⟨rfl, h3⟩ := fetch_ok hT hu
        exact eXR_ok rfl (nd2 h2 h3)
      · trivial
    · trivial
  case mapUpdate ty m k x =>
    simp only
    split
    · rename_i v hv
      split
      · rename_i u hu
        split
        · rename_i z hz
          obtain ⟨rfl, h2⟩ := fetch_ok hT hv
          obtain ⟨rfl, h3⟩ := fetch_ok hT hu
          obtain ⟨rfl, h4⟩ := fetch_ok hT hz
          exact eXR_ok rfl ⟨h2, h3, h4, trivial⟩
        · trivial
      · trivial
    · trivial
  case insert ty m k x =>
    simp only
    split
    · rename_i v hv
      split
      · rename_i u hu
        split
        · rename_i z hz
          obtain ⟨rfl, h2⟩ := fetch_ok hT hv
          obtain ⟨rfl, h3⟩ := fetch_ok hT hu
          obtain ⟨rfl, h4⟩ := fetch_ok hT hz
          exact eXR_ok rfl ⟨h2, h3, h4, trivial⟩
        · trivial
      · trivial
    · trivial
  case mapEntry ty m k =>
    simp only
    split
    · rename_i v hv
      split
      · rename_i u hu
        obtain ⟨rfl, h2⟩ := fetch_ok hT hv
        obtain ⟨rfl, h3⟩ := fetch_ok hT hu
        exact eXR_ok rfl (nd2 h2 h3)
      · trivial
    · trivial
  case entryStore ty m n x =>
    simp only
    split
    · rename_i v hv
      split
      · rename_i u hu
        split
        · rename_i z hz
          obtain ⟨rfl, h2⟩ := fetch_ok hT hv
          obtain ⟨rfl, h3⟩ := fetch_ok hT hu
          obtain ⟨rfl, h4⟩ := fetch_ok hT hz
          exact eXR_ok rfl ⟨h2, h3, h4, trivial⟩
        · trivial
      · trivial
    · trivial
  case range ty x =>
    simp only
    split
    · rename_i v hv
      obtain ⟨rfl, h2⟩ := fetch_ok hT hv
      exact eXR_ok rfl (nd1 h2)
    · trivial
  case entry x =>
    simp only
    split
    · rename_i v hv
      obtain ⟨rfl, h2⟩ := fetch_ok hT hv
      exact eXR_ok rfl (nd1 h2)
    · trivial
  case alloc ty => exact eFin_ok rfl fun h => ⟨trivial, pAlloc_ok h⟩
  case box ty x =>
    simp only
    split
    · rename_i v hv
      obtain ⟨rfl, h2⟩ := fetch_ok hT hv
      cases hk : okCells (rho env x) with
      | false => trivial
      | true =>
        simp only [cond_true]
        cases hz : C.fz ty with
        | true =>
          refine ⟨(ev env x).cond ∧ okCells (ev env x).val = true, ?_, h2, hk⟩
          show (if C.fz ty = true then _ else _) = _
          rw [if_pos hz]; rfl
        | false =>
          refine ⟨needs [ev env x] ∧ (aop P (rho env) (.box ty x) H).pre, ?_, nd1 h2, hk⟩
          show (if C.fz ty = true then _ else _) = _
          rw [if_neg (by rw [hz]; simp)]; rfl
    · trivial
  case build ty ps =>
    simp only
    split
    · rename_i l hl
      obtain ⟨rfl, h2⟩ := fetchP_ok hT hl
      refine eFin_ok rfl fun h => ⟨?_, pBuild_ok h⟩
      have e : (Op.build ty ps).operands.toList = ps.toList.map (·.2) := by simp [Op.operands]
      rw [e, List.map_map]; exact h2
    · trivial
  case buildSlice ty n ps =>
    simp only
    split
    · rename_i l hl
      obtain ⟨rfl, h2⟩ := fetchP_ok hT hl
      refine eFin_ok rfl fun h => ⟨?_, pBuildSlice_ok h⟩
      have e : (Op.buildSlice ty n ps).operands.toList = ps.toList.map (·.2) := by simp [Op.operands]
      rw [e, List.map_map]; exact h2
    · trivial
  case makeFunc f first caps =>
    cases f <;> first | trivial | skip
    rename_i f
    simp only
    cases hs : Nat.beq first.size 0 with
    | true =>
      simp only [cond_true]
      split
      · rename_i l hl
        obtain ⟨rfl, h2⟩ := fetchL_ok hT hl
        have h0 : first.size = 0 := Nat.eq_of_beq_eq_true hs
        have hf : first = #[] := by simpa using h0
        subst hf
        refine ⟨_, rfl, ?_, trivial⟩
        have e : (Op.makeFunc (.func f) #[] caps).operands.toList = caps.toList := by simp [Op.operands]
        rw [e]; exact h2
      · trivial
    | false =>
      simp only [cond_false]
      cases hc : Nat.beq caps.size 0 with
      | false => trivial
      | true =>
        simp only [cond_true]
        split
        · rename_i l hl
          obtain ⟨rfl, h2⟩ := fetchL_ok hT hl
          have h0 : caps.size = 0 := Nat.eq_of_beq_eq_true hc
          have hf : caps = #[] := by simpa using h0
          subst hf
          have hne : ¬ first.size = 0 := fun e => by rw [e] at hs; cases hs
          have haop : aop P (rho env) (.makeFunc (.func f) first #[]) H = .val H (.bnd f (first.toList.map (rho env))) := by
            simp only [aop]
            rw [if_neg hne, if_pos (by rfl)]
          refine ⟨needs ((Op.makeFunc (.func f) first #[]).operands.toList.map (ev env)) ∧ (aop P (rho env) (.makeFunc (.func f) first #[]) H).pre, ?_, ?_, by rw [haop]; trivial⟩
          · show SR.ok _ _ (aop P (rho env) (.makeFunc (.func f) first #[]) H).v (aop P (rho env) (.makeFunc (.func f) first #[]) H).h ⟨(aop P (rho env) (.makeFunc (.func f) first #[]) H).R, (aop P (rho env) (.makeFunc (.func f) first #[]) H).W, H.next, (aop P (rho env) (.makeFunc (.func f) first #[]) H).h.next⟩ = _
            rw [haop]; rfl
          · have e : (Op.makeFunc (.func f) first #[]).operands.toList = first.toList := by simp [Op.operands]
            rw [e]; exact h2
        · trivial
  case slice ty x lo hi mx =>
    simp only
    split
    rotate_left; · trivial
    rename_i v hv
    split
    rotate_left; · trivial
    rename_i l hl
    split
    rotate_left; · trivial
    rename_i h hh
    split
    rotate_left; · trivial
    rename_i m hm
    obtain ⟨rfl, h1⟩ := fetch_ok hT hv
    obtain ⟨rfl, h2⟩ := fetchO_ok hT hl
    obtain ⟨rfl, h3⟩ := fetchO_ok hT hh
    obtain ⟨rfl, h4⟩ := fetchO_ok hT hm
    refine eFin_ok rfl fun h => ⟨?_, pSlice_ok h⟩
    cases lo <;> cases hi <;> cases mx <;> simp only [Op.operands] <;> simp [needs, h1, h2, h3, h4]
  case pick c a b =>
    simp only
    split
    · rename_i hc
      split
      · rename_i v hv
        obtain ⟨e1, h1⟩ := fetch_ok hT hc
        obtain ⟨rfl, h2⟩ := fetch_ok hT hv
        refine ⟨(ev env c).cond ∧ (true = true → (ev env a).cond) ∧ (true = false → (ev env b).cond), ?_, h1, fun _ => h2, fun e => by cases e⟩
        show pick1 (ev env c) (ev env a) (ev env b) H = _
        have e1' : (ev env c).val = .bool true := e1
        unfold pick1
        rw [e1']
        simp only [rho]
        split
        · rename_i x y hx hy; rw [hx]; rfl
        · rfl
      · trivial
    · rename_i hc
      split
      · rename_i v hv
        obtain ⟨e1, h1⟩ := fetch_ok hT hc
        obtain ⟨rfl, h2⟩ := fetch_ok hT hv
        refine ⟨(ev env c).cond ∧ (false = true → (ev env a).cond) ∧ (false = false → (ev env b).cond), ?_, h1, fun e => by (cases e), fun _ => h2⟩
        show pick1 (ev env c) (ev env a) (ev env b) H = _
        have e1' : (ev env c).val = .bool false := e1
        unfold pick1
        rw [e1']
        simp only [rho]
        split
        · rename_i x y hx hy; rw [hy]; rfl
        · rfl
      · trivial
    · trivial
  case panic x =>
    simp only
    split
    · rename_i ty v hv
      obtain ⟨e1, h1⟩ := fetch_ok hT hv
      refine ⟨(ev env x).cond, [], ?_, h1⟩
      have e1' : (ev env x).val = .ifc ty v := e1
      show (match (ev env x).val with | .ifc t v => SR.pan (ev env x).cond (.ifc t v) [] | _ => .bad) = _
      rw [e1']
    · trivial
  case call c =>
    obtain ⟨callee, args, argTypes⟩ := c
    cases callee
    case value f =>
      simp only
      split
      · rename_i fid caps hf
        split
        · rename_i l hl
          obtain ⟨e1, h1⟩ := fetch_ok hT hf
          obtain ⟨rfl, h2⟩ := fetchL_ok hT hl
          have e1' : (ev env f).val = .fn fid caps := e1
          refine eCall_ok hΔ ?_ ⟨h1, h2⟩
          show (match (ev env f).val with
            | .fn fid caps => call1 C fid (args.toList.map (rho env) ++ caps) ((ev env f).cond ∧ needs (args.toList.map (ev env))) H
            | .bnd fid fs => call1 C fid (fs ++ args.toList.map (rho env)) ((ev env f).cond ∧ needs (args.toList.map (ev env))) H
            | _ => .bad) = _
          rw [e1']
        · trivial
      · rename_i fid fs hf
        split
        · rename_i l hl
          obtain ⟨e1, h1⟩ := fetch_ok hT hf
          obtain ⟨rfl, h2⟩ := fetchL_ok hT hl
          have e1' : (ev env f).val = .bnd fid fs := e1
          refine eCall_ok hΔ ?_ ⟨h1, h2⟩
          show (match (ev env f).val with
            | .fn fid caps => call1 C fid (args.toList.map (rho env) ++ caps) ((ev env f).cond ∧ needs (args.toList.map (ev env))) H
            | .bnd fid fs => call1 C fid (fs ++ args.toList.map (rho env)) ((ev env f).cond ∧ needs (args.toList.map (ev env))) H
            | _ => .bad) = _
          rw [e1']
        · trivial
      · trivial
    case builtin b =>
      simp only
      split
      · rename_i l hl
        obtain ⟨rfl, h2⟩ := fetchL_ok hT hl
        refine eFin_ok rfl fun h => ⟨?_, pBuiltin_ok h⟩
        have e : (Op.call { callee := .builtin b, args, argTypes }).operands.toList = args.toList := by simp [Op.operands, Call.operands]
        rw [e]; exact h2
      · trivial
    all_goals trivial
  all_goals trivial
end Go.Ab
