/- The reference's insertion into no slice at all. -/
import Derived.Test.YtajodjbnkeeonaaGreatDoorMA
import Derived.Test.YtajodjbnkeeonaaGreatDoorAbRules
import Derived.Test.YtajodjbnkeeonaaGreatDoorM9
set_option linter.unusedSimpArgs false
set_option linter.unusedVariables false
namespace Go.Proofs
open Go.Ab Go.Cnt
theorem ix_nil (k : IntKind) (n : Int) (H : Hp) : aIndexAddr Tryz.prog 25 .nilS (.int k n) H = ⟨False, .any, H, [], []⟩ := by
  simp [aIndexAddr, Tryz.underlying25, Tryz.size37, AR.bad]
theorem ld_bad (H : Hp) : aLoad Tryz.prog 37 .any H = ⟨False, .any, H, [], []⟩ := by
  simp [aLoad, Tryz.agg37, Tryz.size37, AR.bad]
theorem refs1_any : refs1 .any = [] := rfl
theorem order_any (y : V) : cOrder [.any, y] = none := by
  unfold cOrder conOf
  rw [dif_neg]
  rintro ⟨p, hp⟩
  simp at hp
set_option maxHeartbeats 4000000 in
set_option maxRecDepth 100000 in
theorem add_nil (x : Ent) : NCall Tryz.prog 25 [.nilS, .agg [.str x.1.1, .str x.1.2, .int .i64 x.2]] [] [] (.sl 0 0 1 3 none) ⟨[(0, .cells (cnts [x]))], 1⟩ := by
  refine NCall.walk (rs := [.tmp 4]) [0, 1, 3, 4, 5, 6, 7, 8, 13, 24, 40, 63] [] 0 mixed (extΓ_ok cOrder_ok noΓ_ok) (noΔ_ok) call25 Tryz.func25 rfl Tryz.ntmps25 rfl (by kernel_rfl) (by simp) (by simp) (by simp) ?_
  simp only [go_sem, Nat.reduceBEq, Nat.reduceSub, Nat.reduceAdd, Nat.reduceMul, Nat.reduceLT, Nat.reduceLeDiff, Nat.reduceEqDiff, Int.reduceToNat, Int.reduceAdd, Int.reduceSub, Int.reduceMul, Int.reduceLT, Int.reduceLE, Int.reduceEq]
  refine AXs.rounds mixed (extΓ_ok cOrder_ok noΓ_ok) noΔ_ok [] (by kernel_rfl) ?_
  simp only [go_sem, Nat.reduceBEq, Nat.reduceSub, Nat.reduceAdd, Nat.reduceMul, Nat.reduceLT, Nat.reduceLeDiff, Nat.reduceEqDiff, Int.reduceToNat, Int.reduceAdd, Int.reduceSub, Int.reduceMul, Int.reduceLT, Int.reduceLE, Int.reduceEq]
  refine AXa.go mixed (extΓ_ok cOrder_ok noΓ_ok) (noΔ_ok) (by kernel_rfl) ?_
  simp only [go_sem, order_none, order_none', eql_bad, List.take_nil, List.drop_nil, ix_nil, ld_bad, order_any, refs1_any, Nat.reduceBEq, Nat.reduceSub, Nat.reduceAdd, Nat.reduceMul, Nat.reduceLT, Nat.reduceLeDiff, Nat.reduceEqDiff, Int.reduceToNat, Int.reduceAdd, Int.reduceSub, Int.reduceMul, Int.reduceLT, Int.reduceLE, Int.reduceEq]
  refine AXs.rounds mixed (extΓ_ok cOrder_ok noΓ_ok) noΔ_ok [] (by kernel_rfl) ?_
  simp only [go_sem, Nat.reduceBEq, Nat.reduceSub, Nat.reduceAdd, Nat.reduceMul, Nat.reduceLT, Nat.reduceLeDiff, Nat.reduceEqDiff, Int.reduceToNat, Int.reduceAdd, Int.reduceSub, Int.reduceMul, Int.reduceLT, Int.reduceLE, Int.reduceEq]
  refine AXa.go mixed (extΓ_ok cOrder_ok noΓ_ok) (noΔ_ok) (by kernel_rfl) ?_
  simp only [go_sem, Nat.reduceBEq, Nat.reduceSub, Nat.reduceAdd, Nat.reduceMul, Nat.reduceLT, Nat.reduceLeDiff, Nat.reduceEqDiff, Int.reduceToNat, Int.reduceAdd, Int.reduceSub, Int.reduceMul, Int.reduceLT, Int.reduceLE, Int.reduceEq]
  refine ⟨[(4, .sl 0 0 1 3 none)], Sub.of [(0, 2)] rfl ?_ ?_ (by decide) (fun b hb hw => absurd hb (Nat.not_lt_zero b)), rfl⟩
  · simp only [go_sem, Nat.reduceBEq, Nat.reduceSub, Nat.reduceAdd, Nat.reduceMul, Nat.reduceLT, Nat.reduceLeDiff, Nat.reduceEqDiff, Int.reduceToNat, Int.reduceAdd, Int.reduceSub, Int.reduceMul, Int.reduceLT, Int.reduceLE, Int.reduceEq]
  · simp only [go_sem, cnts_cons, cnts_nil, Nat.reduceBEq, Nat.reduceSub, Nat.reduceAdd, Nat.reduceMul, Nat.reduceLT, Nat.reduceLeDiff, Nat.reduceEqDiff, Int.reduceToNat, Int.reduceAdd, Int.reduceSub, Int.reduceMul, Int.reduceLT, Int.reduceLE, Int.reduceEq]
def AddQ (args : List V) (H : Hp) (r : AR) : Prop :=
  AddR args H r ∨ ∃ x : Ent, args = [.nilS, .agg (entV x)] ∧ (∀ b x, H.get b = some x → b < H.next) ∧ r = ⟨True, .sl H.next 0 1 3 none, ⟨(H.next, .cells (cnts [x])) :: H.bs, H.next + 1⟩, [], []⟩
theorem addQ_ok : ∀ args H r, AddQ args H r → HCall Tryz.prog 25 args H r := by
  rintro args H r (h | ⟨x, rfl, hk, rfl⟩)
  · exact addR_ok args H r h
  · refine HCall.fresh (F := []) (add_nil x) (pure_cnts _) [] _ H rfl (by simp) ⟨rfl, fun i y z hy hz => ?_⟩ (fun i y hy => by simp at hy) (fun i y hy => by simp at hy) hk
    match i with
    | 0 => cases hy; cases hz; exact .same .nilS
    | 1 => cases hy; cases hz; exact agg_rn _ _ x
    | i + 2 => simp at hy
theorem addQ_uniq {args : List V} {H : Hp} {r r' : AR} (h : AddQ args H r) (h' : AddQ args H r') : r' = r := by
  have no : ∀ {args : List V} {H : Hp} {r : AR} {x : Ent}, AddR args H r → args ≠ [.nilS, .agg (entV x)] := by
    rintro args H r x ⟨b, l, y, _, _, _, _, _, _, _, _, h⟩ e
    rcases h with ⟨e', _⟩ | ⟨e', _⟩ | ⟨e', _⟩ <;> (rw [e] at e'; cases e')
  rcases h with h | ⟨x, e, _, rfl⟩ <;> rcases h' with h' | ⟨x', e', _, rfl⟩
  · exact addR_uniq h h'
  · exact absurd e' (no h)
  · exact absurd e (no h')
  · rw [e] at e'
    simp only [List.cons.injEq, V.agg.injEq, and_true, true_and] at e'
    rw [entV_inj e']
theorem addQ_has (b : Nat) (l : List Ent) (n : Nat) (s t : Str) (d : Int) (bs : List (Nat × Blk)) (nx : Nat) (hb : lookB bs b = some (.cells (cnts l))) (hn : n = l.length) (h : AddOK l ((s, t), d)) (hh : has l (s, t) = true) (hk : ((keysB bs).all fun b => decide (b < nx)) = true) :
    conD AddQ [.sl b 0 n 3 none, .agg [.str s, .str t, .int .i64 d]] ⟨bs, nx⟩ = some ⟨True, .sl b 0 (ins l ((s, t), d)).length 3 none, (⟨bs, nx⟩ : Hp).put b (.cells (cnts (ins l ((s, t), d)))), [b], [b]⟩ := by
  subst hn
  obtain ⟨h1, h2, h3, h4, h5, h6⟩ := h
  have hR : AddQ [.sl b 0 l.length 3 none, .agg [.str s, .str t, .int .i64 d]] ⟨bs, nx⟩ ⟨True, .sl b 0 (ins l ((s, t), d)).length 3 none, (⟨bs, nx⟩ : Hp).put b (.cells (cnts (ins l ((s, t), d)))), [b], [b]⟩ :=
    .inl ⟨b, l, ((s, t), d), (lookB_eq bs b).trans hb, h1, h2, h3, h4, h5, h6, keysLt hk, .inl ⟨rfl, hh, rfl⟩⟩
  exact conD_eq hR fun r' h' => addQ_uniq hR h'
theorem addQ_new (b : Nat) (l : List Ent) (n : Nat) (s t : Str) (d : Int) (bs : List (Nat × Blk)) (nx : Nat) (hb : lookB bs b = some (.cells (cnts l))) (hn : n = l.length) (h : AddOK l ((s, t), d)) (hh : has l (s, t) = false) (hk : ((keysB bs).all fun b => decide (b < nx)) = true) :
    conD AddQ [.sl b 0 n 3 none, .agg [.str s, .str t, .int .i64 d]] ⟨bs, nx⟩ = some ⟨True, .sl nx 0 (ins l ((s, t), d)).length 3 none, ((⟨bs, nx⟩ : Hp).kill b).new (.cells (cnts (ins l ((s, t), d)))), [b], [b]⟩ := by
  subst hn
  obtain ⟨h1, h2, h3, h4, h5, h6⟩ := h
  have hR : AddQ [.sl b 0 l.length 3 none, .agg [.str s, .str t, .int .i64 d]] ⟨bs, nx⟩ ⟨True, .sl nx 0 (ins l ((s, t), d)).length 3 none, ((⟨bs, nx⟩ : Hp).kill b).new (.cells (cnts (ins l ((s, t), d)))), [b], [b]⟩ :=
    .inl ⟨b, l, ((s, t), d), (lookB_eq bs b).trans hb, h1, h2, h3, h4, h5, h6, keysLt hk, .inr (.inl ⟨rfl, hh, rfl⟩)⟩
  exact conD_eq hR fun r' h' => addQ_uniq hR h'
theorem addQ_nil (s t : Str) (d : Int) (bs : List (Nat × Blk)) (nx : Nat) (hk : ((keysB bs).all fun b => decide (b < nx)) = true) :
    conD AddQ [.nilS, .agg [.str s, .str t, .int .i64 d]] ⟨bs, nx⟩ = some ⟨True, .sl nx 0 1 3 none, ⟨(nx, .cells (cnts [((s, t), d)])) :: bs, nx + 1⟩, [], []⟩ := by
  have hR : AddQ [.nilS, .agg [.str s, .str t, .int .i64 d]] ⟨bs, nx⟩ ⟨True, .sl nx 0 1 3 none, ⟨(nx, .cells (cnts [((s, t), d)])) :: bs, nx + 1⟩, [], []⟩ :=
    .inr ⟨((s, t), d), rfl, keysLt hk, rfl⟩
  exact conD_eq hR fun r' h' => addQ_uniq hR h'
noncomputable def Δq : FuncId → List V → Hp → Option AR := extΔ 25 (conD AddQ) noΔ
theorem Δq_has (b : Nat) (l : List Ent) (s t : Str) (d : Int) (bs : List (Nat × Blk)) (nx : Nat) (hb : lookB bs b = some (.cells (cnts l))) (h : AddOK l ((s, t), d)) (hh : has l (s, t) = true) (hk : ((keysB bs).all fun b => decide (b < nx)) = true) :
    Δq 25 [.sl b 0 l.length 3 none, .agg [.str s, .str t, .int .i64 d]] ⟨bs, nx⟩ = some ⟨True, .sl b 0 (ins l ((s, t), d)).length 3 none, (⟨bs, nx⟩ : Hp).put b (.cells (cnts (ins l ((s, t), d)))), [b], [b]⟩ := addQ_has b l _ s t d bs nx hb rfl h hh hk
theorem Δq_new (b : Nat) (l : List Ent) (s t : Str) (d : Int) (bs : List (Nat × Blk)) (nx : Nat) (hb : lookB bs b = some (.cells (cnts l))) (h : AddOK l ((s, t), d)) (hh : has l (s, t) = false) (hk : ((keysB bs).all fun b => decide (b < nx)) = true) :
    Δq 25 [.sl b 0 l.length 3 none, .agg [.str s, .str t, .int .i64 d]] ⟨bs, nx⟩ = some ⟨True, .sl nx 0 (ins l ((s, t), d)).length 3 none, ((⟨bs, nx⟩ : Hp).kill b).new (.cells (cnts (ins l ((s, t), d)))), [b], [b]⟩ := addQ_new b l _ s t d bs nx hb rfl h hh hk
theorem Δq_nil (s t : Str) (d : Int) (bs : List (Nat × Blk)) (nx : Nat) (hk : ((keysB bs).all fun b => decide (b < nx)) = true) :
    Δq 25 [.nilS, .agg [.str s, .str t, .int .i64 d]] ⟨bs, nx⟩ = some ⟨True, .sl nx 0 1 3 none, ⟨(nx, .cells (cnts [((s, t), d)])) :: bs, nx + 1⟩, [], []⟩ := addQ_nil s t d bs nx hk
theorem Δq_ok : GoodΔ Tryz.prog Δq := extΔ_ok (conD_ok addQ_ok) noΔ_ok
end Go.Proofs

/- Lists of things of several cells each, as cells. -/
namespace Go.Ab
structure Row (α : Type) where
  enc : α → List V
  n : Nat
  dflt : α
  len : ∀ a, (enc a).length = n
  pos : 0 < n
  pure : ∀ a, ∀ x ∈ enc a, Pure x
  one : ∀ a, (enc a).all V.one = true
  inj : ∀ a b, enc a = enc b → a = b
namespace Row
variable {α : Type} (R : Row α)
def cells (l : List α) : List V := l.flatMap R.enc
def nth (l : List α) (i : Nat) : α := l.getD i R.dflt
theorem cells_nil : R.cells [] = [] := rfl
theorem cells_cons (e : α) (l : List α) : R.cells (e :: l) = R.enc e ++ R.cells l := rfl
theorem cells_append (l r : List α) : R.cells (l ++ r) = R.cells l ++ R.cells r := by simp [cells]
theorem len_cells : ∀ l : List α, (R.cells l).length = l.length * R.n
  | [] => by simp [cells]
  | e :: l => by rw [cells_cons, List.length_append, R.len, len_cells l, List.length_cons, Nat.add_mul, Nat.one_mul, Nat.add_comm]
theorem cells_drop : ∀ (l : List α) (i : Nat), (R.cells l).drop (i * R.n) = R.cells (l.drop i)
  | l, 0 => by simp
  | [], i + 1 => by simp [cells_nil]
  | e :: l, i + 1 => by
    rw [cells_cons, Nat.add_mul, Nat.one_mul, Nat.add_comm, ← List.drop_drop, show R.n = (R.enc e).length by rw [R.len], List.drop_left, R.len]
    exact cells_drop l i
theorem cells_take : ∀ (l : List α) (i : Nat), (R.cells l).take (i * R.n) = R.cells (l.take i)
  | l, 0 => by simp [cells_nil]
  | [], i + 1 => by simp [cells_nil]
  | e :: l, i + 1 => by
    rw [cells_cons, List.take_succ_cons, cells_cons, ← cells_take l i, Nat.add_mul, Nat.one_mul, List.take_append, R.len, List.take_of_length_le (by rw [R.len]; omega), Nat.add_sub_cancel]
theorem nth_cons (e : α) (l : List α) (i : Nat) : R.nth (e :: l) (i + 1) = R.nth l i := by simp [nth]
theorem nth_cons0 (e : α) (l : List α) : R.nth (e :: l) 0 = e := by simp [nth]
theorem drop_nth : ∀ (l : List α) (i : Nat), i < l.length → l.drop i = R.nth l i :: l.drop (i + 1)
  | [], _, h => by simp at h
  | e :: l, 0, _ => rfl
  | e :: l, i + 1, h => by
    have := drop_nth l i (by simpa using h)
    simpa [nth] using this
theorem take_nth (l : List α) (i : Nat) (h : i < l.length) : l.take (i + 1) = l.take i ++ [R.nth l i] := by
  rw [List.take_add_one, nth, List.getD_eq_getElem?_getD, List.getElem?_eq_getElem h]; rfl
theorem nth_mem {l : List α} {i : Nat} (h : i < l.length) : R.nth l i ∈ l := by
  unfold nth
  rw [List.getD_eq_getElem?_getD, List.getElem?_eq_getElem h]
  exact List.getElem_mem h
theorem at_ (l : List α) (i : Nat) (h : i < l.length) : (R.cells l).drop (i * R.n) = R.enc (R.nth l i) ++ R.cells (l.drop (i + 1)) := by
  rw [cells_drop, R.drop_nth l i h, cells_cons]
theorem pure_cells (l : List α) : ∀ x ∈ R.cells l, Pure x := fun x h => by
  obtain ⟨a, _, h⟩ := List.mem_flatMap.1 h
  exact R.pure a x h
theorem pure_cellsP (l : List α) : (∀ x ∈ R.cells l, Pure x) ↔ True := ⟨fun _ => trivial, fun _ => R.pure_cells l⟩
theorem one_cells (l : List α) : (R.cells l).all V.one = true := List.all_eq_true.2 fun x h => by
  obtain ⟨a, _, h⟩ := List.mem_flatMap.1 h
  exact List.all_eq_true.1 (R.one a) x h
theorem cells_inj : ∀ {l r : List α}, R.cells l = R.cells r → l = r
  | [], [], _ => rfl
  | [], e :: r, h => by
    have := congrArg List.length h
    rw [len_cells, len_cells, List.length_cons, Nat.add_mul] at this
    have := R.pos
    simp at *; omega
  | e :: l, [], h => by
    have := congrArg List.length h
    rw [len_cells, len_cells, List.length_cons, Nat.add_mul] at this
    have := R.pos
    simp at *; omega
  | e :: l, e' :: r, h => by
    rw [cells_cons, cells_cons] at h
    obtain ⟨h1, h2⟩ := List.append_inj h (by rw [R.len, R.len])
    rw [R.inj _ _ h1, cells_inj h2]
theorem lrel_cells {π : Nat → Nat} {N : Nat → Prop} (l : List α) : LRel (Rn π N) (R.cells l) (R.cells l) ↔ True := ⟨fun _ => trivial, fun _ => lrel_same (R.pure_cells l)⟩
theorem cells_set : ∀ (l : List α) (i : Nat) (e : α), i < l.length → (R.cells l).take (i * R.n) ++ (R.enc e ++ (R.cells l).drop (i * R.n + R.n)) = R.cells (l.set i e) := by
  intro l i e h
  rw [R.cells_take, show i * R.n + R.n = (i + 1) * R.n by rw [Nat.add_mul, Nat.one_mul], R.cells_drop, ← R.cells_cons, ← R.cells_append]
  congr 1
  rw [List.set_eq_take_append_cons_drop, if_pos h]
theorem all_t {p : α → Bool} {l : List α} (h : ∀ i, i < l.length → p (R.nth l i) = true) : l.all p = true := by
  refine List.all_eq_true.2 fun x hx => ?_
  obtain ⟨i, hi, rfl⟩ := List.mem_iff_getElem.1 hx
  have := h i hi
  unfold nth at this
  rwa [List.getD_eq_getElem?_getD, List.getElem?_eq_getElem hi] at this
theorem all_f {p : α → Bool} {l : List α} {i : Nat} (hi : i < l.length) (h : p (R.nth l i) = false) : l.all p = false := by
  cases e : l.all p with
  | false => rfl
  | true => rw [List.all_eq_true.1 e _ (R.nth_mem hi)] at h; cases h
end Row
end Go.Ab

/- Tagged sentences: what is counted in them; no program in sight. -/
namespace Go.Cnt
abbrev Tok := Str × Str
def nthS (ss : List (List Tok)) (i : Nat) : List Tok := ss.getD i []
def nthT (s : List Tok) (j : Nat) : Tok := s.getD j ([], [])
def evN : Str → List Tok → List Ent
  | _, [] => []
  | p, t :: r => ((p, t.2), 1) :: evN t.2 r
def lastT : Str → List Tok → Str
  | p, [] => p
  | _, t :: r => lastT t.2 r
def nextS (s : List Tok) : List Ent := evN [] s ++ [((lastT [] s, []), 1)]
def emS (s : List Tok) : List Ent := s.map fun t => ((t.2, t.1), 1)
def nextA (ss : List (List Tok)) : List Ent := ss.flatMap nextS
def emA (ss : List (List Tok)) : List Ent := ss.flatMap emS
def evI (ss : List (List Tok)) (i j : Nat) : List Ent := nextA (ss.take i) ++ evN [] ((nthS ss i).take j)
def emI (ss : List (List Tok)) (i j : Nat) : List Ent := emA (ss.take i) ++ emS ((nthS ss i).take j)
theorem evN_app : ∀ (s r : List Tok) (p : Str), evN p (s ++ r) = evN p s ++ evN (lastT p s) r
  | [], _, _ => rfl
  | t :: s, r, p => by rw [List.cons_append, evN, evN, evN_app s r, lastT]; rfl
theorem lastT_app : ∀ (s r : List Tok) (p : Str), lastT p (s ++ r) = lastT (lastT p s) r
  | [], _, _ => rfl
  | t :: s, r, p => by rw [List.cons_append, lastT, lastT, lastT_app s r]
theorem takeT (s : List Tok) (j : Nat) (h : j < s.length) : s.take (j + 1) = s.take j ++ [nthT s j] := by
  rw [List.take_add_one, nthT, List.getD_eq_getElem?_getD, List.getElem?_eq_getElem h]; rfl
theorem takeS (ss : List (List Tok)) (i : Nat) (h : i < ss.length) : ss.take (i + 1) = ss.take i ++ [nthS ss i] := by
  rw [List.take_add_one, nthS, List.getD_eq_getElem?_getD, List.getElem?_eq_getElem h]; rfl
theorem lastT_step (s : List Tok) (j : Nat) (h : j < s.length) : lastT [] (s.take (j + 1)) = (nthT s j).2 := by rw [takeT s j h, lastT_app]; rfl
theorem evI_step (ss : List (List Tok)) (i j : Nat) (h : j < (nthS ss i).length) : evI ss i (j + 1) = evI ss i j ++ [((lastT [] ((nthS ss i).take j), (nthT (nthS ss i) j).2), 1)] := by
  unfold evI; rw [takeT _ j h, evN_app, List.append_assoc]; rfl
theorem evI_end (ss : List (List Tok)) (i : Nat) (h : i < ss.length) : evI ss (i + 1) 0 = evI ss i (nthS ss i).length ++ [((lastT [] (nthS ss i), []), 1)] := by
  unfold evI
  rw [takeS ss i h, List.take_length, nextA, List.flatMap_append, List.take_zero, evN, List.append_nil, List.append_assoc]
  show _ ++ (nextS (nthS ss i) ++ []) = _
  rw [List.append_nil]; rfl
theorem emI_step (ss : List (List Tok)) (i j : Nat) (h : j < (nthS ss i).length) : emI ss i (j + 1) = emI ss i j ++ [(((nthT (nthS ss i) j).2, (nthT (nthS ss i) j).1), 1)] := by
  unfold emI emS; rw [takeT _ j h, List.map_append, List.append_assoc]; rfl
theorem emI_end (ss : List (List Tok)) (i : Nat) (h : i < ss.length) : emI ss (i + 1) 0 = emI ss i (nthS ss i).length := by
  unfold emI
  rw [takeS ss i h, List.take_length, emA, List.flatMap_append, List.take_zero]
  show _ ++ (emS (nthS ss i) ++ []) ++ [] = _
  rw [List.append_nil, List.append_nil]; rfl
theorem evI_zero (ss : List (List Tok)) : evI ss 0 0 = [] := by simp [evI, nextA, evN]
theorem emI_zero (ss : List (List Tok)) : emI ss 0 0 = [] := by simp [emI, emA, emS]
theorem evI_all (ss : List (List Tok)) : evI ss ss.length 0 = nextA ss := by simp [evI, evN]
theorem emI_all (ss : List (List Tok)) : emI ss ss.length 0 = emA ss := by simp [emI, emS]
theorem evI_pre (ss : List (List Tok)) (i j : Nat) (hi : i ≤ ss.length) (hj : j ≤ (nthS ss i).length) : ∃ r, nextA ss = evI ss i j ++ r := by
  rcases Nat.lt_or_ge i ss.length with h | h
  · refine ⟨evN (lastT [] ((nthS ss i).take j)) ((nthS ss i).drop j) ++ [((lastT [] (nthS ss i), []), 1)] ++ nextA (ss.drop (i + 1)), ?_⟩
    have e1 : nextA ss = nextA (ss.take (i + 1)) ++ nextA (ss.drop (i + 1)) := by
      unfold nextA; rw [← List.flatMap_append, List.take_append_drop]
    have e2 : evN [] (nthS ss i) = evN [] ((nthS ss i).take j) ++ evN (lastT [] ((nthS ss i).take j)) ((nthS ss i).drop j) := by
      rw [← evN_app, List.take_append_drop]
    rw [e1, takeS ss i h]
    unfold evI
    rw [nextA, List.flatMap_append]
    show (_ ++ (nextS (nthS ss i) ++ [])) ++ _ = _
    rw [List.append_nil, nextS, e2]
    simp [nextA, List.append_assoc]
  · obtain rfl : i = ss.length := by omega
    have e : nthS ss ss.length = [] := by unfold nthS; rw [List.getD_eq_getElem?_getD, List.getElem?_eq_none (Nat.le_refl _)]; rfl
    exact ⟨[], by rw [List.append_nil]; unfold evI; rw [e]; simp [evN]⟩
theorem emI_pre (ss : List (List Tok)) (i j : Nat) (hi : i ≤ ss.length) (hj : j ≤ (nthS ss i).length) : ∃ r, emA ss = emI ss i j ++ r := by
  rcases Nat.lt_or_ge i ss.length with h | h
  · refine ⟨emS ((nthS ss i).drop j) ++ emA (ss.drop (i + 1)), ?_⟩
    have e1 : emA ss = emA (ss.take (i + 1)) ++ emA (ss.drop (i + 1)) := by
      unfold emA; rw [← List.flatMap_append, List.take_append_drop]
    have e2 : emS (nthS ss i) = emS ((nthS ss i).take j) ++ emS ((nthS ss i).drop j) := by
      unfold emS; rw [← List.map_append, List.take_append_drop]
    rw [e1, takeS ss i h]
    unfold emI
    rw [emA, List.flatMap_append]
    show (_ ++ (emS (nthS ss i) ++ [])) ++ _ = _
    rw [List.append_nil, e2]
    simp [emA, List.append_assoc]
  · obtain rfl : i = ss.length := by omega
    have e : nthS ss ss.length = [] := by unfold nthS; rw [List.getD_eq_getElem?_getD, List.getElem?_eq_none (Nat.le_refl _)]; rfl
    exact ⟨[], by rw [List.append_nil]; unfold emI; rw [e]; simp [emS]⟩
def Ones (l : List Ent) : Prop := ∀ e ∈ l, e.2 = 1
theorem evN_ones : ∀ (s : List Tok) (p : Str), Ones (evN p s)
  | [], _, _, h => by cases h
  | t :: s, p, e, h => by
    rcases List.mem_cons.1 h with rfl | h
    · rfl
    · exact evN_ones s t.2 e h
theorem nextA_ones (ss : List (List Tok)) : Ones (nextA ss) := fun e h => by
  obtain ⟨s, _, h⟩ := List.mem_flatMap.1 h
  rcases List.mem_append.1 h with h | h
  · exact evN_ones s [] e h
  · simp at h; rw [h]
theorem emA_ones (ss : List (List Tok)) : Ones (emA ss) := fun e h => by
  obtain ⟨s, _, h⟩ := List.mem_flatMap.1 h
  obtain ⟨t, _, rfl⟩ := List.mem_map.1 h
  rfl
theorem Ones.left {l r : List Ent} (h : Ones (l ++ r)) : Ones l := fun e he => h e (List.mem_append_left _ he)
theorem Ones.tot : ∀ {l : List Ent}, Ones l → ∀ k, 0 ≤ tot l k ∧ tot l k ≤ l.length
  | [], _, _ => by simp [Cnt.tot]
  | e :: l, h, k => by
    have h1 := h e (List.mem_cons_self ..)
    have h2 := Ones.tot (l := l) (fun x hx => h x (List.mem_cons_of_mem _ hx)) k
    rw [Cnt.tot, h1, List.length_cons]
    split <;> omega
theorem Ones.val {l : List Ent} (h : Ones l) (k : Key) : 0 ≤ val (l.foldl upd []) k ∧ val (l.foldl upd []) k ≤ l.length := by
  rw [val_fold_upd]
  have := h.tot k
  have e : Cnt.val [] k = 0 := rfl
  rw [e]
  omega
theorem fold_upd_len : ∀ (xs l : List Ent), (xs.foldl upd l).length ≤ l.length + xs.length
  | [], l => by simp
  | x :: xs, l => by
    have h1 := fold_upd_len xs (upd l x)
    have h2 : ∀ (l : List Ent), (upd l x).length ≤ l.length + 1 := by
      intro l
      induction l with
      | nil => simp [upd]
      | cons e l ih => rw [upd]; split <;> simp only [List.length_cons] <;> omega
    have := h2 l
    rw [List.foldl_cons, List.length_cons]; omega
theorem fold_upd_dif (xs : List Ent) : Dif (xs.foldl upd []) := (fold_perm xs (l := []) (m := []) .nil .nil (.refl _)).2.2
theorem fold_srt (xs : List Ent) : ∀ (l : List Ent), Inc l → (xs.foldl upd []).Perm l → xs.foldl ins [] = l := fun l h p =>
  Inc.perm_eq (fold_perm xs (l := []) (m := []) .nil .nil (.refl _)).2.1 h ((fold_perm xs (l := []) (m := []) .nil .nil (.refl _)).1.trans p)
theorem foldl_snoc {α β : Type} (f : α → β → α) (a : α) (l : List β) (x : β) : (l ++ [x]).foldl f a = f (l.foldl f a) x := by rw [List.foldl_append]; rfl
end Go.Cnt
