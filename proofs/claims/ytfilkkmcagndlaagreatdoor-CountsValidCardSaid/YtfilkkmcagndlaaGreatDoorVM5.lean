/- The statement's own function: whether any counts and any model are valid. -/
import Derived.Test.YtfilkkmcagndlaaGreatDoorVM3
import Derived.Test.YtfilkkmcagndlaaGreatDoorVM1
import Derived.Test.YtfilkkmcagndlaaGreatDoorAbEvP
import Derived.Test.YtfilkkmcagndlaaGreatDoorCards
import Derived.Test.YtfilkkmcagndlaaGreatDoorTie
import Derived.Test.YtfilkkmcagndlaaGreatDoorS0Types
import Derived.ProofKit
import Derived.LaidMore
import Derived.OpenShut
import Derived.Stop.Joined
import Derived.Stop.LaidErr
import Derived.SevenTiedAt
import Derived.Lib.LaidTab
import Derived.Carry
set_option linter.unusedSimpArgs false
set_option linter.unusedVariables false
set_option linter.all false
namespace Go.Proofs
open Go.Ab Go.Cnt Go.Pl
noncomputable def cAwake : List V → Option PR := conOf (fun _ : Unit => []) (fun _ => True) fun _ => .ret (.bool true)
@[go_sem] theorem cAwake_eq : cAwake [] = some (.ret (.bool true)) := conOf_eq (pat := fun _ : Unit => []) (fun _ _ _ => rfl) () trivial
theorem cAwake_ok : ∀ args r, cAwake args = some r → PCall Tryz.prog 8 args r := conOf_ok fun _ _ => awake_call
def fitM (m : Mdl) : Prop := m.tags.length ≤ 1000000000000000 ∧ m.words.length ≤ 1000000000000000 ∧ m.next.length ≤ 1000000000000000 ∧ m.emit.length ≤ 1000000000000000
noncomputable def cWide : List V → Option PR := conOf (fun m : Mdl => [mdlV m]) fitM fun m => .ret (.bool (!mdlL m))
theorem cWide_eq (m : Mdl) (h : fitM m) : cWide [mdlV m] = some (.ret (.bool (!mdlL m))) := conOf_eq (pat := fun m : Mdl => [mdlV m]) (fun x y h => mdlV_inj (by simpa using h)) m h
theorem cWide_ok : ∀ args r, cWide args = some r → PCall Tryz.prog 7 args r := conOf_ok fun m h => wide_ok m h.1 h.2.1 h.2.2.1 h.2.2.2
noncomputable def cVM : List V → Option PR := conOf (fun m : Mdl => [mdlV m]) Fit fun m => .ret (.bool (vmB m))
theorem cVM_eq (m : Mdl) (h : Fit m) : cVM [mdlV m] = some (.ret (.bool (vmB m))) := conOf_eq (pat := fun m : Mdl => [mdlV m]) (fun x y h => mdlV_inj (by simpa using h)) m h
theorem cVM_ok : ∀ args r, cVM args = some r → PCall Tryz.prog 11 args r := conOf_ok validModel_ok
noncomputable def cRVM : List V → Option PR := conOf (fun m : Mdl => [mdlV m]) Fit fun m => .ret (.bool (vmB m))
theorem cRVM_eq (m : Mdl) (h : Fit m) : cRVM [mdlV m] = some (.ret (.bool (vmB m))) := conOf_eq (pat := fun m : Mdl => [mdlV m]) (fun x y h => mdlV_inj (by simpa using h)) m h
theorem cRVM_ok : ∀ args r, cRVM args = some r → PCall Tryz.prog 12 args r := conOf_ok rvalidModel_ok
theorem fit_of {m : Mdl} (h : mdlL m = true) : Fit m := by
  obtain ⟨T, W, N, E⟩ := m
  simp only [mdlL, matL, rowL, strL, Bool.and_eq_true, decide_eq_true_eq, List.all_eq_true, List.mem_cons, List.not_mem_nil, or_false] at h
  obtain ⟨⟨h1, h2, h3, h4⟩, h5, h6, h7⟩ := h
  have t := h7 T (.inl rfl)
  have w := h7 W (.inr rfl)
  exact ⟨by dsimp only at *; omega, by dsimp only at *; omega, by dsimp only at *; omega, by dsimp only at *; omega, fun s hs => Nat.le_trans (t.2 s hs) (by omega), fun s hs => Nat.le_trans (w.2 s hs) (by omega),
    fun r hr => Nat.le_trans (h5 r hr).1 (by omega), fun r hr => Nat.le_trans (h6 r hr).1 (by omega), fun r hr s hs => Nat.le_trans ((h5 r hr).2 s hs) (by omega), fun r hr s hs => Nat.le_trans ((h6 r hr).2 s hs) (by omega)⟩
set_option maxHeartbeats 8000000 in
set_option maxRecDepth 100000 in
theorem valid_law (a b : List Ent) (m : Mdl) (hm : fitM m) : PCall Tryz.prog 3 [.agg [.fs (cnts a) a.length, .fs (cnts b) b.length], mdlV m] (.ret (.bool true)) := by
  refine PCall.walk (rs := [.tmp 4]) [0, 1, 2, 3, 4, 14] [] mixed (extΓ_ok cLarge_ok (extΓ_ok cWide_ok (extΓ_ok cAwake_ok (extΓ_ok cCValid_ok (extΓ_ok cRValid_ok (extΓ_ok cVM_ok (extΓ_ok cRVM_ok noΓ_ok))))))) (noΔ_ok) call3 Tryz.func3 rfl Tryz.ntmps3 rfl (by kernel_rfl) (by simp) (by simp [pure_bool, pure_int, pure_str, pure_fs, pure_fp, pure_fn, pure_agg, pure_tup, pure_nilS, pure_nilP, pure_natsP, pure_intsP, pure_strsP, pure_list, pure_cntsP, mdl_pure]) ?_
  obtain ⟨T, W, N, E⟩ := m
  have hw : cWide [.agg [.fs (strs T) T.length, .fs (strs W) W.length, .fs (rowsC N) N.length, .fs (rowsC E) E.length]] = some (.ret (.bool (!mdlL ⟨T, W, N, E⟩))) := cWide_eq _ hm
  have hf : mdlL ⟨T, W, N, E⟩ = true → cVM [.agg [.fs (strs T) T.length, .fs (strs W) W.length, .fs (rowsC N) N.length, .fs (rowsC E) E.length]] = some (.ret (.bool (vmB ⟨T, W, N, E⟩))) ∧
      cRVM [.agg [.fs (strs T) T.length, .fs (strs W) W.length, .fs (rowsC N) N.length, .fs (rowsC E) E.length]] = some (.ret (.bool (vmB ⟨T, W, N, E⟩))) := fun h => ⟨cVM_eq _ (fit_of h), cRVM_eq _ (fit_of h)⟩
  generalize vmB ⟨T, W, N, E⟩ = R at hf
  generalize mdlL ⟨T, W, N, E⟩ = L at hf hw
  clear hm
  cases hb : (listL a && listL b) with
  | false => simp (disch := (first | assumption | omega | (simp only [push_cast] <;> omega))) only [go_sem, mdlV, hb, hw]
  | true =>
    have hb' : listL a = true ∧ listL b = true := by simpa using hb
    obtain ⟨m1, s1⟩ := listL_iff hb'.1
    obtain ⟨m2, s2⟩ := listL_iff hb'.2
    cases L with
    | false => simp (disch := (first | assumption | omega | (simp only [push_cast] <;> omega))) only [go_sem, mdlV, hb, hw]
    | true =>
      obtain ⟨f1, f2⟩ := hf rfl
      simp (disch := (first | assumption | omega | (simp only [push_cast] <;> omega))) only [go_sem, mdlV, hb, hw, f1, f2]
      refine AXk.intro (by kernel_rfl) ?_
      simp (disch := (first | assumption | omega | (simp only [push_cast] <;> omega))) only [go_sem]
end Go.Proofs

/- Counts and a model that came in. -/
namespace Go.Proofs
open Go.Ab Go.Cnt Go.Pl
def entR : Row Ent where
  enc := entV
  n := 3
  dflt := (([], []), 0)
  len _ := rfl
  pos := by decide
  pure a x h := by
    simp only [entV, List.mem_cons, List.not_mem_nil, or_false] at h
    rcases h with rfl | rfl | rfl
    · exact .str _
    · exact .str _
    · exact .int _ _
  one _ := rfl
  inj a b h := entV_inj h
theorem dStr : Dec Tryz.prog 9 strR (fun s => s.length ≤ reachBytes) := Dec.str Tryz.underlying9 (by kernel_rfl)
theorem dInt : Dec Tryz.prog 3 (intR .i64) (fun n => (Lit.int .i64 n).wf = true) := Dec.int Tryz.underlying3 (by kernel_rfl)
theorem dEnt : Dec Tryz.prog 44 entR (fun _ => True) := (Dec.three Tryz.underlying44 dStr dStr dInt rfl rfl rfl (by kernel_rfl)).cast (fun a => a) rfl (fun _ => rfl) fun _ _ => trivial
theorem dEnts : Dec Tryz.prog 22 (slR entR) (fun l => l.length ≤ reachBytes) := (dEnt.slice Tryz.underlying22 (by kernel_rfl) (of_decide_eq_true (by kernel_rfl))).cast (fun a => a) rfl (fun _ => rfl) fun _ h => h.1
theorem dCnts : Dec Tryz.prog 24 (pairR (slR entR) (slR entR)) (fun p => p.1.length ≤ reachBytes ∧ p.2.length ≤ reachBytes) :=
  Dec.two Tryz.underlying24 dEnts dEnts rfl rfl (by kernel_rfl)
theorem dStrs : Dec Tryz.prog 25 (slR strR) (fun l => l.length ≤ reachBytes) := (dStr.slice Tryz.underlying25 (by kernel_rfl) (of_decide_eq_true (by kernel_rfl))).cast (fun a => a) rfl (fun _ => rfl) fun _ h => h.1
theorem dRows : Dec Tryz.prog 26 (slR (slR strR)) (fun l => l.length ≤ reachBytes) := (dStrs.slice Tryz.underlying26 (by kernel_rfl) (of_decide_eq_true (by kernel_rfl))).cast (fun a => a) rfl (fun _ => rfl) fun _ h => h.1
theorem dMdl : Dec Tryz.prog 28 (pairR (pairR (pairR (slR strR) (slR strR)) (slR (slR strR))) (slR (slR strR))) (fun p => ((p.1.1.1.length ≤ reachBytes ∧ p.1.1.2.length ≤ reachBytes) ∧ p.1.2.length ≤ reachBytes) ∧ p.2.length ≤ reachBytes) :=
  Dec.four Tryz.underlying28 dStrs dStrs dRows dRows rfl rfl rfl rfl (by kernel_rfl)
theorem reach_le {n : Nat} (h : n ≤ reachBytes) : n ≤ 1000000000000000 := Nat.le_trans h (by unfold reachBytes; omega)
theorem valid_in (c : List Ent × List Ent) (m : ((List Str × List Str) × List (List Str)) × List (List Str)) (hm : ((m.1.1.1.length ≤ reachBytes ∧ m.1.1.2.length ≤ reachBytes) ∧ m.1.2.length ≤ reachBytes) ∧ m.2.length ≤ reachBytes) :
    PCall Tryz.prog 3 [.agg ((pairR (slR entR) (slR entR)).enc c), .agg ((pairR (pairR (pairR (slR strR) (slR strR)) (slR (slR strR))) (slR (slR strR))).enc m)] (.ret (.bool true)) := by
  obtain ⟨a, b⟩ := c
  obtain ⟨⟨⟨T, W⟩, N⟩, E⟩ := m
  have h := valid_law a b ⟨T, W, N, E⟩ ⟨reach_le hm.1.1.1, reach_le hm.1.1.2, reach_le hm.1.2, reach_le hm.2⟩
  have e : V.agg ((pairR (pairR (pairR (slR strR) (slR strR)) (slR (slR strR))) (slR (slR strR))).enc (((T, W), N), E)) = mdlV ⟨T, W, N, E⟩ := by
    show V.agg ((([V.fs (strR.cells T) T.length] ++ [V.fs (strR.cells W) W.length]) ++ [V.fs ((slR strR).cells N) N.length]) ++ [V.fs ((slR strR).cells E) E.length]) = _
    rw [strR_cells, strR_cells, rowR_sl, rowR_sl]
    rfl
  rw [e]
  exact h
end Go.Proofs

/- The law abugidalaw35.CountsValid returns true for every counts and every model, and leaves them as they were: the program's Valid and ValidModel give what the reference's give; the package-level tables that it lists are tied to the program's text. -/
namespace Go.Proofs.YtfilkkmcagndlaaGreatDoor
open Go.ChangeShapes Go.WideShapes Go.ChangeAt Go.WideMaps Go.WideElems Go.RowKit
theorem ownK : ownKnob Tryz.prog.godebug = none := by kernel_rfl
theorem laidOutK : laidOutB Tryz.prog = true := by kernel_rfl
abbrev laidL : List (String × DataW Unit) := [("math/bits.deBruijn32tab", Rows.laid_math_bits_deBruijn32tab), ("math/bits.deBruijn64tab", Rows.laid_math_bits_deBruijn64tab), ("internal/strconv.uint64pow10", Rows.laid_internal_strconv_uint64pow10)]
theorem door_met (os : Os) : laidMetH Tryz.prog laidL ((World.doorLaid Tryz.prog 400 os).forCall (fun _ _ => 0) ⟨#[], #[.agg #[.slice none 0 0, .slice none 0 0], .agg #[.slice none 0 0, .slice none 0 0, .slice none 0 0, .slice none 0 0]], []⟩).memory :=
  laidMetH_of_parts3 (fuel := 8) (laidMet_of_run' 8 (by kernel_rfl) (by kernel_rfl)) (by kernel_rfl) (by kernel_rfl)
def tens : List Int := (List.range 20).map fun i => ((10 ^ i : Nat) : Int)
theorem tens_datum : (Rows.laid_internal_strconv_uint64pow10 : DataW Unit) = Lib.tabData .u64 tens := by kernel_rfl
theorem gTab : Tryz.prog.globalNamed "internal/strconv.uint64pow10" = some 1 := by kernel_rfl
theorem gTabT : (Tryz.prog.globals[1]?).map (·.type) = some 192 := by kernel_rfl
theorem underA : Tryz.prog.underlying 192 = some (.array 20 108) := by kernel_rfl
theorem underU : Tryz.prog.underlying 108 = some (.int .u64) := by kernel_rfl
theorem cellsU : Tryz.prog.cellsOf 108 = 1 := by kernel_rfl
theorem cellsA : Tryz.prog.cellsOf 192 = 20 := by kernel_rfl
theorem tab_of {W : World} (h : laidMetH Tryz.prog laidL W) : ∃ t fr, W.heap[1]? = some (.cells (tens.map fun z => Value.int .u64 z).toArray t fr) := by
  rw [MakeChecks.laidMetH_plain _ _ _ (by kernel_rfl)] at h
  have h2 := h.tail.tail
  rw [tens_datum] at h2
  have h3 : W.var? Tryz.prog "internal/strconv.uint64pow10" = some (tens.map fun z => Value.int .u64 z).toArray := Lib.tabIs_of_head gTab gTabT underA underU cellsU cellsA h2
  unfold World.var? at h3
  rw [gTab] at h3
  simp only [Option.bind_some] at h3
  cases hb : W.heap[1]? with
  | none => rw [hb] at h3; cases h3
  | some o =>
    rw [hb] at h3
    cases o <;> first | (cases h3; exact ⟨_, _, rfl⟩) | cases h3
theorem gok_of {W : World} (h : laidMetH Tryz.prog laidL W) : Go.Ab.GOK (Go.Ab.gW W) := by
  obtain ⟨t, fr, hb⟩ := tab_of h
  have hphi := Go.Ab.gW_of hb
  intro k cs e
  have e' : (if k = 1 then some Go.Ab.pow10V else none) = some cs := e
  split at e'
  rotate_left; · cases e'
  rename_i hk
  cases e'
  subst hk
  have hsz : (tens.map fun z => Value.int .u64 z).toArray.size = Go.Ab.pow10V.length := by kernel_rfl
  refine ⟨Go.Ab.VRel.mk_fp hphi ?_, _, hphi, hsz⟩
  intro i x hx
  have hi : i < 20 := (List.getElem?_eq_some_iff.1 hx).1
  refine ⟨.int .u64 ((10 ^ i : Nat) : Int), ?_, ?_⟩
  · show (tens.map fun z => Value.int .u64 z).toArray[0 + i]? = _
    rw [Nat.zero_add]
    simp [tens, hi]
  · have : Go.Ab.pow10V[i]? = some (.int .u64 ((10 ^ i : Nat) : Int)) := by simp [Go.Ab.pow10V, hi]
    rw [this] at hx
    cases hx
    exact .int _ _
theorem call_of {W : World} (h : laidMetH Tryz.prog laidL W) {args : Array Value} {vs : List Go.Ab.V} (hc : Go.Ab.PCall Tryz.prog 3 vs (.ret (.bool true))) (hs : args.size = vs.length) (hp : Go.Ab.PW (Go.Ab.gW W) vs (fun i => args[i]?)) :
    Calls Tryz.prog 3 args W fun e W' => e = .returned (.bool true) ∧ Below W.heap.size W W' := by
  have hc' := hc (Go.Ab.gW W) W args (gok_of h) Go.Ab.gW_frz hs hp
  refine (GoCall_calls (Go.Ab.canB_ok (by kernel_rfl)) hc').mono fun e W' q => ?_
  obtain ⟨phi', vc, _, hbel, rfl, hv⟩ := q
  rw [hv.inv_bool]
  exact ⟨rfl, hbel.os, hbel.tape.eq, hbel.output, hbel.size, hbel.block⟩
theorem paramsF : Tryz.f3.params.toList = [24, 28] := by kernel_rfl
theorem stand24 : Tryz.pinned.checked.prog.wantsStandIn (24 : Nat) = false := by kernel_rfl
theorem stand28 : Tryz.pinned.checked.prog.wantsStandIn (28 : Nat) = false := by kernel_rfl
set_option maxRecDepth 100000 in
theorem lifted (os : Os) (started : os.Started) (H : Type) (enc : TypeId × Value → H) :
    ReturnsInHanded {} Tryz.checked os 3 .any (fun w args => (Rows.countsValidSpec.pre enc Tryz.prog Tryz.f3 [] false w args ∧ laidMetH Tryz.prog laidL w) ∧ sizedMet enc Tryz.prog Tryz.f3 (OpenSpec.ofChange Rows.countsValidSpec) false w args)
      (Rows.countsValidSpec.post enc Tryz.prog Tryz.f3 false true false false) := by
  refine returnsInHanded_of_change_and (C := Tryz.checked) (X := fun w _ => laidMetH Tryz.prog laidL w) (fun _ _ _ hh h => h.of_heap hh) ownK started (by kernel_rfl) Tryz.func3
    (ChangeSpec.witness_shaped (enc := enc) (C := Tryz.checked) (os := os) (X := fun w _ => laidMetH Tryz.prog laidL w) false (World.doorLaid Tryz.prog 400 os) #[.agg #[.slice none 0 0, .slice none 0 0], .agg #[.slice none 0 0, .slice none 0 0, .slice none 0 0, .slice none 0 0]] 8 rfl (World.shaped_of_RefB (by kernel_rfl) (by kernel_rfl)) (by kernel_rfl) (by kernel_rfl) (by kernel_rfl) (door_met os)) ?_
  intro W base args ds gs before hval0 hW _ hwt hL _
  have hW' := hW
  obtain ⟨p, q, hA0, hV, rfl, hfz, hnd⟩ := hW
  have hA : DataW.TrodAll enc Tryz.prog W 0 (fun _ => true) true Tryz.f3.params.toList args.toList ds p := hA0
  rw [paramsF] at hA
  obtain ⟨v0, v1, d0, d1, p0, p1, rfl, rfl, rfl, h0, h1⟩ := trodAll_two hA
  obtain ⟨rfl, rfl⟩ := trodVars_none hV
  have hlt := DataW.TrodAll.lt hA
  have hwt' : ∀ n ∈ DataW.weightsEach Tryz.prog [24, 28] [d0, d1], n ≤ reachBytes := fun n hn => by
    have := List.all_eq_true.1 hwt n (by rw [paramsF, show Rows.countsValidSpec.plain.varTypes Tryz.checked.prog = [] from rfl, List.append_nil, List.append_nil]; exact hn)
    simpa using this
  simp only [Go.Ab.weightsEach_cons] at hwt'
  have w0 : ∀ n ∈ d0.weights Tryz.prog 24, n ≤ reachBytes := fun n hn => hwt' n (List.mem_append_left _ hn)
  have w1 : ∀ n ∈ d1.weights Tryz.prog 28, n ≤ reachBytes := fun n hn => hwt' n (List.mem_append_right _ (List.mem_append_left _ hn))
  have hv0 : Value.okWide Tryz.prog W .any base 24 v0 := hval0 0 24 v0 rfl rfl
  have c0 : ∃ cs, v0 = .agg cs := by
    obtain ⟨cs, e, _⟩ := okWide_struct Tryz.underlying24 hv0
    exact ⟨cs, e⟩
  obtain ⟨a0, o0, r0⟩ := Go.Proofs.dCnts.argS h0 c0 w0
  have hv1 : Value.okWide Tryz.prog W .any base 28 v1 := hval0 1 28 v1 rfl rfl
  have c1 : ∃ cs, v1 = .agg cs := by
    obtain ⟨cs, e, _⟩ := okWide_struct Tryz.underlying28 hv1
    exact ⟨cs, e⟩
  obtain ⟨a1, o1, r1⟩ := Go.Proofs.dMdl.argS h1 c1 w1
  refine (call_of hL (Go.Proofs.valid_in a0 a1 o1) rfl (fun i x hx => by
    match i with
    | 0 => cases hx; exact ⟨v0, rfl, r0⟩
    | 1 => cases hx; exact ⟨v1, rfl, r1⟩
    | i + 2 => simp at hx)).mono fun e W' ⟨he, bel⟩ => ?_
  subst he
  have k0 := Below.trod laidOutK (by kernel_rfl) (of_decide_eq_true (by kernel_rfl)) h0 bel (fun x hx => hlt x (List.mem_append_left _ hx))
  have k1 := Below.trod laidOutK (by kernel_rfl) (of_decide_eq_true (by kernel_rfl)) h1 bel (fun x hx => hlt x (List.mem_append_right _ hx))
  exact ⟨_, rfl, _, _, _, [], _, [], hW', trodAll_mk1 (shut_bool Tryz.underlying4 _), trodAll_mk2 k0 k1, rfl, bel.frame _, fun h => by cases h⟩
theorem said : Rows.CountsValidSaid :=
  OpenClaim.holds_of_wide 3 Tryz.f3 rfl rfl rfl rfl rfl rfl rfl ⟨rfl, rfl, rfl, rfl, rfl⟩ rfl rfl rfl rfl rfl (by kernel_rfl) Tryz.func3 (by kernel_rfl)
    (of_decide_eq_true (by kernel_rfl)) (by unfold Func.isWrapper; first | (rw [if_pos (by decide +kernel)]; kernel_rfl) | (rw [if_neg (by decide +kernel)]; exact ⟨rfl, rfl⟩))
    (fun os started H enc _ => lifted os started H enc)
theorem valid_holds : Rows.CountsValidCardSaid :=
  Claim7.holds_tied_plain_at .later [] [.data, .data, .data] true (true, "7c4c12853d54250aee831335b6fcfbeafb1da9c7f49def67bb69e590115736e1") true
    said (fun _ h => by cases h) (by kernel_rfl) (fun _ h => by cases h) countsValid_row_tie rfl ⟨rfl, rfl⟩ (by kernel_rfl) rfl
    (fun f fn hf hfn => by
      obtain rfl : f = 3 := Option.some.inj ((show Tryz.prog.funcNamed "abugida/abugidalaw35.CountsValid" = some 3 by kernel_rfl).symm.trans hf) |>.symm
      obtain rfl : fn = Tryz.f3 := (Option.some.inj (Tryz.func3.symm.trans hfn)).symm
      exact ⟨by kernel_rfl, fun j t ht => by
        rw [Tryz.params3] at ht
        match j with
        | 0 => exact (Option.some.inj ht : (24 : Nat) = t) ▸ stand24
        | 1 => exact (Option.some.inj ht : (28 : Nat) = t) ▸ stand28
        | j + 2 => simp at ht⟩)
    (by kernel_rfl)
#print axioms valid_holds
end Go.Proofs.YtfilkkmcagndlaaGreatDoor
