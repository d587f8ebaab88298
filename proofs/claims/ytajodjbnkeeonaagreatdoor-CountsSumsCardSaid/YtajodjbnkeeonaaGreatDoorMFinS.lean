/- The law abugidalaw35.CountsSums returns true for every two lists of sentences, and leaves them as they were: counting two lists together is merging their counts, and the numbers of pairs agree with those of tokens and sentences; the package-level tables that it lists are tied to the program's text. -/
import Derived.Test.YtajodjbnkeeonaaGreatDoorCards
import Derived.Test.YtajodjbnkeeonaaGreatDoorTie
import Derived.Test.YtajodjbnkeeonaaGreatDoorMH
import Derived.Test.YtajodjbnkeeonaaGreatDoorAbIn
import Derived.ProofKit
import Derived.LaidMore
import Derived.OpenShut
import Derived.Stop.Joined
import Derived.Stop.LaidErr
import Derived.SevenTiedAt
import Derived.Lib.LaidTab
import Derived.Carry
set_option linter.unusedSimpArgs false
set_option linter.unusedVariables false
namespace Go.Proofs.YtajodjbnkeeonaaGreatDoor
open Go.ChangeShapes Go.WideShapes Go.ChangeAt Go.WideMaps Go.WideElems Go.RowKit
theorem ownK : ownKnob Tryz.prog.godebug = none := by kernel_rfl
theorem laidOutK : laidOutB Tryz.prog = true := by kernel_rfl
abbrev laidL : List (String × DataW Unit) := [("math/bits.deBruijn32tab", Rows.laid_math_bits_deBruijn32tab), ("math/bits.deBruijn64tab", Rows.laid_math_bits_deBruijn64tab), ("internal/strconv.uint64pow10", Rows.laid_internal_strconv_uint64pow10)]
theorem door_met (os : Os) : laidMetH Tryz.prog laidL ((World.doorLaid Tryz.prog 400 os).forCall (fun _ _ => 0) ⟨#[], #[.slice none 0 0, .slice none 0 0], []⟩).memory :=
  laidMetH_of_parts3 (fuel := 8) (laidMet_of_run' 8 (by kernel_rfl) (by kernel_rfl)) (by kernel_rfl) (by kernel_rfl)
def tens : List Int := (List.range 20).map fun i => ((10 ^ i : Nat) : Int)
theorem tens_datum : (Rows.laid_internal_strconv_uint64pow10 : DataW Unit) = Lib.tabData .u64 tens := by kernel_rfl
theorem gTab : Tryz.prog.globalNamed "internal/strconv.uint64pow10" = some 1 := by kernel_rfl
theorem gTabT : (Tryz.prog.globals[1]?).map (·.type) = some 188 := by kernel_rfl
theorem underA : Tryz.prog.underlying 188 = some (.array 20 106) := by kernel_rfl
theorem underU : Tryz.prog.underlying 106 = some (.int .u64) := by kernel_rfl
theorem cellsU : Tryz.prog.cellsOf 106 = 1 := by kernel_rfl
theorem cellsA : Tryz.prog.cellsOf 188 = 20 := by kernel_rfl
theorem tab_of {W : World} (h : laidMetH Tryz.prog laidL W) : ∃ t fr, W.heap[1]? = some (.cells (tens.map fun z => Value.int .u64 z).toArray t fr) := by
  rw [MakeChecks.laidMetH_plain _ _ _ (by kernel_rfl)] at h
  have h2 := h.tail.tail
  rw [tens_datum] at h2
  have h3 : W.var? Tryz.prog "internal/strconv.uint64pow10" = some (tens.map fun z => Value.int .u64 z).toArray := Lib.tabIs_of_head gTab gTabT underA underU cellsU cellsA h2
  unfold World.var? at h3
  rw [gTab] at h3
  simp only [Option.bind_some] at h3
  cases hb : W.heap[1]? with
  | none => rw [hb] at h3; cases h3
  | some o =>
    rw [hb] at h3
    cases o <;> first | (cases h3; exact ⟨_, _, rfl⟩) | cases h3
theorem gok_of {W : World} (h : laidMetH Tryz.prog laidL W) : Go.Ab.GOK (Go.Ab.gW W) := by
  obtain ⟨t, fr, hb⟩ := tab_of h
  have hphi := Go.Ab.gW_of hb
  intro k cs e
  have e' : (if k = 1 then some Go.Ab.pow10V else none) = some cs := e
  split at e'
  rotate_left; · cases e'
  rename_i hk
  cases e'
  subst hk
  have hsz : (tens.map fun z => Value.int .u64 z).toArray.size = Go.Ab.pow10V.length := by kernel_rfl
  refine ⟨Go.Ab.VRel.mk_fp hphi ?_, _, hphi, hsz⟩
  intro i x hx
  have hi : i < 20 := (List.getElem?_eq_some_iff.1 hx).1
  refine ⟨.int .u64 ((10 ^ i : Nat) : Int), ?_, ?_⟩
  · show (tens.map fun z => Value.int .u64 z).toArray[0 + i]? = _
    rw [Nat.zero_add]
    simp [tens, hi]
  · have : Go.Ab.pow10V[i]? = some (.int .u64 ((10 ^ i : Nat) : Int)) := by simp [Go.Ab.pow10V, hi]
    rw [this] at hx
    cases hx
    exact .int _ _
theorem call_of {W : World} (h : laidMetH Tryz.prog laidL W) {args : Array Value} {vs : List Go.Ab.V} (hc : Go.Ab.PCall Tryz.prog 5 vs (.ret (.bool true))) (hs : args.size = vs.length) (hp : Go.Ab.PW (Go.Ab.gW W) vs (fun i => args[i]?)) :
    Calls Tryz.prog 5 args W fun e W' => e = .returned (.bool true) ∧ Below W.heap.size W W' := by
  have hc' := hc (Go.Ab.gW W) W args (gok_of h) Go.Ab.gW_frz hs hp
  refine (GoCall_calls (Go.Ab.canB_ok (by kernel_rfl)) hc').mono fun e W' q => ?_
  obtain ⟨phi', vc, _, hbel, rfl, hv⟩ := q
  rw [hv.inv_bool]
  exact ⟨rfl, hbel.os, hbel.tape.eq, hbel.output, hbel.size, hbel.block⟩
theorem paramsF : Tryz.f5.params.toList = [22, 22] := by kernel_rfl
theorem stand22 : Tryz.pinned.checked.prog.wantsStandIn (22 : Nat) = false := by kernel_rfl
set_option maxRecDepth 100000 in
theorem lifted (os : Os) (started : os.Started) (H : Type) (enc : TypeId × Value → H) :
    ReturnsInHanded {} Tryz.checked os 5 .any (fun w args => (Rows.countsSumsSpec.pre enc Tryz.prog Tryz.f5 [] false w args ∧ laidMetH Tryz.prog laidL w) ∧ sizedMet enc Tryz.prog Tryz.f5 (OpenSpec.ofChange Rows.countsSumsSpec) false w args)
      (Rows.countsSumsSpec.post enc Tryz.prog Tryz.f5 false true false false) := by
  refine returnsInHanded_of_change_and (C := Tryz.checked) (X := fun w _ => laidMetH Tryz.prog laidL w) (fun _ _ _ hh h => h.of_heap hh) ownK started (by kernel_rfl) Tryz.func5
    (ChangeSpec.witness_shaped (enc := enc) (C := Tryz.checked) (os := os) (X := fun w _ => laidMetH Tryz.prog laidL w) false (World.doorLaid Tryz.prog 400 os) #[.slice none 0 0, .slice none 0 0] 8 rfl (World.shaped_of_RefB (by kernel_rfl) (by kernel_rfl)) (by kernel_rfl) (by kernel_rfl) (by kernel_rfl) (door_met os)) ?_
  intro W base args ds gs before hval0 hW _ hwt hL _
  have hW' := hW
  obtain ⟨p, q, hA0, hV, rfl, hfz, hnd⟩ := hW
  have hA : DataW.TrodAll enc Tryz.prog W 0 (fun _ => true) true Tryz.f5.params.toList args.toList ds p := hA0
  rw [paramsF] at hA
  obtain ⟨v0, v1, d0, d1, p0, p1, rfl, rfl, rfl, h0, h1⟩ := trodAll_two hA
  obtain ⟨rfl, rfl⟩ := trodVars_none hV
  have hlt := DataW.TrodAll.lt hA
  have hwt' : ∀ n ∈ DataW.weightsEach Tryz.prog [22, 22] [d0, d1], n ≤ reachBytes := fun n hn => by
    have := List.all_eq_true.1 hwt n (by rw [paramsF, show Rows.countsSumsSpec.plain.varTypes Tryz.checked.prog = [] from rfl, List.append_nil, List.append_nil]; exact hn)
    simpa using this
  simp only [Go.Ab.weightsEach_cons] at hwt'
  have w0 : ∀ n ∈ d0.weights Tryz.prog 22, n ≤ reachBytes := fun n hn => hwt' n (List.mem_append_left _ hn)
  have w1 : ∀ n ∈ d1.weights Tryz.prog 22, n ≤ reachBytes := fun n hn => hwt' n (List.mem_append_right _ (List.mem_append_left _ hn))
  have hv0 : Value.okWide Tryz.prog W .any base 22 v0 := hval0 0 22 v0 rfl rfl
  have c0 : v0.cells = #[v0] := by
    obtain ⟨_, _, _, e⟩ := okWide_slice Tryz.underlying22 hv0
    rw [e]; rfl
  obtain ⟨a0, o0, r0⟩ := Go.Proofs.dSens.arg1 h0 c0 w0
  replace r0 := r0 _ rfl
  have hv1 : Value.okWide Tryz.prog W .any base 22 v1 := hval0 1 22 v1 rfl rfl
  have c1 : v1.cells = #[v1] := by
    obtain ⟨_, _, _, e⟩ := okWide_slice Tryz.underlying22 hv1
    rw [e]; rfl
  obtain ⟨a1, o1, r1⟩ := Go.Proofs.dSens.arg1 h1 c1 w1
  replace r1 := r1 _ rfl
  refine (call_of hL (Go.Proofs.sums2_ok a0 a1 (Go.Proofs.fits_of o0) (Go.Proofs.fits_of o1)) rfl (fun i x hx => by
    match i with
    | 0 => cases hx; exact ⟨v0, rfl, r0⟩
    | 1 => cases hx; exact ⟨v1, rfl, r1⟩
    | i + 2 => simp at hx)).mono fun e W' ⟨he, bel⟩ => ?_
  subst he
  have k0 := Below.trod laidOutK (by kernel_rfl) (of_decide_eq_true (by kernel_rfl)) h0 bel (fun x hx => hlt x (List.mem_append_left _ hx))
  have k1 := Below.trod laidOutK (by kernel_rfl) (of_decide_eq_true (by kernel_rfl)) h1 bel (fun x hx => hlt x (List.mem_append_right _ hx))
  exact ⟨_, rfl, _, _, _, [], _, [], hW', trodAll_mk1 (shut_bool Tryz.underlying4 _), trodAll_mk2 k0 k1, rfl, bel.frame _, fun h => by cases h⟩
theorem said : Rows.CountsSumsSaid :=
  OpenClaim.holds_of_wide 5 Tryz.f5 rfl rfl rfl rfl rfl rfl rfl ⟨rfl, rfl, rfl, rfl, rfl⟩ rfl rfl rfl rfl rfl (by kernel_rfl) Tryz.func5 (by kernel_rfl)
    (of_decide_eq_true (by kernel_rfl)) (by unfold Func.isWrapper; first | (rw [if_pos (by decide +kernel)]; kernel_rfl) | (rw [if_neg (by decide +kernel)]; exact ⟨rfl, rfl⟩))
    (fun os started H enc _ => lifted os started H enc)
theorem sums_holds : Rows.CountsSumsCardSaid :=
  Claim7.holds_tied_plain_at .later [] [.data, .data, .data] true (true, "fabf98ab7634a5970b8296a4d9bd917ee3609bd1845621f975874a6fe0d78291") true
    said (fun _ h => by cases h) (by kernel_rfl) (fun _ h => by cases h) countsSums_row_tie rfl ⟨rfl, rfl⟩ (by kernel_rfl) rfl
    (fun f fn hf hfn => by
      obtain rfl : f = 5 := Option.some.inj ((show Tryz.prog.funcNamed "abugida/abugidalaw35.CountsSums" = some 5 by kernel_rfl).symm.trans hf) |>.symm
      obtain rfl : fn = Tryz.f5 := (Option.some.inj (Tryz.func5.symm.trans hfn)).symm
      exact ⟨by kernel_rfl, fun j t ht => by
        rw [Tryz.params5] at ht
        match j with
        | 0 => exact (Option.some.inj ht : (22 : Nat) = t) ▸ stand22
        | 1 => exact (Option.some.inj ht : (22 : Nat) = t) ▸ stand22
        | j + 2 => simp at ht⟩)
    (by kernel_rfl)
#print axioms sums_holds
end Go.Proofs.YtajodjbnkeeonaaGreatDoor
