/- The examples of chapter 35 hold: the law abugidalaw35.CountsExamples, a closed run, returns true; the package-level tables that it lists are tied to the program's text. -/
import Derived.Test.YtiemejfbgmllfaaGreatDoorCards
import Derived.Test.YtiemejfbgmllfaaGreatDoorTie
import Derived.Test.YtiemejfbgmllfaaGreatDoorCAM
import Derived.ProofKit
import Derived.LaidMore
import Derived.OpenShut
import Derived.Stop.Joined
import Derived.Stop.LaidErr
import Derived.SevenTiedAt
import Derived.Lib.LaidTab
namespace Go.Proofs.YtiemejfbgmllfaaGreatDoor
open Go.ChangeShapes Go.WideShapes Go.ChangeAt Go.WideMaps Go.WideElems Go.RowKit

theorem ownK : ownKnob Tryz.prog.godebug = none := by kernel_rfl

abbrev laid3 : List (String × DataW Unit) := [("math/bits.deBruijn32tab", Rows.laid_math_bits_deBruijn32tab), ("math/bits.deBruijn64tab", Rows.laid_math_bits_deBruijn64tab), ("internal/strconv.uint64pow10", Rows.laid_internal_strconv_uint64pow10)]

theorem door_met (os : Os) (args : Array Value) : laidMetH Tryz.prog laid3 ((World.doorLaid Tryz.prog 400 os).forCall (fun _ _ => 0) ⟨#[], args, []⟩).memory :=
  laidMetH_of_parts3 (fuel := 8) (laidMet_of_run' 8 (by kernel_rfl) (by kernel_rfl)) (by kernel_rfl) (by kernel_rfl)

def tens : List Int := (List.range 20).map fun i => ((10 ^ i : Nat) : Int)
theorem tens_datum : (Rows.laid_internal_strconv_uint64pow10 : DataW Unit) = Lib.tabData .u64 tens := by kernel_rfl

theorem gTab : Tryz.prog.globalNamed "internal/strconv.uint64pow10" = some 1 := by kernel_rfl
theorem gTabT : (Tryz.prog.globals[1]?).map (·.type) = some 182 := by kernel_rfl
theorem under182 : Tryz.prog.underlying 182 = some (.array 20 101) := by kernel_rfl
theorem under101 : Tryz.prog.underlying 101 = some (.int .u64) := by kernel_rfl
theorem cells101 : Tryz.prog.cellsOf 101 = 1 := by kernel_rfl
theorem cells182 : Tryz.prog.cellsOf 182 = 20 := by kernel_rfl

/-- The table that the road reads, as it lies in memory. -/
theorem tab_of {W : World} (h : laidMetH Tryz.prog laid3 W) : ∃ t fr, W.heap[1]? = some (.cells (tens.map fun z => Value.int .u64 z).toArray t fr) := by
  rw [MakeChecks.laidMetH_plain _ _ _ (by kernel_rfl)] at h
  have h2 := h.tail.tail
  rw [tens_datum] at h2
  have h3 : W.var? Tryz.prog "internal/strconv.uint64pow10" = some (tens.map fun z => Value.int .u64 z).toArray := Lib.tabIs_of_head gTab gTabT under182 under101 cells101 cells182 h2
  unfold World.var? at h3
  rw [gTab] at h3
  simp only [Option.bind_some] at h3
  cases hb : W.heap[1]? with
  | none => rw [hb] at h3; cases h3
  | some o =>
    rw [hb] at h3
    cases o <;> first | (cases h3; exact ⟨_, _, rfl⟩) | cases h3

/-- The machine's contract, at the start of the law. -/
theorem call_of {W : World} (h : laidMetH Tryz.prog laid3 W) : Calls Tryz.prog 3 #[] W fun e W' => e = .returned (.bool true) ∧ Below W.heap.size W W' := by
  obtain ⟨t, fr, hb⟩ := tab_of h
  let arr : Array Value := (tens.map fun z => Value.int .u64 z).toArray
  let g : Go.Ab.G := ⟨fun _ => none, fun c => if c = 1 then some arr else none⟩
  have hphi : ∀ c a, g.phi c = some a → c = 1 ∧ a = arr := by
    intro c a e
    have e' : (if c = 1 then some arr else none) = some a := e
    split at e'
    · rename_i hc; exact ⟨hc, (Option.some.inj e').symm⟩
    · cases e'
  have hsz : arr.size = Go.Ab.pow10V.length := by kernel_rfl
  have hgok : Go.Ab.GOK g := by
    intro k cs e
    have e' : (if k = 1 then some Go.Ab.pow10V else none) = some cs := e
    split at e'
    rotate_left; · cases e'
    rename_i hk
    cases e'
    subst hk
    refine ⟨Go.Ab.VRel.mk_fp (arr := arr) (by show (if (1 : Nat) = 1 then some arr else none) = some arr; rw [if_pos rfl]) ?_, arr, by show (if (1 : Nat) = 1 then some arr else none) = some arr; rw [if_pos rfl], hsz⟩
    intro i x hx
    have hi : i < 20 := (List.getElem?_eq_some_iff.1 hx).1
    refine ⟨.int .u64 ((10 ^ i : Nat) : Int), ?_, ?_⟩
    · show arr[0 + i]? = _
      rw [Nat.zero_add]
      simp [arr, tens, hi]
    · have : Go.Ab.pow10V[i]? = some (.int .u64 ((10 ^ i : Nat) : Int)) := by simp [Go.Ab.pow10V, hi]
      rw [this] at hx
      cases hx
      exact .int _ _
  have hc := examples_call g W #[] hgok (fun c a e => by
    obtain ⟨rfl, rfl⟩ := hphi c a e
    exact ⟨t, fr, hb⟩) rfl (fun i x hx => by simp at hx)
  refine (GoCall_calls (Go.Ab.canB_ok (by kernel_rfl)) hc).mono fun e W' q => ?_
  obtain ⟨phi', vc, _, hbel, rfl, hv⟩ := q
  rw [hv.inv_bool]
  exact ⟨rfl, hbel⟩

set_option maxRecDepth 100000 in
theorem lifted (os : Os) (started : os.Started) (H : Type) (enc : TypeId × Value → H) :
    ReturnsInHanded {} Tryz.checked os 3 .any (fun w args => (Rows.countsExamplesSpec.pre enc Tryz.prog Tryz.f3 [] false w args ∧ laidMetH Tryz.prog laid3 w) ∧ sizedMet enc Tryz.prog Tryz.f3 (OpenSpec.ofChange Rows.countsExamplesSpec) false w args)
      (Rows.countsExamplesSpec.post enc Tryz.prog Tryz.f3 false true false false) := by
  refine returnsInHanded_of_change_and (C := Tryz.checked) (X := fun w _ => laidMetH Tryz.prog laid3 w) (fun _ _ _ hh h => h.of_heap hh) ownK started (by kernel_rfl) Tryz.func3
    (ChangeSpec.witness_shaped (enc := enc) (C := Tryz.checked) (os := os) (X := fun w _ => laidMetH Tryz.prog laid3 w) false (World.doorLaid Tryz.prog 400 os) #[] 8 rfl (World.shaped_of_RefB (by kernel_rfl) (by kernel_rfl)) (by kernel_rfl) (by kernel_rfl) (by kernel_rfl) (door_met os _)) ?_
  intro W base args ds gs before hval0 hW _ _ hL _
  have hW' := hW
  obtain ⟨p, q, hA0, hV, rfl, hfz, hnd⟩ := hW
  have hA : DataW.TrodAll enc Tryz.prog W 0 (fun _ => true) true Tryz.f3.params.toList args.toList ds p := hA0
  rw [Tryz.params3] at hA
  obtain ⟨rfl, rfl, rfl⟩ := trodAll_none hA
  obtain ⟨rfl, rfl⟩ := trodVars_none hV
  clear hA0 hval0
  refine (call_of hL).mono fun e W' ⟨he, bel⟩ => ?_
  subst he
  exact ⟨_, rfl, _, _, _, [], _, [], hW', trodAll_mk1 (shut_bool Tryz.underlying4 _), trodAll_mk0, rfl, bel.frame _, fun h => by cases h⟩

theorem examples_said : Rows.CountsExamplesSaid :=
  OpenClaim.holds_of_wide 3 Tryz.f3 rfl rfl rfl rfl rfl rfl rfl ⟨rfl, rfl, rfl, rfl, rfl⟩ rfl rfl rfl rfl rfl (by kernel_rfl) Tryz.func3 (by kernel_rfl)
    (of_decide_eq_true (by kernel_rfl)) (by unfold Func.isWrapper; first | (rw [if_pos (by decide +kernel)]; kernel_rfl) | (rw [if_neg (by decide +kernel)]; exact ⟨rfl, rfl⟩))
    (fun os started H enc _ => lifted os started H enc)

theorem examples_holds : Rows.CountsExamplesCardSaid :=
  Claim7.holds_tied_plain_at .later [] [.data, .data, .data] true (true, "998e599733753f482a93dcff2e46bcbfce69af1d1de43440215b7e7f4e582104") true
    examples_said (fun _ h => by cases h) (by kernel_rfl) (fun _ h => by cases h) countsExamples_row_tie rfl ⟨rfl, rfl⟩ (by kernel_rfl) rfl
    (fun f fn hf hfn => by
      obtain rfl : f = 3 := Option.some.inj ((show Tryz.prog.funcNamed "abugida/abugidalaw35.CountsExamples" = some 3 by kernel_rfl).symm.trans hf) |>.symm
      obtain rfl : fn = Tryz.f3 := (Option.some.inj (Tryz.func3.symm.trans hfn)).symm
      exact ⟨by kernel_rfl, fun j t ht => by
        rw [Tryz.params3] at ht
        simp at ht⟩)
    (by kernel_rfl)
#print axioms examples_holds
end Go.Proofs.YtiemejfbgmllfaaGreatDoor
