/- The law abugidalaw35.CountsMerges returns true for every two counts, and leaves them as they were: the program's Merge gives what the reference's gives, in either order; the package-level tables that it lists are tied to the program's text. -/
import Derived.Test.YtajodjbnkeeonaaGreatDoorCards
import Derived.Test.YtajodjbnkeeonaaGreatDoorTie
import Derived.Test.YtajodjbnkeeonaaGreatDoorMIn
import Derived.ProofKit
import Derived.LaidMore
import Derived.OpenShut
import Derived.Stop.Joined
import Derived.Stop.LaidErr
import Derived.SevenTiedAt
import Derived.Lib.LaidTab
import Derived.Carry
set_option linter.unusedSimpArgs false
set_option linter.unusedVariables false
namespace Go.Proofs.YtajodjbnkeeonaaGreatDoor
open Go.ChangeShapes Go.WideShapes Go.ChangeAt Go.WideMaps Go.WideElems Go.RowKit

theorem ownK : ownKnob Tryz.prog.godebug = none := by kernel_rfl
theorem laidOutK : laidOutB Tryz.prog = true := by kernel_rfl

abbrev laid3 : List (String × DataW Unit) := [("math/bits.deBruijn32tab", Rows.laid_math_bits_deBruijn32tab), ("math/bits.deBruijn64tab", Rows.laid_math_bits_deBruijn64tab), ("internal/strconv.uint64pow10", Rows.laid_internal_strconv_uint64pow10)]

def nils : Value := .agg #[.slice none 0 0, .slice none 0 0]
theorem door_met (os : Os) : laidMetH Tryz.prog laid3 ((World.doorLaid Tryz.prog 400 os).forCall (fun _ _ => 0) ⟨#[], #[nils, nils], []⟩).memory :=
  laidMetH_of_parts3 (fuel := 8) (laidMet_of_run' 8 (by kernel_rfl) (by kernel_rfl)) (by kernel_rfl) (by kernel_rfl)

def tens : List Int := (List.range 20).map fun i => ((10 ^ i : Nat) : Int)
theorem tens_datum : (Rows.laid_internal_strconv_uint64pow10 : DataW Unit) = Lib.tabData .u64 tens := by kernel_rfl

theorem gTab : Tryz.prog.globalNamed "internal/strconv.uint64pow10" = some 1 := by kernel_rfl
theorem gTabT : (Tryz.prog.globals[1]?).map (·.type) = some 188 := by kernel_rfl
theorem under188 : Tryz.prog.underlying 188 = some (.array 20 106) := by kernel_rfl
theorem under106 : Tryz.prog.underlying 106 = some (.int .u64) := by kernel_rfl
theorem cells106 : Tryz.prog.cellsOf 106 = 1 := by kernel_rfl
theorem cells188 : Tryz.prog.cellsOf 188 = 20 := by kernel_rfl

/-- The table that the road reads, as it lies in memory. -/
theorem tab_of {W : World} (h : laidMetH Tryz.prog laid3 W) : ∃ t fr, W.heap[1]? = some (.cells (tens.map fun z => Value.int .u64 z).toArray t fr) := by
  rw [MakeChecks.laidMetH_plain _ _ _ (by kernel_rfl)] at h
  have h2 := h.tail.tail
  rw [tens_datum] at h2
  have h3 : W.var? Tryz.prog "internal/strconv.uint64pow10" = some (tens.map fun z => Value.int .u64 z).toArray := Lib.tabIs_of_head gTab gTabT under188 under106 cells106 cells188 h2
  unfold World.var? at h3
  rw [gTab] at h3
  simp only [Option.bind_some] at h3
  cases hb : W.heap[1]? with
  | none => rw [hb] at h3; cases h3
  | some o =>
    rw [hb] at h3
    cases o <;> first | (cases h3; exact ⟨_, _, rfl⟩) | cases h3
theorem gok_of {W : World} (h : laidMetH Tryz.prog laid3 W) : Go.Ab.GOK (gW W) := by
  obtain ⟨t, fr, hb⟩ := tab_of h
  have hphi := gW_of hb
  intro k cs e
  have e' : (if k = 1 then some Go.Ab.pow10V else none) = some cs := e
  split at e'
  rotate_left; · cases e'
  rename_i hk
  cases e'
  subst hk
  have hsz : (tens.map fun z => Value.int .u64 z).toArray.size = Go.Ab.pow10V.length := by kernel_rfl
  refine ⟨Go.Ab.VRel.mk_fp hphi ?_, _, hphi, hsz⟩
  intro i x hx
  have hi : i < 20 := (List.getElem?_eq_some_iff.1 hx).1
  refine ⟨.int .u64 ((10 ^ i : Nat) : Int), ?_, ?_⟩
  · show (tens.map fun z => Value.int .u64 z).toArray[0 + i]? = _
    rw [Nat.zero_add]
    simp [tens, hi]
  · have : Go.Ab.pow10V[i]? = some (.int .u64 ((10 ^ i : Nat) : Int)) := by simp [Go.Ab.pow10V, hi]
    rw [this] at hx
    cases hx
    exact .int _ _

/-- The contract, at the start of the law. -/
theorem call_of {W : World} (h : laidMetH Tryz.prog laid3 W) {v0 v1 : Value} {a1 a2 b1 b2 : List Go.Cnt.Ent}
    (h0 : Go.Ab.VRel (gW W) (.agg [.fs (Go.Ab.cnts a1) a1.length, .fs (Go.Ab.cnts a2) a2.length]) v0) (h1 : Go.Ab.VRel (gW W) (.agg [.fs (Go.Ab.cnts b1) b1.length, .fs (Go.Ab.cnts b2) b2.length]) v1) :
    Calls Tryz.prog 4 #[v0, v1] W fun e W' => e = .returned (.bool true) ∧ Below W.heap.size W W' := by
  have hc := merges_ok a1 a2 b1 b2 (gW W) W #[v0, v1] (gok_of h) gW_frz rfl (fun i x hx => by
    match i with
    | 0 => cases hx; exact ⟨v0, rfl, h0⟩
    | 1 => cases hx; exact ⟨v1, rfl, h1⟩
    | i + 2 => simp at hx)
  refine (GoCall_calls (Go.Ab.canB_ok (by kernel_rfl)) hc).mono fun e W' q => ?_
  obtain ⟨phi', vc, _, hbel, rfl, hv⟩ := q
  rw [hv.inv_bool]
  exact ⟨rfl, hbel.os, hbel.tape.eq, hbel.output, hbel.size, hbel.block⟩

set_option maxRecDepth 100000 in
theorem lifted (os : Os) (started : os.Started) (H : Type) (enc : TypeId × Value → H) :
    ReturnsInHanded {} Tryz.checked os 4 .any (fun w args => (Rows.countsMergesSpec.pre enc Tryz.prog Tryz.f4 [] false w args ∧ laidMetH Tryz.prog laid3 w) ∧ sizedMet enc Tryz.prog Tryz.f4 (OpenSpec.ofChange Rows.countsMergesSpec) false w args)
      (Rows.countsMergesSpec.post enc Tryz.prog Tryz.f4 false true false false) := by
  refine returnsInHanded_of_change_and (C := Tryz.checked) (X := fun w _ => laidMetH Tryz.prog laid3 w) (fun _ _ _ hh h => h.of_heap hh) ownK started (by kernel_rfl) Tryz.func4
    (ChangeSpec.witness_shaped (enc := enc) (C := Tryz.checked) (os := os) (X := fun w _ => laidMetH Tryz.prog laid3 w) false (World.doorLaid Tryz.prog 400 os) #[nils, nils] 8 rfl (World.shaped_of_RefB (by kernel_rfl) (by kernel_rfl)) (by kernel_rfl) (by kernel_rfl) (by kernel_rfl) (door_met os)) ?_
  intro W base args ds gs before hval0 hW _ _ hL _
  have hW' := hW
  obtain ⟨p, q, hA0, hV, rfl, hfz, hnd⟩ := hW
  have hval : ∀ (j : Nat) t v, Tryz.f4.params[j]? = some t → args[j]? = some v → Value.okWide Tryz.prog W .any base t v := hval0
  have hA : DataW.TrodAll enc Tryz.prog W 0 (fun _ => true) true Tryz.f4.params.toList args.toList ds p := hA0
  rw [Tryz.params4] at hA hval
  obtain ⟨v0, v1, d0, d1, p0, p1, rfl, rfl, rfl, h0, h1⟩ := trodAll_two hA
  obtain ⟨rfl, rfl⟩ := trodVars_none hV
  have hlt := DataW.TrodAll.lt hA
  clear hA0 hval0
  obtain ⟨a1, a2, r0⟩ := both_of (hval 0 27 v0 rfl rfl) h0
  obtain ⟨b1, b2, r1⟩ := both_of (hval 1 27 v1 rfl rfl) h1
  refine (call_of hL r0 r1).mono fun e W' ⟨he, bel⟩ => ?_
  subst he
  have k0 := Below.trod laidOutK (by kernel_rfl) (of_decide_eq_true (by kernel_rfl)) h0 bel (fun x hx => hlt x (List.mem_append_left _ hx))
  have k1 := Below.trod laidOutK (by kernel_rfl) (of_decide_eq_true (by kernel_rfl)) h1 bel (fun x hx => hlt x (List.mem_append_right _ hx))
  exact ⟨_, rfl, _, _, _, [], _, [], hW', trodAll_mk1 (shut_bool Tryz.underlying4 _), trodAll_mk2 k0 k1, rfl, bel.frame _, fun h => by cases h⟩

theorem merges_said : Rows.CountsMergesSaid :=
  OpenClaim.holds_of_wide 4 Tryz.f4 rfl rfl rfl rfl rfl rfl rfl ⟨rfl, rfl, rfl, rfl, rfl⟩ rfl rfl rfl rfl rfl (by kernel_rfl) Tryz.func4 (by kernel_rfl)
    (of_decide_eq_true (by kernel_rfl)) (by unfold Func.isWrapper; first | (rw [if_pos (by decide +kernel)]; kernel_rfl) | (rw [if_neg (by decide +kernel)]; exact ⟨rfl, rfl⟩))
    (fun os started H enc _ => lifted os started H enc)

theorem stand27 : Tryz.pinned.checked.prog.wantsStandIn (27 : Nat) = false := by kernel_rfl
theorem merges_holds : Rows.CountsMergesCardSaid :=
  Claim7.holds_tied_plain_at .later [] [.data, .data, .data] true (true, "fabf98ab7634a5970b8296a4d9bd917ee3609bd1845621f975874a6fe0d78291") true
    merges_said (fun _ h => by cases h) (by kernel_rfl) (fun _ h => by cases h) countsMerges_row_tie rfl ⟨rfl, rfl⟩ (by kernel_rfl) rfl
    (fun f fn hf hfn => by
      obtain rfl : f = 4 := Option.some.inj ((show Tryz.prog.funcNamed "abugida/abugidalaw35.CountsMerges" = some 4 by kernel_rfl).symm.trans hf) |>.symm
      obtain rfl : fn = Tryz.f4 := (Option.some.inj (Tryz.func4.symm.trans hfn)).symm
      exact ⟨by kernel_rfl, fun j t ht => by
        rw [Tryz.params4] at ht
        match j with
        | 0 => exact (Option.some.inj ht : (27 : Nat) = t) ▸ stand27
        | 1 => exact (Option.some.inj ht : (27 : Nat) = t) ▸ stand27
        | j + 2 => simp at ht⟩)
    (by kernel_rfl)
#print axioms merges_holds
end Go.Proofs.YtajodjbnkeeonaaGreatDoor
