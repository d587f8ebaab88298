/- Decimal texts: the shelf's contracts at this translation, laid by hand; strconv.Itoa, strconv.FormatUint. -/
import Derived.Shelf.Strconv.Itoa3
import Derived.Shelf.LaysM
import Derived.Lib.ItoaMem
import Derived.WalkKit
import Derived.BigCall
import Derived.BigGuard
import Derived.Test.YtfilkkmcagndlaaGreatDoorPlTenD
import Derived.Test.YtfilkkmcagndlaaGreatDoorQRep
import Derived.Test.YtfilkkmcagndlaaGreatDoorQNat5
import Derived.Test.YtfilkkmcagndlaaGreatDoorS0Types
import Derived.Test.YtfilkkmcagndlaaGreatDoorPlTen
import Derived.Test.YtfilkkmcagndlaaGreatDoorAbWalk
set_option linter.unusedSimpArgs false
set_option linter.unusedVariables false
set_option linter.all false
namespace Go.Proofs
open Go.Ab Go.Pl Go.Shelf Go.RowKit Go.Sort Go.Lib
def renI : Ren where
  f := fun x => match x with | 171 => 64 | 243 => 97 | 246 => 128 | 283 => 158 | 284 => 159 | 285 => 160 | 286 => 161 | 129 => 124 | 317 => 179 | 318 => 180 | 319 => 181 | 320 => 182 | 337 => 190 | 338 => 191 | n => n
  t := fun x => match x with | 3 => 3 | 9 => 9 | 2 => 2 | 4 => 4 | 171 => 173 | 0 => 0 | 53 => 108 | 37 => 118 | 5 => 5 | 173 => 175 | 212 => 192 | 51 => 140 | 20 => 20 | 213 => 193 | 46 => 114 | 232 => 202 | 233 => 203 | n => n
  g := fun x => match x with | 17 => 1 | 18 => 2 | 19 => 3 | n => n
theorem laysI284 : LaysM.n284 Tryz.prog renI := by constructor <;> first | kernel_rfl | (intro w; kernel_rfl) | (constructor <;> first | kernel_rfl | (intro w; kernel_rfl))
theorem laysI285 : Lays.n285 Tryz.prog renI := by constructor <;> first | kernel_rfl | (intro w; kernel_rfl)
theorem laysI283 : Lays.n283 Tryz.prog renI := by constructor <;> first | kernel_rfl | (intro w; kernel_rfl)
theorem PCall.ofCalls {P : Program} {f : FuncId} {args : List V} {v : V} (hc : Callable P f) (hs : scalarV v = true)
    (h : ∀ (g : G) (w : World) (vs : Array Value), GOK g → (∀ c arr, g.phi c = some arr → ∃ t fr, w.heap[c]? = some (.cells arr t fr)) → vs.size = args.length → PW g args (fun i => vs[i]?) →
      Calls P f vs w fun e w' => ∃ vc, e = .returned vc ∧ VRel g v vc ∧ Bel w.heap.size w w') : PCall P f args (.ret v) := fun g w vs h1 h2 h3 h4 =>
  .inl ⟨hc vs w, (h g w vs h1 h2 h3 h4).mono fun e w' ⟨vc, he, hv, hb⟩ => ⟨fun _ => none, vc, fun c a e => (by cases e), hb, he, scalar_rel hs hv⟩⟩
theorem bel_grow (w : World) (k : Nat) (os : Array Obj) : Bel w.heap.size w (grow (w.drewN k) os) :=
  ⟨rfl, ⟨rfl, Nat.le_add_right _ _⟩, rfl, by show w.heap.size ≤ (w.heap ++ os).size; simp, fun c hc => by
    show (w.heap ++ os)[c]? = _
    rw [Array.getElem?_append_left hc]⟩
theorem args2 {g : G} {a b : V} {vs : Array Value} (hvs : vs.size = [a, b].length) (hp : PW g [a, b] (fun i => vs[i]?)) : ∃ x y, vs = #[x, y] ∧ VRel g a x ∧ VRel g b y := by
  obtain ⟨x, hx, r⟩ := hp 0 a rfl
  obtain ⟨y, hy, q⟩ := hp 1 b rfl
  refine ⟨x, y, Array.ext_getElem? fun i => ?_, r, q⟩
  match i with
  | 0 => exact hx
  | 1 => exact hy
  | i + 2 => rw [Array.getElem?_eq_none (by simp at hvs; omega)]; rfl
theorem pow10_tab : pow10V = Lib.pow10Tab.map (fun z => V.int .u64 z) := by kernel_rfl
theorem ints_arr {g : G} {k : IntKind} {zs : List Int} {arr : Array Value} (hs : arr.size = zs.length) (hp : PW g (zs.map fun z => V.int k z) (fun i => arr[0 + i]?)) : arr = (zs.map fun z => Value.int k z).toArray := by
  apply Array.ext_getElem?
  intro i
  by_cases h : i < zs.length
  · obtain ⟨v, hv, r⟩ := hp i (.int k zs[i]) (by simp [h])
    have hv' : arr[0 + i]? = some v := hv
    rw [Nat.zero_add] at hv'
    rw [hv', r.inv_int]
    simp [h]
  · rw [Array.getElem?_eq_none (by omega), Array.getElem?_eq_none (by simp only [List.size_toArray, List.length_map]; omega)]
theorem tab_ok {g : G} {w : World} (hg : GOK g) (hf : ∀ c arr, g.phi c = some arr → ∃ t fr, w.heap[c]? = some (.cells arr t fr)) : Lib.TabIs Tryz.prog w "internal/strconv.uint64pow10" .u64 Lib.pow10Tab := by
  obtain ⟨hr, arr, hphi, hsz⟩ := hg 1 pow10V rfl
  obtain ⟨c, o, arr', he, hphi', hpw⟩ := hr.inv_fp
  cases he
  have e : arr' = arr := by
    have : some arr' = some arr := by rw [← hphi, ← hphi']
    exact Option.some.inj this
  subst e
  rw [pow10_tab] at hpw hsz
  have ha := ints_arr (by simpa using hsz) hpw
  obtain ⟨t, fr, hh⟩ := hf 1 arr' hphi
  show World.var? Tryz.prog w "internal/strconv.uint64pow10" = _
  have hn : Tryz.prog.globalNamed "internal/strconv.uint64pow10" = some 1 := by kernel_rfl
  unfold World.var?
  rw [hn]
  simp only [Option.bind_some, hh]
  rw [ha]
theorem decDigits_dec : ∀ u : Nat, decDigits u = dec u := fun u => by
  induction u using Nat.strongRecOn with
  | _ u ih =>
    rw [decDigits]
    split
    · rename_i h
      rw [dec_small h]
    · rename_i h
      rw [dec_big (by omega), ih (u / 10) (by omega)]
theorem small_c (i : Nat) (hi : i < 100) (w : World) : Calls Tryz.prog 158 #[.int .i64 i] w fun e w' => e = .returned (.string ⟨(decDigits i).toArray⟩) ∧ w' = w := Any.internal_strconv_small laysI283 i hi w
theorem numDigits_c (u : Nat) (h1 : 1 ≤ u) (h2 : u < 18446744073709551616) (w : World) (htab : Lib.TabIs Tryz.prog w "internal/strconv.uint64pow10" .u64 Lib.pow10Tab) :
    Calls Tryz.prog 159 #[.int .u64 u] w fun e w' => e = .returned (.int .i64 (Lib.nDigits u)) ∧ w' = w := Any.internal_strconv_numDigits laysI284 u h1 h2 w htab
theorem formatBase10_c (blk off cap : Nat) (u : Nat) (d : Array UInt8) (w : World) (hH : Holds (fun (b : UInt8) => Value.int .u8 (b.toNat : Int)) w blk off d) (hu : u < 10 ^ d.size) (hu64 : u < 18446744073709551616) (hsz : d.size < 4611686018427387904) :
    Calls Tryz.prog 160 #[.slice (some ⟨blk, off, none⟩) d.size cap, .int .u64 u] w fun e w' =>
      e = .returned (.tuple #[]) ∧ ∃ (n v' : Nat) (dk : Array UInt8), w' = (putRow (fun (b : UInt8) => Value.int .u8 (b.toNat : Int)) w blk off dk).drewN n ∧ FmtInv d.size u 0 v' dk := Any.internal_strconv_formatBase10 laysI285 blk off cap u d w hH hu hu64 hsz
theorem fin_pos0 (w : World) (o : Obj) (dk : Array UInt8) (k : Nat) : ∃ os, (putRow (fun (b : UInt8) => Value.int .u8 (b.toNat : Int)) (w.alloc o) w.heap.size 0 dk).drewN k = grow (w.drewN k) os := by
  rw [alloc_eq_grow]
  obtain ⟨os', _, e⟩ := putRow_grow_new (fun (b : UInt8) => Value.int .u8 (b.toNat : Int)) w #[o] w.heap.size 0 dk (Nat.le_refl _)
  exact ⟨os', by rw [e]; rfl⟩
set_option maxHeartbeats 6400000 in
set_option maxRecDepth 100000 in
theorem fmtU_c (u : Nat) (hu64 : u < 18446744073709551616) (w : World) (htab : Lib.TabIs Tryz.prog w "internal/strconv.uint64pow10" .u64 Lib.pow10Tab) :
    Calls Tryz.prog 170 #[.int .u64 u, .int .i64 10] w fun e w' => e = .returned (.string ⟨(decDigits u).toArray⟩) ∧ ∃ k os, w' = grow (w.drewN k) os := by
  by_cases hi : u < 100
  · have hwr : IntKind.i64.wrap (u : Int) = (u : Int) := by rw [IntKind.wrap_i64]; omega
    go_enter Tryz.func170, Tryz.ntmps170
    go_wp2_with (go_at_call 158; refine (small_c u hi _).mono ?_; rintro e w' ⟨rfl, rfl⟩)
    go_ret
    exact ⟨rfl, 0, #[], by simp [World.drewN_zero]⟩
  · have hu1 : 1 ≤ u := by omega
    have hnd20 : Lib.nDigits u ≤ 20 := by have := Lib.numDigits_eq u hu1 hu64; split at this <;> omega
    have hal : Tryz.prog.arrayLen 173 = 24 := by kernel_rfl
    have hsl1 : ∀ W, (Instr.sliceAt 173 (.pointer (some ⟨w.heap.size, 0, none⟩)) none (some (.int .i64 (Lib.nDigits u : Int))) none).run Tryz.prog W = .ok (.slice (some ⟨w.heap.size, 0, none⟩) (Lib.nDigits u) 24) W := fun W => by
      rw [run_sliceAt_array_h W 173 ⟨w.heap.size, 0, none⟩ (by kernel_rfl) .i64 (Lib.nDigits u : Int) (by omega) (by rw [hal]; omega)]
      rfl
    have hH0 : Holds (fun (b : UInt8) => Value.int .u8 (b.toNat : Int)) (w.alloc (.cells Lib.zeros24 173)) w.heap.size 0 (Array.replicate (Lib.nDigits u) 0) := fun j hj => by
      have hj' : j < Lib.nDigits u := by simpa using hj
      refine ⟨?_, World.frozen?_alloc_new _ _ _ _⟩
      rw [World.cell?_alloc_new, Nat.zero_add, zeros24_at _ (by omega), getElem!_pos _ j hj]
      simp
    have hfmt := formatBase10_c w.heap.size 0 24 u (Array.replicate (Lib.nDigits u) 0) (w.alloc (.cells Lib.zeros24 173)) hH0 (by rw [Array.size_replicate]; exact Lib.lt_pow_nDigits u) hu64 (by rw [Array.size_replicate]; omega)
    rw [Array.size_replicate] at hfmt
    go_enter Tryz.func170, Tryz.ntmps170
    go_wp2_with (go_at_call 159; refine (numDigits_c u hu1 hu64 _ (Lib.tabIs_alloc htab _)).mono ?_; rintro e w' ⟨rfl, rfl⟩)
    refine hfmt.mono ?_
    rintro e w' ⟨rfl, k, v', dk, rfl, hF⟩
    have hcv : (convert 118 9 (.slice (some ⟨w.heap.size, 0, none⟩) (Lib.nDigits u) 24)).run Tryz.prog ((putRow (fun (b : UInt8) => Value.int .u8 (b.toNat : Int)) (w.alloc (.cells Lib.zeros24 173)) w.heap.size 0 dk).drewN k) = .ok (.string ⟨(Lib.decDigits u).toArray⟩) ((putRow (fun (b : UInt8) => Value.int .u8 (b.toNat : Int)) (w.alloc (.cells Lib.zeros24 173)) w.heap.size 0 dk).drewN k) := by
      have h := run_convert_bytes_back (P := Tryz.prog) ((putRow (fun (b : UInt8) => Value.int .u8 (b.toNat : Int)) (w.alloc (.cells Lib.zeros24 173)) w.heap.size 0 dk).drewN k) 118 9 5 ⟨w.heap.size, 0, none⟩ 24 (Lib.decDigits u) (by kernel_rfl) (by kernel_rfl) (by kernel_rfl) (fun j hj => by
        rw [Lib.row_is_numeral hF j hj, Lib.add_plain, World.cell?_drewN]
        exact cell?_putRow (fun (b : UInt8) => Value.int .u8 (b.toNat : Int)) _ w.heap.size 0 _ dk hH0 (by rw [hF.size, Array.size_replicate]) j (by rw [hF.size]; rw [Lib.decDigits_length] at hj; exact hj))
      rw [Lib.decDigits_length] at h
      exact h
    go_wp2
    go_ret
    obtain ⟨os, eo⟩ := fin_pos0 w (.cells Lib.zeros24 173) dk k
    exact ⟨rfl, k, os, eo⟩
theorem fmtUi_ok (u : Nat) (h : u < 18446744073709551616) : PCall Tryz.prog 170 [.int .u64 u, .int .i64 10] (.ret (.str (dec u))) := by
  refine PCall.ofCalls call170 rfl fun g w vs hg hf hvs hp => ?_
  obtain ⟨x, y, rfl, r, q⟩ := args2 hvs hp
  obtain rfl := r.inv_int
  obtain rfl := q.inv_int
  refine (fmtU_c u h w (tab_ok hg hf)).mono fun e w' ⟨he, k, os, hw⟩ => ⟨_, he, .str ?_, ?_⟩
  · rw [decDigits_dec]
  · rw [hw]; exact bel_grow w k os
noncomputable def cFmtI : List V → Option PR := conOf (fun d : Nat => [.int .u64 d, .int .i64 10]) (fun d => d < 18446744073709551616) (fun d => .ret (.str (dec d)))
theorem cFmtI_ok : ∀ args r, cFmtI args = some r → PCall Tryz.prog 170 args r := conOf_ok fmtUi_ok
theorem cFmtI_eq (d : Nat) (h : d < 18446744073709551616) : cFmtI [.int .u64 d, .int .i64 10] = some (.ret (.str (dec d))) := conOf_eq (pat := fun d : Nat => [V.int .u64 d, .int .i64 10]) (fun x y h => by simp at h; omega) d h
theorem fmtOK : FmtOK := fun d hd => by
  refine PCall.walk (rs := [.tmp 4]) [0, 1, 4] [] mixed (extΓ_ok cFmtI_ok noΓ_ok) (noΔ_ok) call141 Tryz.func141 rfl Tryz.ntmps141 rfl (by kernel_rfl) (by simp) (by simp [pure_bool, pure_int, pure_str, pure_fs, pure_fp, pure_fn, pure_agg, pure_tup, pure_nilS, pure_nilP, pure_natsP, pure_intsP, pure_strsP, pure_list, pure_cntsP]) ?_
  simp (disch := (first | assumption | omega | (simp only [push_cast] <;> omega))) only [go_sem, cFmtI_eq]
theorem textOK : TextOK := fun n h => text_ok fmtOK repOK n h
end Go.Proofs

namespace Go.Proofs
open Go.Ab Go.Pl
def subV (a b : List UInt8) : V := if validN a = true ∧ validN b = true then (if valD a < valD b then errV 4 else .tup [.str (dec (valD a - valD b)), .int .i64 0]) else errV 1
def cmpV (a b : List UInt8) : Int := if validN a = true ∧ validN b = true then cmpI (valD a) (valD b) else 0
theorem natSub_ok (hT : TextOK) (a b : List UInt8) : PCall Tryz.prog 87 [.str a, .str b] (.ret (subV a b)) := by
  refine PCall.walk (rs := [.tmp 4, .tmp 5]) [0, 1, 4, 5, 6, 7, 15, 23] [] mixed (extΓ_ok cValid_ok (extΓ_ok cBlocks_ok (extΓ_ok cCompareB_ok (extΓ_ok cMinusB_ok (extΓ_ok (cText_ok hT) noΓ_ok))))) (noΔ_ok) call87 Tryz.func87 rfl Tryz.ntmps87 rfl (by kernel_rfl) (by simp) (by simp [pure_bool, pure_int, pure_str, pure_fs, pure_fp, pure_fn, pure_agg, pure_tup, pure_nilS, pure_nilP, pure_natsP, pure_intsP, pure_strsP, pure_list, pure_cntsP]) ?_
  by_cases ha : validN a = true
  case neg => simp only [go_sem, subV, ha, errV]
  by_cases hb : validN b = true
  case neg => simp only [go_sem, subV, ha, hb, errV]
  have da := validN_dig ha
  have la := validN_len ha
  have db := validN_dig hb
  have lb := validN_len hb
  have ba := limbs_valD da la
  have bb := limbs_valD db lb
  simp (disch := (first | assumption | omega | (simp only [push_cast] <;> omega))) only [go_sem, ha, hb]
  refine AXc.introP (fun h1 => ?_) (fun h1 => ?_)
  · have h2 : valD a < valD b := by
      rw [cmpI_nat] at h1
      split at h1
      · assumption
      · split at h1 <;> omega
    simp (disch := (first | assumption | omega | (simp only [push_cast] <;> omega))) only [go_sem, subV, ha, hb, h2, errV]
  · have h2 : valD b ≤ valD a := by
      rw [cmpI_nat] at h1
      split at h1
      · omega
      · omega
    have h3 : ¬ valD a < valD b := by omega
    have bs := limbs_sub (y := valD b) ba
    simp (disch := (first | assumption | omega | (simp only [push_cast] <;> omega))) only [go_sem, subV, ha, hb, h3]
theorem natCmp_ok (a b : List UInt8) : PCall Tryz.prog 86 [.str a, .str b] (.ret (.int .i64 (cmpV a b))) := by
  refine PCall.walk (rs := [.tmp 4]) [0, 1, 4, 12] [] mixed (extΓ_ok cValid_ok (extΓ_ok cBlocks_ok (extΓ_ok cCompareB_ok noΓ_ok))) (noΔ_ok) call86 Tryz.func86 rfl Tryz.ntmps86 rfl (by kernel_rfl) (by simp) (by simp [pure_bool, pure_int, pure_str, pure_fs, pure_fp, pure_fn, pure_agg, pure_tup, pure_nilS, pure_nilP, pure_natsP, pure_intsP, pure_strsP, pure_list, pure_cntsP]) ?_
  by_cases ha : validN a = true
  case neg => simp only [go_sem, cmpV, ha]
  by_cases hb : validN b = true
  case neg => simp only [go_sem, cmpV, ha, hb]
  have da := validN_dig ha
  have la := validN_len ha
  have db := validN_dig hb
  have lb := validN_len hb
  have ba := limbs_valD da la
  have bb := limbs_valD db lb
  simp (disch := (first | assumption | omega | (simp only [push_cast] <;> omega))) only [go_sem, cmpV, ha, hb]
end Go.Proofs

/- The reference's natural numbers: which strings are numbers; digits; text. -/
namespace Go.Proofs
open Go.Ab Go.Pl
set_option maxHeartbeats 4000000 in
theorem rvalidN_ok (a : List UInt8) : PCall Tryz.prog 77 [.str a] (.ret (.bool (validN a))) := by
  refine PCall.walk (rs := [.tmp 2]) [0, 2, 3, 21, 25, 37] [] mixed (noΓ_ok) (noΔ_ok) call77 Tryz.func77 rfl Tryz.ntmps77 rfl (by kernel_rfl) (by simp) (by simp [pure_bool, pure_int, pure_str, pure_fs, pure_fp, pure_fn, pure_agg, pure_tup, pure_nilS, pure_nilP, pure_natsP, pure_intsP, pure_strsP, pure_list, pure_cntsP]) ?_
  simp only [go_sem]
  have hb : (decide ((a.length : Int) < 1) || decide (1000 < (a.length : Int)) || decide (((a.getD 0 0).toNat : Int) = 48) && decide (1 < (a.length : Int))) = !(!decide (a = []) && decide (a.length ≤ 1000) && (decide (a.length ≤ 1) || !decide ((a.getD 0 0).toNat = 48))) := by
    have e1 : (a.length : Int) < 1 ↔ a = [] := by rw [← List.length_eq_zero_iff]; omega
    have e2 : 1000 < (a.length : Int) ↔ ¬ a.length ≤ 1000 := by omega
    have e3 : ((a.getD 0 0).toNat : Int) = 48 ↔ (a.getD 0 0).toNat = 48 := by omega
    have e4 : 1 < (a.length : Int) ↔ ¬ a.length ≤ 1 := by omega
    simp only [e1, e2, e3, e4]
    by_cases c1 : a = [] <;> by_cases c2 : a.length ≤ 1000 <;> by_cases c3 : (a.getD 0 0).toNat = 48 <;> by_cases c4 : a.length ≤ 1 <;> simp only [c1, c2, c3, c4, decide_true, decide_false] <;> rfl
  refine ⟨fun h => ⟨h, ?_⟩, fun h => ⟨h, fun h' => by rw [h, h']; rfl⟩, ?_⟩
  · simp at h; omega
  rw [hb]
  cases hc : (!decide (a = []) && decide (a.length ≤ 1000) && (decide (a.length ≤ 1) || !decide ((a.getD 0 0).toNat = 48))) with
  | false =>
    simp only [go_sem]
    simp only [validN, hc, Bool.false_and]
  | true =>
    have hl : a.length ≤ 1000 := by simp at hc; omega
    simp only [go_sem]
    refine AXs.loop mixed (noΓ_ok) (noΔ_ok) (fun i : Nat => [(0, .str a), (3, .int .i64 i)]) (fun _ => ⟨[], 0⟩) (fun i => i ≤ a.length ∧ ∀ j, j < i → isDig (a.getD j 0) = true) (fun i => a.length - i) 0 (by kernel_rfl) (by simp) (Sub.of0 [] rfl rfl ?_ ?_) ?_
    · simp only [go_sem]
    · simp only [go_sem]
    rintro i ⟨h1, h2⟩
    simp only [go_sem]
    refine AXc.introP (fun h3 => ?_) (fun h3 => ?_)
    · simp (disch := (first | assumption | omega | (simp only [push_cast] <;> omega))) only [go_sem]
      (repeat refine And.intro (by first | omega | exact ⟨by omega, by omega⟩ | kernel_rfl | rfl | assumption | (intro h; exact ⟨h, by omega, by omega⟩) | (intro h; exact ⟨h, by omega⟩)) ?_)
      have hd : (decide (((a.getD i 0).toNat : Int) < 48) || decide (57 < ((a.getD i 0).toNat : Int))) = !isDig (a.getD i 0) := by
        unfold isDig
        have e1 : ((a.getD i 0).toNat : Int) < 48 ↔ ¬ 48 ≤ (a.getD i 0).toNat := by omega
        have e2 : 57 < ((a.getD i 0).toNat : Int) ↔ ¬ (a.getD i 0).toNat ≤ 57 := by omega
        simp only [e1, e2]
        by_cases c1 : 48 ≤ (a.getD i 0).toNat <;> by_cases c2 : (a.getD i 0).toNat ≤ 57 <;> simp only [c1, c2, decide_true, decide_false] <;> rfl
      rw [hd]
      cases hg : isDig (a.getD i 0) with
      | false =>
        simp only [go_sem]
        have : a.all isDig = false := by
          cases e : a.all isDig with
          | false => rfl
          | true => rw [all_getD.1 e i (by omega)] at hg; cases hg
        simp only [validN, this, Bool.and_false]
      | true =>
        simp (disch := (first | assumption | omega | (simp only [push_cast] <;> omega))) only [go_sem]
        refine loopK_norm (i + 1) ⟨by omega, fun j hj => ?_⟩ (by omega) (Sub.of0 [] rfl rfl ?_ ?_)
        · by_cases hji : j < i
          · exact h2 j hji
          · obtain rfl : j = i := by omega
            exact hg
        · simp only [go_sem]
          simp
        · simp only [go_sem]
    · simp only [go_sem]
      refine AXa.go mixed (noΓ_ok) (noΔ_ok) (by kernel_rfl) ?_
      simp only [go_sem]
      have : a.all isDig = true := all_getD.2 fun i hi => h2 i (by omega)
      simp only [validN, this, hc, Bool.and_true]
noncomputable def cRValidN : List V → Option PR := conOf (fun a : List UInt8 => [.str a]) (fun _ => True) fun a => .ret (.bool (validN a))
theorem cRValidN_eq (a : List UInt8) : cRValidN [.str a] = some (.ret (.bool (validN a))) := conOf_eq (pat := fun a : List UInt8 => [.str a]) (fun x y h => by simpa using h) a trivial
theorem cRValidN_ok : ∀ args r, cRValidN args = some r → PCall Tryz.prog 77 args r := conOf_ok fun a _ => rvalidN_ok a
attribute [go_sem] cRValidN_eq
def digD (a : List UInt8) : List Nat := a.reverse.map fun c => c.toNat - 48
theorem digD_len (a : List UInt8) : (digD a).length = a.length := by simp [digD]
theorem digD_drop (a : List UInt8) (m : Nat) (h : m < a.length) : digD (a.drop m) = digD (a.drop (m + 1)) ++ [(a.getD m 0).toNat - 48] := by
  have : a.drop m = a.getD m 0 :: a.drop (m + 1) := by
    rw [List.getD_eq_getElem?_getD, List.getElem?_eq_getElem h]
    exact List.drop_eq_getElem_cons h
  rw [this, digD, List.reverse_cons, List.map_append]; rfl
theorem digD_val : ∀ a : List UInt8, Ten.valL (digD a) = valD a := by
  have key : ∀ l : List UInt8, Ten.valL (l.map fun c => c.toNat - 48) = valD l.reverse := by
    intro l
    induction l with
    | nil => rfl
    | cons c l ih => rw [List.map_cons, Ten.valL, ih, List.reverse_cons, valD_snoc]; omega
  intro a
  have := key a.reverse
  rw [List.reverse_reverse] at this
  exact this
theorem digD_ok {a : List UInt8} (h : a.all isDig = true) : Ten.okL (digD a) := fun d hd => by
  obtain ⟨c, hc, rfl⟩ := List.mem_map.1 hd
  have := isDig_le (List.all_eq_true.1 h c (by simpa using hc))
  omega
def acV (l : List Nat) : V := match l with | [] => .nilS | _ => .sl 0 0 l.length 1 none
def acBs (k : IntKind) (l : List Nat) : List (Nat × Blk) := match l with | [] => [] | _ => [(0, .cells (nats k l))]
def acN (l : List Nat) : Nat := match l with | [] => 0 | _ => 1
set_option maxHeartbeats 4000000 in
theorem rdigits_ok (a : List UInt8) (hd : a.all isDig = true) (hl : a.length ≤ 100000) : PCall Tryz.prog 100 [.str a] (.ret (.fs (nats .i64 (digD a)) a.length)) := by
  refine PCall.walk (rs := [.tmp 2]) [0, 2, 3, 4, 9] [] mixed (noΓ_ok) (noΔ_ok) call100 Tryz.func100 rfl Tryz.ntmps100 rfl (by kernel_rfl) (by simp) (by simp [pure_bool, pure_int, pure_str, pure_fs, pure_fp, pure_fn, pure_agg, pure_tup, pure_nilS, pure_nilP, pure_natsP, pure_intsP, pure_strsP, pure_list, pure_cntsP]) ?_
  simp only [go_sem]
  refine AXs.loop mixed (noΓ_ok) (noΔ_ok) (fun m : Nat => [(0, .str a), (3, acV (digD (a.drop m))), (4, .int .i64 ((m : Int) - 1))]) (fun m => ⟨acBs .i64 (digD (a.drop m)), acN (digD (a.drop m))⟩) (fun m => m ≤ a.length) (fun m => m) a.length (by kernel_rfl) (Nat.le_refl _) (Sub.of0 [] rfl ?_ ?_ ?_) ?_
  · rw [List.drop_length]; rfl
  · simp (disch := (first | assumption | omega | (simp only [push_cast] <;> omega))) only [go_sem, List.drop_length, digD, List.reverse_nil, acV]
  · simp only [go_sem, List.drop_length, digD, List.reverse_nil, acBs]
  intro m h1
  simp only [go_sem]
  have hl' : (digD (a.drop m)).length = a.length - m := by rw [digD_len]; simp
  rcases Nat.eq_zero_or_pos m with rfl | h0
  · simp only [go_sem]
    rw [List.drop_zero] at hl'
    have e0 : a.length = (digD a).length := by omega
    rw [e0]
    generalize digD a = l
    rcases l with _ | ⟨d, l⟩
    · simp only [go_sem, acV, acBs, acN]
      refine AXa.go mixed (noΓ_ok) (noΔ_ok) (by kernel_rfl) ?_
      simp only [go_sem]
    · simp only [go_sem, acV, acBs, acN]
      refine AXa.go mixed (noΓ_ok) (noΔ_ok) (by kernel_rfl) ?_
      simp only [go_sem]
      exact Frz.slp rfl rfl (by simp [len_nats]) (by simp [take_nats]) (pure_nats _ _)
  · have hm : m - 1 < a.length := by omega
    have hdr := digD_drop a (m - 1) hm
    rw [show m - 1 + 1 = m by omega] at hdr
    have hdi := isDig_le (all_getD.1 hd (m - 1) hm)
    have c0 : ¬ ((m : Int) - 1 < 0) := by omega
    have c1 : decide (0 ≤ (m : Int) - 1) = true := decide_eq_true (by omega)
    have c2 : ((m : Int) - 1).toNat = m - 1 := by omega
    have hx : ((a.getD (m - 1) 0).toNat : Int) - 48 = (((a.getD (m - 1) 0).toNat - 48 : Nat) : Int) := by omega
    generalize digD (a.drop m) = l at hdr hl' ⊢
    rcases l with _ | ⟨d, l⟩
    · simp (disch := (first | assumption | omega | (simp only [push_cast] <;> omega))) only [go_sem, acV, acBs, acN, c1, c2, hx]
      (repeat refine And.intro (by first | omega | exact ⟨by omega, by omega⟩ | kernel_rfl | rfl | assumption | (intro h; exact ⟨h, by omega, by omega⟩) | (intro h; exact ⟨h, by omega⟩)) ?_)
      refine loopK_norm (m - 1) (by omega) (by omega) (Sub.of0 [(0, 1)] rfl (by rw [hdr]; rfl) ?_ ?_)
      · rw [hdr]
        simp only [go_sem, acV, acBs, acN]
        simp only [V.int.injEq, true_and]; omega
      · rw [hdr]
        simp only [go_sem, acV, acBs, acN]
        simp [nats]
    · simp (disch := (first | assumption | omega | (simp only [push_cast] <;> omega))) only [go_sem, acV, acBs, acN, c1, c2, hx]
      have hll : l.length + 1 = a.length - m := hl'
      (repeat refine And.intro (by first | omega | exact ⟨by omega, by omega⟩ | kernel_rfl | rfl | assumption | (intro h; exact ⟨h, by omega, by omega⟩) | (intro h; exact ⟨h, by omega⟩)) ?_)
      refine loopK_norm (m - 1) (by omega) (by omega) (Sub.of0 [(0, 2)] rfl (by rw [hdr]; rfl) ?_ ?_)
      · rw [hdr]
        simp only [go_sem, acV, acBs, acN]
        simp; omega
      · rw [hdr]
        simp only [go_sem, acV, acBs, acN]
        simp [nats]
noncomputable def cRDigits : List V → Option PR := conOf (fun a : List UInt8 => [.str a]) (fun a => a.all isDig = true ∧ a.length ≤ 100000) fun a => .ret (.fs (nats .i64 (digD a)) a.length)
theorem cRDigits_eq (a : List UInt8) (h : a.all isDig = true) (hl : a.length ≤ 100000) : cRDigits [.str a] = some (.ret (.fs (nats .i64 (digD a)) a.length)) := conOf_eq (pat := fun a : List UInt8 => [.str a]) (fun x y h => by simpa using h) a ⟨h, hl⟩
theorem cRDigits_ok : ∀ args r, cRDigits args = some r → PCall Tryz.prog 100 args r := conOf_ok fun a h => rdigits_ok a h.1 h.2
attribute [go_sem] cRDigits_eq
end Go.Proofs

/- The reference's natural numbers: text, comparison, single digits. -/
namespace Go.Proofs
open Go.Ab Go.Pl
theorem bytesOf_dgs : ∀ {l : List Nat}, Ten.okL l → bytesOf (nats .u8 (l.map (48 + ·))) = some (l.map dg)
  | [], _ => rfl
  | d :: l, h => by
    have ih := bytesOf_dgs (l := l) fun x hx => h x (List.mem_cons_of_mem _ hx)
    simp only [List.map_cons, nats] at ih ⊢
    unfold bytesOf
    rw [ih]
    have e : (((48 + d : Nat) : Int)).toNat = 48 + d := by omega
    rw [e]; rfl
def accT (l : List Nat) (n m : Nat) : List Nat := ((l.take n).drop m).reverse.map (48 + ·)
theorem accT_n (l : List Nat) (n : Nat) : accT l n n = [] := by simp [accT, List.drop_take]
theorem accT_len (l : List Nat) (n m : Nat) (h : n ≤ l.length) : (accT l n m).length = n - m := by simp [accT]; omega
theorem accT_step (l : List Nat) (n m : Nat) (h : m < n) (hn : n ≤ l.length) : accT l n m = accT l n (m + 1) ++ [48 + l.getD m 0] := by
  have : (l.take n).drop m = l.getD m 0 :: (l.take n).drop (m + 1) := by
    rw [List.drop_eq_getElem_cons (by simp; omega)]
    rw [List.getElem_take, List.getD_eq_getElem?_getD, List.getElem?_eq_getElem (by omega)]; rfl
  rw [accT, this, List.reverse_cons, List.map_append]; rfl
theorem okL_getD {l : List Nat} (ok : Ten.okL l) (i : Nat) : l.getD i 0 ≤ 9 := by
  by_cases h : i < l.length
  · rw [List.getD_eq_getElem?_getD, List.getElem?_eq_getElem h]
    have := ok _ (List.getElem_mem h)
    exact Nat.le_of_lt_succ this
  · rw [getD_ge _ _ _ (by omega)]; omega
theorem rnb_tyF {π : Nat → Nat} {N : Nat → Prop} (t : TypeId) (cs cs' : List V) : RnB π N (.ty t cs) (.ty t cs') ↔ LRel (Rn π N) cs cs' := ⟨fun h => by cases h; assumption, .ty⟩
attribute [go_sem] rnb_tyF
def acBt (t : TypeId) (l : List Nat) : List (Nat × Blk) := match l with | [] => [] | _ => [(0, .ty t (nats .u8 l))]
set_option maxHeartbeats 4000000 in
theorem rtext_ok (l : List Nat) (hl : l.length ≤ 1000000) (ok : Ten.okL l) : PCall Tryz.prog 103 [.fs (nats .i64 l) l.length] (.ret (.str (dec (Ten.valL l)))) := by
  refine PCall.walk (rs := [.tmp 2]) [0, 2, 3, 4, 5, 17, 23, 37] [] mixed (noΓ_ok) (noΔ_ok) call103 Tryz.func103 rfl Tryz.ntmps103 rfl (by kernel_rfl) (by simp) (by simp [pure_bool, pure_int, pure_str, pure_fs, pure_fp, pure_fn, pure_agg, pure_tup, pure_nilS, pure_nilP, pure_natsP, pure_intsP, pure_strsP, pure_list, pure_cntsP]) ?_
  simp only [go_sem]
  refine AXs.loop mixed (noΓ_ok) (noΔ_ok) (fun n : Nat => [(0, .fs (nats .i64 l) l.length), (3, .int .i64 n)]) (fun _ => ⟨[], 0⟩) (fun n => n ≤ l.length ∧ (0 < l.length → 0 < n) ∧ ∀ j, n ≤ j → l.getD j 0 = 0) (fun n => n) l.length (by kernel_rfl) ⟨Nat.le_refl _, fun h => h, fun j hj => getD_ge _ _ _ hj⟩ (Sub.of0 [] rfl rfl ?_ ?_) ?_
  · simp only [go_sem]
  · simp only [go_sem]
  rintro n ⟨h1, h1', h2⟩
  have fin : (n ≤ 1 ∨ l.getD (n - 1) 0 ≠ 0) → 0 < n → (l.take n).reverse.map dg = dec (Ten.valL l) := fun c d => ten_text ok h1 h2 c d
  rcases Nat.eq_zero_or_pos n with rfl | h0
  · obtain rfl : l = [] := List.eq_nil_of_length_eq_zero (by omega)
    simp (disch := (first | assumption | omega | (simp only [push_cast] <;> omega))) only [go_sem]
    refine AXa.go mixed (noΓ_ok) (noΔ_ok) (by kernel_rfl) ?_
    simp only [go_sem]
    refine AXs.loop mixed (noΓ_ok) (noΔ_ok) (fun _ : Nat => [(0, .fs [] 0), (4, .nilS), (5, .int .i64 (-1))]) (fun _ => ⟨[], 0⟩) (fun n => n = 0) (fun n => 0) 0 (by kernel_rfl) rfl (Sub.of0 [] rfl rfl ?_ ?_) ?_
    · simp only [go_sem]
      intro x hx; cases hx
    · simp only [go_sem]
    rintro _ rfl
    simp (disch := (first | assumption | omega | (simp only [push_cast] <;> omega))) only [go_sem]
    refine AXa.go mixed (noΓ_ok) (noΔ_ok) (by kernel_rfl) ?_
    simp only [go_sem]
    all_goals first | rfl | (intro x hx; cases hx)
  have hx : nthV (nats .i64 (l.drop (n - 1))) 0 = .int .i64 (l.getD (n - 1) 0 : Nat) := by
    rw [nthV_nats _ _ _ (by simp; omega)]; simp
  simp (disch := (first | assumption | omega | (simp only [push_cast] <;> omega))) only [go_sem, hx]
  (repeat refine And.intro (by first | omega | exact ⟨by omega, by omega⟩ | kernel_rfl | rfl | assumption | (intro h; exact ⟨h, by omega, by omega⟩) | (intro h; exact ⟨h, by omega⟩)) ?_)
  have hb : (decide (1 < (n : Int)) && decide (((l.getD (n - 1) 0 : Nat) : Int) = 0)) = decide (1 < n ∧ l.getD (n - 1) 0 = 0) := by
    have e1 : 1 < (n : Int) ↔ 1 < n := by omega
    have e2 : ((l.getD (n - 1) 0 : Nat) : Int) = 0 ↔ l.getD (n - 1) 0 = 0 := by omega
    simp only [e1, e2, Bool.decide_and]
  rw [hb]
  refine AXc.introP (fun h3 => ?_) (fun h3 => ?_)
  · simp (disch := (first | assumption | omega | (simp only [push_cast] <;> omega))) only [go_sem]
    refine loopK_norm (n - 1) ⟨by omega, fun _ => by omega, fun j hj => ?_⟩ (by omega) (Sub.of0 [] rfl rfl ?_ ?_)
    · by_cases hji : n ≤ j
      · exact h2 j hji
      · obtain rfl : j = n - 1 := by omega
        exact h3.2
    · simp only [go_sem]
      simp only [V.int.injEq, true_and]; omega
    · simp only [go_sem]
  simp (disch := (first | assumption | omega | (simp only [push_cast] <;> omega))) only [go_sem]
  have h3' : n ≤ 1 ∨ l.getD (n - 1) 0 ≠ 0 := by
    by_cases e : n ≤ 1
    · exact .inl e
    · exact .inr fun e' => h3 ⟨by omega, e'⟩
  refine AXa.go mixed (noΓ_ok) (noΔ_ok) (by kernel_rfl) ?_
  simp only [go_sem]
  refine AXs.loop mixed (noΓ_ok) (noΔ_ok) (fun m : Nat => [(0, .fs (nats .i64 l) l.length), (4, acV (accT l n m)), (5, .int .i64 ((m : Int) - 1))]) (fun m => ⟨acBt 5 (accT l n m), acN (accT l n m)⟩) (fun m => m ≤ n) (fun m => m) n (by kernel_rfl) (Nat.le_refl _) (Sub.of0 [] rfl ?_ ?_ ?_) ?_
  · rw [accT_n]; rfl
  · simp (disch := (first | assumption | omega | (simp only [push_cast] <;> omega))) only [go_sem, accT_n, acV]
  · simp only [go_sem, accT_n, acBt]
  intro m hm
  have hl' := accT_len l n m h1
  simp only [go_sem]
  rcases Nat.eq_zero_or_pos m with rfl | hm0
  · simp only [go_sem]
    have hlt := fin h3' h0
    have he : accT l n 0 = (l.take n).reverse.map (48 + ·) := by simp [accT]
    have hb := bytesOf_dgs (l := (l.take n).reverse) fun d hd => ok d (List.mem_of_mem_take (List.mem_reverse.1 hd))
    rw [← he, hlt] at hb
    generalize accT l n 0 = w at hl' hb ⊢
    rcases w with _ | ⟨d, w⟩
    · simp at hl'; omega
    simp only [go_sem, acV, acBt, acN]
    refine AXa.go mixed (noΓ_ok) (noΔ_ok) (by kernel_rfl) ?_
    have c3 : decide (((w.length + 1 : Nat) : Int) = 0) = false := decide_eq_false (by omega)
    have hcv : ∀ P : Program, P = Tryz.prog → aConv P 118 9 (.sl 0 0 (w.length + 1) 1 none) ⟨[(0, .ty 5 (nats .u8 (d :: w)))], 1⟩ = ⟨True, .str (dec (Ten.valL l)), ⟨[(0, .ty 5 (nats .u8 (d :: w)))], 1⟩, [0], []⟩ := by
      rintro _ rfl
      exact conv_bytes 118 9 5 _ (nats .u8 (d :: w)) (w.length + 1) [0] _ (by kernel_rfl) (by kernel_rfl) (by kernel_rfl) (by
        show (if _ ∧ _ then some _ else none) = _
        rw [if_pos ⟨rfl, by simp [nats]⟩]; simp [nats, List.take_of_length_le]) hb
    simp (disch := (first | assumption | omega | (simp only [push_cast] <;> omega))) only [go_sem, hb, c3, hcv]
    trace_state
  · have hdr := accT_step l n (m - 1) (by omega) h1
    rw [Nat.sub_add_cancel hm0] at hdr
    have c1 : decide (0 ≤ (m : Int) - 1) = true := decide_eq_true (by omega)
    have c2 : ((m : Int) - 1).toNat = m - 1 := by omega
    have hd9 : l.getD (m - 1) 0 ≤ 9 := okL_getD ok _
    generalize accT l n m = w at hdr hl' ⊢
    rcases w with _ | ⟨d, w⟩
    · simp (disch := (first | assumption | omega | (simp only [push_cast] <;> omega))) only [go_sem, acV, acBt, acN, c1, c2]
      (repeat refine And.intro (by first | omega | exact ⟨by omega, by omega⟩ | kernel_rfl | rfl | assumption | (intro h; exact ⟨h, by omega, by omega⟩) | (intro h; exact ⟨h, by omega⟩)) ?_)
      refine loopK_norm (m - 1) (by omega) (by omega) (Sub.of0 [(0, 1)] rfl (by rw [hdr]; rfl) ?_ ?_)
      · rw [hdr]
        simp only [go_sem, acV, acBt, acN]
        simp only [V.int.injEq, true_and]; omega
      · rw [hdr]
        simp only [go_sem, acV, acBt, acN]
        simp [nats]
    · have hll : w.length + 1 = n - m := hl'
      simp (disch := (first | assumption | omega | (simp only [push_cast] <;> omega))) only [go_sem, acV, acBt, acN, c1, c2]
      (repeat refine And.intro (by first | omega | exact ⟨by omega, by omega⟩ | kernel_rfl | rfl | assumption | (intro h; exact ⟨h, by omega, by omega⟩) | (intro h; exact ⟨h, by omega⟩)) ?_)
      refine loopK_norm (m - 1) (by omega) (by omega) (Sub.of0 [(0, 2)] rfl (by rw [hdr]; rfl) ?_ ?_)
      · rw [hdr]
        simp only [go_sem, acV, acBt, acN]
        simp; omega
      · rw [hdr]
        simp only [go_sem, acV, acBt, acN]
        simp [nats]
end Go.Proofs
