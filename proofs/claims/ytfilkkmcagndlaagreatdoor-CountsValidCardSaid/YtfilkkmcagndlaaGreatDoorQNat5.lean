import Derived.Test.YtfilkkmcagndlaaGreatDoorQNat4
import Derived.Test.YtfilkkmcagndlaaGreatDoorQDig
set_option linter.unusedSimpArgs false
set_option linter.unusedVariables false
set_option linter.all false
namespace Go.Proofs
open Go.Ab Go.Pl
def TextOK : Prop := ∀ n : Nat, (limbs n).length ≤ 100000 → PCall Tryz.prog 110 [.fs (nats .u64 (limbs n)) (limbs n).length] (.ret (.str (dec n)))
noncomputable def cText : List V → Option PR := conOf (fun n : Nat => [.fs (nats .u64 (limbs n)) (limbs n).length]) (fun n => (limbs n).length ≤ 100000) fun n => .ret (.str (dec n))
theorem cText_eq (n m : Nat) (hm : m = (limbs n).length) (h : (limbs n).length ≤ 100000) : cText [.fs (nats .u64 (limbs n)) m] = some (.ret (.str (dec n))) := by
  subst hm; exact conOf_eq (pat := fun n : Nat => [V.fs (nats .u64 (limbs n)) (limbs n).length]) (fun x y h => by simp at h; exact limbs_inj (nats_inj h.1)) n h
theorem cText_ok (hT : TextOK) : ∀ args r, cText args = some r → PCall Tryz.prog 110 args r := conOf_ok hT
noncomputable def cBlocks : List V → Option PR := conOf (fun a : List UInt8 => [.str a]) (fun a => a.all isDig = true ∧ a.length ≤ 1000) fun a => .ret (.fs (nats .u64 (limbs (valD a))) (limbs (valD a)).length)
theorem cBlocks_eq (a : List UInt8) (h1 : a.all isDig = true) (h2 : a.length ≤ 1000) : cBlocks [.str a] = some (.ret (.fs (nats .u64 (limbs (valD a))) (limbs (valD a)).length)) := conOf_eq (pat := fun a : List UInt8 => [V.str a]) (fun x y h => by simpa using h) a ⟨h1, h2⟩
theorem cBlocks_ok : ∀ args r, cBlocks args = some r → PCall Tryz.prog 88 args r := conOf_ok fun a h => blocks_ok a h.1 h.2
noncomputable def cPlusB : List V → Option PR := conOf (fun p : Nat × Nat => [.fs (nats .u64 (limbs p.1)) (limbs p.1).length, .fs (nats .u64 (limbs p.2)) (limbs p.2).length]) (fun p => (limbs p.1).length ≤ 1000 ∧ (limbs p.2).length ≤ 1000) fun p => .ret (.fs (nats .u64 (limbs (p.1 + p.2))) (limbs (p.1 + p.2)).length)
theorem cPlusB_eq (x y n m : Nat) (hn : n = (limbs x).length) (hm : m = (limbs y).length) (hx : (limbs x).length ≤ 1000) (hy : (limbs y).length ≤ 1000) : cPlusB [.fs (nats .u64 (limbs x)) n, .fs (nats .u64 (limbs y)) m] = some (.ret (.fs (nats .u64 (limbs (x + y))) (limbs (x + y)).length)) := by
  subst hn hm; exact conOf_eq (pat := fun p : Nat × Nat => [V.fs (nats .u64 (limbs p.1)) (limbs p.1).length, .fs (nats .u64 (limbs p.2)) (limbs p.2).length]) (fun _ _ h => two_inj h) (x, y) ⟨hx, hy⟩
theorem cPlusB_ok : ∀ args r, cPlusB args = some r → PCall Tryz.prog 111 args r := conOf_ok fun p h => plusB_ok p.1 p.2 h.1 h.2
noncomputable def cMinusB : List V → Option PR := conOf (fun p : Nat × Nat => [.fs (nats .u64 (limbs p.1)) (limbs p.1).length, .fs (nats .u64 (limbs p.2)) (limbs p.2).length]) (fun p => (limbs p.1).length ≤ 1000 ∧ (limbs p.2).length ≤ 1000 ∧ p.2 ≤ p.1) fun p => .ret (.fs (nats .u64 (limbs (p.1 - p.2))) (limbs (p.1 - p.2)).length)
theorem cMinusB_eq (x y n m : Nat) (hn : n = (limbs x).length) (hm : m = (limbs y).length) (hx : (limbs x).length ≤ 1000) (hy : (limbs y).length ≤ 1000) (hle : y ≤ x) : cMinusB [.fs (nats .u64 (limbs x)) n, .fs (nats .u64 (limbs y)) m] = some (.ret (.fs (nats .u64 (limbs (x - y))) (limbs (x - y)).length)) := by
  subst hn hm; exact conOf_eq (pat := fun p : Nat × Nat => [V.fs (nats .u64 (limbs p.1)) (limbs p.1).length, .fs (nats .u64 (limbs p.2)) (limbs p.2).length]) (fun _ _ h => two_inj h) (x, y) ⟨hx, hy, hle⟩
theorem cMinusB_ok : ∀ args r, cMinusB args = some r → PCall Tryz.prog 113 args r := conOf_ok fun p h => minusB_ok p.1 p.2 h.1 h.2.1 h.2.2
attribute [go_sem] cText_eq cBlocks_eq cPlusB_eq cMinusB_eq
def limV (n : Nat) : V := if 1000 < (dec n).length then .tup [.str [], .int .i64 2] else .tup [.str (dec n), .int .i64 0]
theorem limited_ok (hT : TextOK) (n : Nat) (hn : (limbs n).length ≤ 100000) : PCall Tryz.prog 89 [.fs (nats .u64 (limbs n)) (limbs n).length] (.ret (limV n)) := by
  refine PCall.walk (rs := [.tmp 2, .tmp 3]) [0, 2, 3, 4, 9] [] mixed (extΓ_ok (cText_ok hT) noΓ_ok) (noΔ_ok) call89 Tryz.func89 rfl Tryz.ntmps89 rfl (by kernel_rfl) (by simp) (by simp [pure_bool, pure_int, pure_str, pure_fs, pure_fp, pure_fn, pure_agg, pure_tup, pure_nilS, pure_nilP, pure_natsP, pure_intsP, pure_strsP, pure_list, pure_cntsP]) ?_
  simp (disch := (first | assumption | omega | (simp only [push_cast] <;> omega))) only [go_sem]
  refine AXc.introP (fun h1 => ?_) (fun h1 => ?_)
  · have : 1000 < (dec n).length := by omega
    simp only [go_sem, limV, this]
  · have : ¬ 1000 < (dec n).length := by omega
    simp only [go_sem, limV, this]
noncomputable def cLimited : List V → Option PR := conOf (fun n : Nat => [.fs (nats .u64 (limbs n)) (limbs n).length]) (fun n => (limbs n).length ≤ 100000) fun n => .ret (limV n)
theorem cLimited_eq (n m : Nat) (hm : m = (limbs n).length) (h : (limbs n).length ≤ 100000) : cLimited [.fs (nats .u64 (limbs n)) m] = some (.ret (limV n)) := by
  subst hm; exact conOf_eq (pat := fun n : Nat => [V.fs (nats .u64 (limbs n)) (limbs n).length]) (fun x y h => by simp at h; exact limbs_inj (nats_inj h.1)) n h
theorem cLimited_ok (hT : TextOK) : ∀ args r, cLimited args = some r → PCall Tryz.prog 89 args r := conOf_ok (limited_ok hT)
attribute [go_sem] cLimited_eq
theorem validN_dig {a : List UInt8} (h : validN a = true) : a.all isDig = true := (validN_iff.1 h).2
theorem validN_len {a : List UInt8} (h : validN a = true) : a.length ≤ 1000 := (validN_iff.1 h).1.2
def errV (e : Int) : V := .tup [.str [], .int .i64 e]
def addV (a b : List UInt8) : V := if validN a = true ∧ validN b = true then limV (valD a + valD b) else errV 1
theorem limV_tup (n : Nat) : ∃ s e, limV n = .tup [.str s, .int .i64 e] := by unfold limV; split <;> exact ⟨_, _, rfl⟩
theorem natAdd_ok (hT : TextOK) (a b : List UInt8) : PCall Tryz.prog 85 [.str a, .str b] (.ret (addV a b)) := by
  refine PCall.walk (rs := [.tmp 4, .tmp 5]) [0, 1, 4, 5, 13] [] mixed (extΓ_ok cValid_ok (extΓ_ok cBlocks_ok (extΓ_ok cPlusB_ok (extΓ_ok (cLimited_ok hT) noΓ_ok)))) (noΔ_ok) call85 Tryz.func85 rfl Tryz.ntmps85 rfl (by kernel_rfl) (by simp) (by simp [pure_bool, pure_int, pure_str, pure_fs, pure_fp, pure_fn, pure_agg, pure_tup, pure_nilS, pure_nilP, pure_natsP, pure_intsP, pure_strsP, pure_list, pure_cntsP]) ?_
  by_cases ha : validN a = true
  · by_cases hb : validN b = true
    · have da := validN_dig ha
      have la := validN_len ha
      have db := validN_dig hb
      have lb := validN_len hb
      have ba := limbs_valD da la
      have bb := limbs_valD db lb
      have bs := limbs_add ba bb
      obtain ⟨s, e, hse⟩ := limV_tup (valD a + valD b)
      simp (disch := (first | assumption | omega | (simp only [push_cast] <;> omega))) only [go_sem, addV, ha, hb, hse]
    · simp only [go_sem, addV, ha, hb, errV]
  · simp only [go_sem, addV, ha, errV]
    trace_state
end Go.Proofs

namespace Go.Proofs
open Go.Ab Go.Pl
theorem set_nats' {k : IntKind} {l : List Nat} {n d : Nat} {v : Int} (h : v = (d : Nat)) : (nats k l).set n (.int k v) = nats k (l.set n d) := by rw [h, set_nats]
theorem ints_rep (k : IntKind) (n : Nat) : ints k (List.replicate n 0) = nats k (List.replicate n 0) := by simp [ints, nats]
def mulV (a b : List UInt8) : V := if validN a = true ∧ validN b = true then limV (valD a * valD b) else errV 1
set_option maxHeartbeats 4000000 in
theorem natMul_ok (hT : TextOK) (a b : List UInt8) : PCall Tryz.prog 58 [.str a, .str b] (.ret (mulV a b)) := by
  have hΓ := extΓ_ok cValid_ok (extΓ_ok cBlocks_ok (extΓ_ok cTrim_ok (extΓ_ok (cLimited_ok hT) noΓ_ok)))
  refine PCall.walk (rs := [.tmp 4, .tmp 5]) [0, 1, 4, 5, 6, 7, 8, 9, 10, 11, 12, 20, 33, 34, 35, 39, 40, 41, 54] [] mixed (hΓ) (noΔ_ok) call58 Tryz.func58 rfl Tryz.ntmps58 rfl (by kernel_rfl) (by simp) (by simp [pure_bool, pure_int, pure_str, pure_fs, pure_fp, pure_fn, pure_agg, pure_tup, pure_nilS, pure_nilP, pure_natsP, pure_intsP, pure_strsP, pure_list, pure_cntsP]) ?_
  by_cases ha : validN a = true
  case neg => simp only [go_sem, mulV, ha, errV]
  by_cases hb : validN b = true
  case neg => simp only [go_sem, mulV, ha, hb, errV]
  have da := validN_dig ha
  have la := validN_len ha
  have db := validN_dig hb
  have lb := validN_len hb
  have ba := limbs_valD da la
  have bb := limbs_valD db lb
  have bm := limbs_mul ba bb
  obtain ⟨s, e, hse⟩ := limV_tup (valD a * valD b)
  have hres : mulV a b = .tup [.str s, .int .i64 e] := by unfold mulV; rw [if_pos ⟨ha, hb⟩, hse]
  rw [hres]
  have ox := okL_limbs (valD a)
  have oy := okL_limbs (valD b)
  have hfin : ∀ l, mulOut (limbs (valD a)) (limbs (valD b)) (limbs (valD a)).length l → trimL l = limbs (valD a * valD b) := fun l h => by
    rw [mul_done h, valL_limbs, valL_limbs]
  simp (disch := (first | assumption | omega | (simp only [push_cast] <;> omega))) only [go_sem, ha, hb]
  generalize limbs (valD a) = x at *
  generalize limbs (valD b) = y at *
  simp (disch := (first | assumption | omega | (simp only [push_cast] <;> omega))) only [go_sem, toNat_a3, ints_rep]
  refine ⟨by omega, ?_⟩
  refine AXs.loop mixed (hΓ) (noΔ_ok) (fun (p : Nat × List Nat) => [(6, .fs (nats .u64 x) x.length), (7, .fs (nats .u64 y) y.length), (8, .sl 0 0 (x.length + y.length + 1) 1 (some (x.length + y.length + 1))), (33, .int .i64 x.length), (34, .int .i64 p.1)]) (fun p => ⟨[(0, .cells (nats .u64 p.2))], 1⟩)
    (fun p => p.1 ≤ x.length ∧ mulOut x y p.1 p.2) (fun p => x.length - p.1) (0, List.replicate (x.length + y.length + 1) 0) (by kernel_rfl) ⟨Nat.zero_le _, mul_start x y⟩ (Sub.of0 [] rfl rfl ?_ ?_) ?_
  · simp only [go_sem]
  · simp only [go_sem]
  rintro ⟨i, l0⟩ ⟨hi, ho⟩
  dsimp only at hi ho ⊢
  simp (disch := (first | assumption | omega | (simp only [push_cast] <;> omega))) only [go_sem]
  refine AXc.introP (fun h1 => ?_) (fun h1 => ?_)
  · have hix : i < x.length := by omega
    simp (disch := (first | assumption | omega | (simp only [push_cast] <;> omega))) only [go_sem]
    refine AXs.loop mixed (hΓ) (noΔ_ok) (fun (p : Nat × List Nat × Nat) => [(6, .fs (nats .u64 x) x.length), (7, .fs (nats .u64 y) y.length), (8, .sl 0 0 (x.length + y.length + 1) 1 (some (x.length + y.length + 1))), (9, .int .i64 i), (10, .int .u64 p.2.2), (33, .int .i64 x.length), (34, .int .i64 i), (39, .int .i64 (y.length + 1 : Int)), (40, .int .i64 p.1)]) (fun p => ⟨[(0, .cells (nats .u64 p.2.1))], 1⟩)
      (fun p => p.1 ≤ y.length + 1 ∧ mulInv x y i (valL l0) p.1 p.2.1 p.2.2) (fun p => y.length + 1 - p.1) (0, l0, 0) (by kernel_rfl) ⟨Nat.zero_le _, mul_row ho⟩ (Sub.of0 [] rfl rfl ?_ ?_) ?_
    · simp only [go_sem]
    · simp only [go_sem]
    rintro ⟨k, l, c⟩ ⟨hk, hv⟩
    dsimp only at hk hv ⊢
    have hl := hv.1
    have hkl := hv.2.1
    have hcl := hv.2.2.1
    simp (disch := (first | assumption | omega | (simp only [push_cast] <;> omega))) only [go_sem]
    refine AXc.introP (fun h2 => ?_) (fun h2 => ?_)
    · have hky : k ≤ y.length := by omega
      have hst := mul_step ox oy hix hky hv
      have hpl := mulP_lt (i := i) (k := k) ox oy hkl hcl
      have hgl := getD_lt hkl (i + k)
      have hm : (x.getD i 0 : Int) * (y.getD k 0 : Int) = ((x.getD i 0 * y.getD k 0 : Nat) : Int) := by simp
      have hp1 : mulP x y i k l c = l.getD (i + k) 0 + c + x.getD i 0 * y.getD k 0 := rfl
      have hyz : ¬ (k : Int) < y.length → x.getD i 0 * y.getD k 0 = 0 := fun h => by rw [getD_ge y _ _ (by omega)]; simp
      generalize x.getD i 0 * y.getD k 0 = q at *
      by_cases h3 : (k : Int) < y.length
      · simp (disch := (first | assumption | omega | (simp only [push_cast] <;> omega))) only [go_sem, h3, hm]
        repeat refine And.intro (by omega) ?_
        refine loopK_norm (k + 1, l.set (i + k) (mulP x y i k l c % 1000000000), mulP x y i k l c / 1000000000) ⟨by omega, hst⟩ (by dsimp only; omega) (Sub.of0 [] rfl rfl ?_ ?_)
        · simp only [go_sem]
          rw [hp1]
          simp only [V.int.injEq, true_and]
          omega
        · simp only [go_sem]
          rw [set_nats' (d := mulP x y i k l c % 1000000000) (by rw [hp1]; omega)]
      · have hq0 := hyz h3
        subst hq0
        simp (disch := (first | assumption | omega | (simp only [push_cast] <;> omega))) only [go_sem, h3]
        repeat refine And.intro (by omega) ?_
        refine loopK_norm (k + 1, l.set (i + k) (mulP x y i k l c % 1000000000), mulP x y i k l c / 1000000000) ⟨by omega, hst⟩ (by dsimp only; omega) (Sub.of0 [] rfl rfl ?_ ?_)
        · simp only [go_sem]
          rw [hp1]
          simp only [V.int.injEq, true_and]
          omega
        · simp only [go_sem]
          rw [set_nats' (d := mulP x y i k l c % 1000000000) (by rw [hp1]; omega)]
    · have hke : k = y.length + 1 := by omega
      subst hke
      have hen := mul_end ho hv
      simp (disch := (first | assumption | omega | (simp only [push_cast] <;> omega))) only [go_sem]
      refine AXa.go mixed (hΓ) (noΔ_ok) (by kernel_rfl) ?_
      simp (disch := (first | assumption | omega | (simp only [push_cast] <;> omega))) only [go_sem]
      refine loopK_norm (i + 1, l) ⟨by omega, hen⟩ (by dsimp only; omega) (Sub.of0 [] rfl rfl ?_ ?_)
      · simp only [go_sem]
        simp
      · simp only [go_sem]
  · have hie : i = x.length := by omega
    subst hie
    have hll := ho.1
    have hft := hfin l0 ho
    simp only [go_sem]
    refine AXa.fz [0] rfl rfl rfl (env' := [(8, .fs (nats .u64 l0) l0.length)]) (bs' := []) (n' := 1) ?_ ?_ ?_
    · simp only [go_sem]
      right
      exact FrzF.slp (by simp) rfl (by omega) (by simp [len_nats]; omega) (by rw [List.drop_zero, Nat.mul_one, take_nats, ← hll, List.take_length]) (pure_nats _ _)
    · simp only [go_sem]
    refine AXa.go mixed (hΓ) (noΔ_ok) (by kernel_rfl) ?_
    simp (disch := (first | assumption | omega | (simp only [push_cast] <;> omega))) only [go_sem, hft, hse]
end Go.Proofs

/- Long division of blocks. -/
namespace Go.Proofs
open Go.Ab Go.Pl
def DigR (args : List V) (H : Hp) (r : AR) : Prop :=
  ∃ (b o : Nat) (kc : Option Nat) (l v : List Nat), args = [.sl b o (v.length + 1) 1 kc, .fs (nats .u64 v) v.length] ∧ H.get b = some (.cells (nats .u64 l)) ∧ DigOK (seg l o v.length) v ∧ o + v.length + 1 ≤ l.length ∧ okL l ∧ l.length ≤ 1000000 ∧
    (∀ b x, H.get b = some x → b < H.next) ∧
    r = ⟨True, .int .u64 (valL (seg l o v.length) / valL v : Nat), H.put b (.cells (nats .u64 (mid l o (v.length + 1) (digs (v.length + 1) (valL (seg l o v.length) % valL v))))), [b], [b]⟩
theorem dgC_ok : ∀ args H r, DigR args H r → HCall Tryz.prog 140 args H r := by
  rintro args H r ⟨b, o, kc, l, v, rfl, hb, hd, h1, h2, h3, hk, rfl⟩
  refine HCall.putS (digitN_ok l v o hd h1 h2 h3) (.int _ _) (pure_nats _ _) (pure_nats _ _) b _ H ⟨rfl, fun i x y hx hy => ?_⟩ hb hk
  match i with
  | 0 => cases hx; cases hy; exact .sl (π := fun i => [b].getD i 0) (b := 0) (Nat.lt_one_iff.2 rfl) (.inl rfl)
  | 1 => cases hx; cases hy; exact .same (.fs (pure_nats _ _))
  | i + 2 => simp at hx
theorem dgC_uniq {args : List V} {H : Hp} {r r' : AR} (h : DigR args H r) (h' : DigR args H r') : r' = r := by
  obtain ⟨b, o, kc, l, v, rfl, hb, _, _, _, _, _, rfl⟩ := h
  obtain ⟨b', o', kc', l', v', he, hb', _, _, _, _, _, rfl⟩ := h'
  simp only [List.cons.injEq, V.sl.injEq, V.fs.injEq, and_true, true_and] at he
  obtain ⟨⟨rfl, rfl, _, rfl⟩, e, _⟩ := he
  obtain rfl := nats_inj e
  rw [hb] at hb'
  simp only [Option.some.injEq, Blk.cells.injEq] at hb'
  rw [nats_inj hb']
theorem dgC_eq (b o : Nat) (kc : Option Nat) (l v : List Nat) (H : Hp) (hb : H.get b = some (.cells (nats .u64 l))) (hd : DigOK (seg l o v.length) v) (h1 : o + v.length + 1 ≤ l.length) (h2 : okL l) (h3 : l.length ≤ 1000000) (hk : ∀ b x, H.get b = some x → b < H.next) :
    conD DigR [.sl b o (v.length + 1) 1 kc, .fs (nats .u64 v) v.length] H = some ⟨True, .int .u64 (valL (seg l o v.length) / valL v : Nat), H.put b (.cells (nats .u64 (mid l o (v.length + 1) (digs (v.length + 1) (valL (seg l o v.length) % valL v))))), [b], [b]⟩ := by
  have hr : DigR [.sl b o (v.length + 1) 1 kc, .fs (nats .u64 v) v.length] H ⟨True, .int .u64 (valL (seg l o v.length) / valL v : Nat), H.put b (.cells (nats .u64 (mid l o (v.length + 1) (digs (v.length + 1) (valL (seg l o v.length) % valL v))))), [b], [b]⟩ := ⟨b, o, kc, l, v, rfl, hb, hd, h1, h2, h3, hk, rfl⟩
  exact conD_eq hr fun _ h' => dgC_uniq hr h'
noncomputable def ΔD : FuncId → List V → Hp → Option AR := extΔ 139 (conD ScaledR) (extΔ 140 (conD DigR) (extΔ 90 (conD TrimR) noΔ))
theorem ΔD_ok : GoodΔ Tryz.prog ΔD := extΔ_ok (conD_ok scaledD_ok) (extΔ_ok (conD_ok dgC_ok) (extΔ_ok (conD_ok trimR_ok) noΔ_ok))
theorem limbs_scale {X k : Nat} (hk : k < 1000000000) : (limbs (X * k)).length ≤ (limbs X).length + 1 := by
  apply limbs_len
  have h1 := valL_lt (okL_limbs X)
  rw [valL_limbs] at h1
  rw [Nat.pow_succ]
  exact Nat.mul_lt_mul'' h1 hk
theorem trimL_len : ∀ l : List Nat, (trimL l).length ≤ l.length
  | [] => Nat.le_refl _
  | d :: l => by
    have := trimL_len l
    unfold trimL
    split
    · simp
    · simpa using this
theorem trimL_pre : ∀ l : List Nat, l.take (trimL l).length = trimL l
  | [] => rfl
  | d :: l => by
    have := trimL_pre l
    unfold trimL
    split
    · simp
    · simpa using this
theorem digs_limbs (x m : Nat) (h : (limbs x).length ≤ m) : digs m x = limbs x ++ List.replicate (m - (limbs x).length) 0 := by
  have ok : okL (limbs x ++ List.replicate (m - (limbs x).length) 0) := okL_append.2 ⟨okL_limbs x, fun d hd => by have := List.eq_of_mem_replicate hd; omega⟩
  have hz : ∀ j, valL (List.replicate j 0) = 0 := by
    intro j
    induction j with
    | zero => rfl
    | succ j ih => rw [List.replicate_succ, valL, ih]
  have := digs_of ok
  rw [valL_append, hz, Nat.mul_zero, Nat.add_zero, valL_limbs, List.length_append, List.length_replicate] at this
  rw [this, Nat.add_sub_cancel' h]
set_option maxHeartbeats 4000000 in
set_option maxRecDepth 100000 in
theorem divide_ok (X Y : Nat) (hX : (limbs X).length ≤ 500) (hYl : (limbs Y).length ≤ 500) (hY : Y ≠ 0) : PCall Tryz.prog 109 [.fs (nats .u64 (limbs X)) (limbs X).length, .fs (nats .u64 (limbs Y)) (limbs Y).length]
    (.ret (.tup [.fs (nats .u64 (limbs (X / Y))) (limbs (X / Y)).length, .fs (nats .u64 (limbs (X % Y))) (limbs (X % Y)).length])) := by
  have hΓ := extΓ_ok cCompareB_ok (noΓ_ok (P := Tryz.prog))
  refine PCall.walk (rs := [.tmp 4, .tmp 5]) [0, 1, 4, 5, 6, 7, 8, 9, 10, 11, 12, 13, 14, 18, 39, 49, 50, 51, 74, 75, 76] [] mixed (hΓ) (ΔD_ok) call109 Tryz.func109 rfl Tryz.ntmps109 rfl (by kernel_rfl) (by simp) (by simp [pure_bool, pure_int, pure_str, pure_fs, pure_fp, pure_fn, pure_agg, pure_tup, pure_nilS, pure_nilP, pure_natsP, pure_intsP, pure_strsP, pure_list, pure_cntsP]) ?_
  simp (disch := (first | assumption | omega | (simp only [push_cast] <;> omega))) only [go_sem]
  refine AXc.introP (fun h1 => ?_) (fun h1 => ?_)
  · have h2 : X < Y := by
      rw [cmpI_nat] at h1
      split at h1
      · assumption
      · split at h1 <;> omega
    rw [Nat.div_eq_of_lt h2, Nat.mod_eq_of_lt h2]
    simp only [go_sem, limbs_zero]
  · have h2 : Y ≤ X := by
      rw [cmpI_nat] at h1
      split at h1 <;> omega
    obtain ⟨n, hn⟩ : ∃ n, n = (limbs Y).length := ⟨_, rfl⟩
    have hyl := limbs_last hY
    rw [← hn] at hyl
    have hyt := getD_lt (okL_limbs Y) (n - 1)
    obtain ⟨k, hk⟩ : ∃ k, k = 1000000000 / ((limbs Y).getD (n - 1) 0 + 1) := ⟨_, rfl⟩
    obtain ⟨k0, k1, k2⟩ := norm_len hn hY hk
    have hkI : (1000000000 : Int) / (((limbs Y).getD (n - 1) 0 : Nat) + 1) = (k : Int) := by rw [hk, Int.natCast_ediv]; rfl
    have hn0 : 0 < n := by
      rcases Nat.eq_zero_or_pos n with h0 | h0
      · rw [h0] at hn
        exact absurd (limbs_nil.1 (List.eq_nil_of_length_eq_zero hn.symm)) hY
      · exact h0
    have hm0 : 0 < (limbs X).length := by
      rcases Nat.eq_zero_or_pos (limbs X).length with h0 | h0
      · have := limbs_nil.1 (List.eq_nil_of_length_eq_zero h0)
        omega
      · exact h0
    obtain ⟨m, hm⟩ : ∃ m, m = (limbs X).length + 1 := ⟨_, rfl⟩
    have hnm : n < m := by
      refine Nat.lt_of_le_of_lt ?_ (show (limbs X).length < m by omega)
      rw [hn]
      refine Nat.le_of_not_lt fun hlt => ?_
      have := limbs_lt_of_len hlt
      omega
    have hstart := DivInv.start hm0 hm hn hY h2 k1 k0 k2 hnm
    have hS1 : ΔD 139 [.fs (nats .u64 (limbs X)) (limbs X).length, .int .u64 k] ⟨[], 0⟩ = some ⟨True, .sl 0 0 (limbs (X * k)).length 1 none, ⟨[(0, .cells (nats .u64 (digs m (X * k))))], 1⟩, [], []⟩ := by
      rw [hm]; exact scaledD_eq X k (by omega) k1 [] 0 rfl
    have hS2 : ∀ B, ΔD 139 [.fs (nats .u64 (limbs Y)) n, .int .u64 k] ⟨[(0, .cells B)], 1⟩ = some ⟨True, .sl 1 0 n 1 none, ⟨[(1, .cells (nats .u64 (digs (n + 1) (Y * k)))), (0, .cells B)], 2⟩, [], []⟩ := fun B => by
      have := scaledD_eq Y k (by omega) k1 [(0, .cells B)] 1 rfl
      rw [k2, ← hn] at this
      exact this
    obtain ⟨m0, hm0'⟩ : ∃ m0, m0 = (limbs (X * k)).length := ⟨_, rfl⟩
    have hXk := digs_limbs (X * k) m (by rw [hm]; exact limbs_scale k1)
    have hle1 : m0 ≤ m := by rw [hm0', hm]; exact limbs_scale k1
    have hle2 : m ≤ m0 + 1 := by
      rw [hm0', hm]
      refine Nat.add_le_add_right (Nat.le_of_not_lt fun hlt => ?_) 1
      have h3 := limbs_lt_of_len hlt
      have h4 : X ≤ X * k := Nat.le_mul_of_pos_right _ k0
      omega
    simp (disch := (first | assumption | omega | (simp only [push_cast] <;> omega))) only [go_sem, ← hn, hkI, hS1, hS2, ← hm0']
    refine ⟨⟨by omega, by omega⟩, by omega, by omega, ?_⟩
    refine AXs.loop mixed (hΓ) ( ΔD_ok) (fun e : Nat => [(0, .fs (nats .u64 (limbs X)) (limbs X).length), (6, .int .i64 n), (7, .int .u64 k), (8, .sl 0 0 (m0 + e) 1 none), (9, .sl 1 0 n 1 none)]) (fun _ => ⟨[(1, .cells (nats .u64 (digs (n + 1) (Y * k)))), (0, .cells (nats .u64 (digs m (X * k))))], 2⟩) (fun e => m0 + e ≤ m) (fun e => m - (m0 + e)) 0 (by kernel_rfl) hle1 (Sub.of0 [] rfl rfl ?_ ?_) ?_
    · simp only [go_sem]
    · simp only [go_sem]
    rintro e he
    simp (disch := (first | assumption | omega | (simp only [push_cast] <;> omega))) only [go_sem]
    refine AXc.introP (fun h3 => ?_) (fun h3 => ?_)
    · have he0 : e = 0 := by omega
      subst he0
      have hm1 : m = m0 + 1 := by omega
      have hdl := digs_len m (X * k)
      have hcat : List.take m0 (digs m (X * k)) ++ [0] = digs m (X * k) := by
        rw [hXk, ← hm0', List.take_left' hm0'.symm, hm1, Nat.add_sub_cancel_left]
        rfl
      simp (disch := (first | assumption | omega | (simp only [push_cast] <;> omega))) only [go_sem]
      refine ⟨⟨by omega, by omega, by omega⟩, ?_⟩
      refine loopK_norm 1 (by omega) (by omega) (Sub.of0 [(0, 3)] rfl rfl ?_ ?_)
      · simp only [go_sem]
      · simp only [go_sem]
        rw [show ([V.int .u64 0] : List V) = nats .u64 [0] from rfl]
        conv => rhs; rw [← hcat]
        simp [nats]
    · have hme : m0 + e = m := by omega
      have hln := digs_len m (X * k)
      have hlv := digs_len (n + 1) (Y * k)
      have hYk := digs_limbs (Y * k) (n + 1) (by omega)
      rw [k2, show n + 1 - n = 1 by omega] at hYk
      rw [hme]
      simp (disch := (first | assumption | omega | (simp only [push_cast] <;> omega))) only [go_sem]
      refine AXa.fz [1] rfl rfl rfl (env' := [(6, .int .i64 n), (7, .int .u64 k), (8, .sl 0 0 m 1 none), (9, .fs (nats .u64 (limbs (Y * k))) n)]) (bs' := [(0, .cells (nats .u64 (digs m (X * k))))]) (n' := 2) ?_ ?_ ?_
      · simp only [go_sem]
        refine ⟨.inl ⟨by simp, rfl⟩, .inr ?_⟩
        exact FrzF.slp (by simp) rfl (by omega) (by rw [len_nats, hlv]; omega) (by rw [List.drop_zero, Nat.mul_one, take_nats, hYk, List.take_left' (by rw [k2])]) (pure_nats _ _)
      · simp only [go_sem]
        simp
      refine AXa.go mixed (hΓ) ( ΔD_ok) (by kernel_rfl) ?_
      simp (disch := (first | assumption | omega | (simp only [push_cast] <;> omega))) only [go_sem, toNat_s2, ints_rep]
      refine ⟨⟨by omega, by omega, by omega, by omega⟩, ?_⟩
      have hvt := limbs_last (n := Y * k) (by have := Nat.mul_pos (Nat.pos_of_ne_zero hY) k0; omega)
      have okV := okL_limbs (Y * k)
      have hfin : ∀ q u, DivInv (X * k) (limbs (Y * k)) m 0 q u → trimL q = limbs (X / Y) ∧ trimL u = limbs (X % Y * k) := fun q u h => by
        have := h.done
        rw [valL_limbs, Nat.mul_div_mul_right _ _ k0, Nat.mul_mod_mul_right] at this
        exact this
      generalize limbs (Y * k) = VV at *
      subst k2
      refine AXs.loop mixed (hΓ) ( ΔD_ok) (fun p : Nat × List Nat × List Nat => [(4, .sl 2 0 (m - VV.length) 1 (some (m - VV.length))), (6, .int .i64 VV.length), (7, .int .u64 k), (8, .sl 0 0 m 1 none), (9, .fs (nats .u64 VV) VV.length), (49, .int .i64 (m - VV.length : Nat)), (50, .int .i64 p.1)]) (fun p => ⟨[(2, .cells (nats .u64 p.2.1)), (0, .cells (nats .u64 p.2.2))], 3⟩)
        (fun p => p.1 ≤ m - VV.length ∧ DivInv (X * k) VV m (m - VV.length - p.1) p.2.1 p.2.2) (fun p => m - VV.length - p.1) (0, List.replicate (m - VV.length) 0, digs m (X * k)) (by kernel_rfl) ⟨Nat.zero_le _, hstart⟩ (Sub.of0 [] rfl rfl ?_ ?_) ?_
      · simp only [go_sem]
      · simp only [go_sem]
      rintro ⟨i, q, u⟩ ⟨hi, hinv⟩
      dsimp only at hi hinv ⊢
      have lu := hinv.lu
      have lq := hinv.lq
      simp (disch := (first | assumption | omega | (simp only [push_cast] <;> omega))) only [go_sem]
      refine AXc.introP (fun h4 => ?_) (fun h4 => ?_)
      · obtain ⟨a, ha⟩ : ∃ a, a = m - VV.length - 1 - i := ⟨_, rfl⟩
        rw [show m - VV.length - i = a + 1 by omega] at hinv
        obtain ⟨hdig, _, _⟩ := hinv.segm okV hn0 (Nat.pos_of_ne_zero hvt) (by omega)
        have hstep := hinv.step okV hn0 (Nat.pos_of_ne_zero hvt) (by omega)
        have hai : ((m - VV.length : Nat) : Int) - 1 - (i : Int) = (a : Int) := by omega
        have hD : ΔD 140 [.sl 0 a (a + VV.length + 1 - a) 1 none, .fs (nats .u64 VV) VV.length] ⟨[(2, .cells (nats .u64 q)), (0, .cells (nats .u64 u))], 3⟩ =
            some ⟨True, .int .u64 (valL (seg u a VV.length) / valL VV : Nat), ⟨[(2, .cells (nats .u64 q)), (0, .cells (nats .u64 (mid u a (VV.length + 1) (digs (VV.length + 1) (valL (seg u a VV.length) % valL VV)))))], 3⟩, [0], [0]⟩ := by
          rw [show a + VV.length + 1 - a = VV.length + 1 by omega]
          exact dgC_eq 0 a none u VV ⟨[(2, .cells (nats .u64 q)), (0, .cells (nats .u64 u))], 3⟩ rfl hdig (by omega) hinv.ou (by omega) (keysLt rfl)
        generalize valL (seg u a VV.length) / valL VV = dd at *
        generalize mid u a (VV.length + 1) (digs (VV.length + 1) (valL (seg u a VV.length) % valL VV)) = u' at *
        simp (disch := (first | assumption | omega | (simp only [push_cast] <;> omega))) only [go_sem, hai, hD]
        refine ⟨⟨by omega, by omega, by omega⟩, ⟨by omega, by omega⟩, by omega, ?_⟩
        refine loopK_norm (i + 1, q.set a dd, u') ⟨by dsimp only; omega, ?_⟩ (by dsimp only; omega) (Sub.of0 [] rfl rfl ?_ ?_)
        · dsimp only
          rw [show m - VV.length - (i + 1) = a by omega]
          exact hstep
        · simp only [go_sem]
          simp
        · simp only [go_sem]
      · have hie : i = m - VV.length := by omega
        subst hie
        rw [Nat.sub_self] at hinv
        obtain ⟨e1, e2⟩ := hfin q u hinv
        have oq := hinv.oq
        have ou := hinv.ou
        have hT : ∀ Bq, ΔD 90 [.sl 0 0 m 1 none] ⟨[(2, .cells Bq), (0, .cells (nats .u64 u))], 3⟩ = some ⟨True, .sl 0 0 (limbs (X % Y * k)).length 1 none, ⟨[(2, .cells Bq), (0, .cells (nats .u64 u))], 3⟩, [0], []⟩ := fun Bq => by
          have := trimD_eq 0 m none u [(2, .cells Bq), (0, .cells (nats .u64 u))] 3 rfl (by omega) (by omega) rfl
          rw [List.take_of_length_le (by omega), e2] at this
          exact this
        simp (disch := (first | assumption | omega | (simp only [push_cast] <;> omega))) only [go_sem]
        refine AXa.go mixed (hΓ) ( ΔD_ok) (by kernel_rfl) ?_
        simp (disch := (first | assumption | omega | (simp only [push_cast] <;> omega))) only [go_sem, hT]
        have hu : u = limbs (X % Y * k) ++ List.replicate (m - (limbs (X % Y * k)).length) 0 := by
          have h5 := digs_of ou
          have h6 : valL u = X % Y * k := limbs_inj (by rw [← trimL_eq ou, e2])
          rw [lu, h6] at h5
          rw [← digs_limbs _ _ ?_]
          · exact h5
          · rw [← e2, ← lu]
            exact trimL_len u
        have hlr : (limbs (X % Y * k)).length ≤ 1000 := by
          have := congrArg List.length hu
          rw [List.length_append] at this
          omega
        have hrd := fun r c => rem_done (z := X % Y) (r := r) (c := c) k0
        have hrs := rem_start (r0 := limbs (X % Y * k)) k0 (okL_limbs _)
        clear hT e2 ou hinv
        generalize limbs (X % Y * k) = r0 at *
        generalize List.replicate (m - r0.length) 0 = z at *
        subst hu
        refine AXs.loop mixed (hΓ) ( ΔD_ok) (fun p : Nat × List Nat × Nat => [(4, .sl 2 0 (m - VV.length) 1 (some (m - VV.length))), (5, .sl 0 0 r0.length 1 none), (7, .int .u64 k), (12, .int .u64 p.2.2), (74, .int .i64 r0.length), (75, .int .i64 p.1)]) (fun p => ⟨[(2, .cells (nats .u64 q)), (0, .cells (nats .u64 (p.2.1 ++ z)))], 3⟩)
          (fun p => p.1 ≤ r0.length ∧ remInv k r0 (r0.length - p.1) p.2.1 p.2.2) (fun p => r0.length - p.1) (0, r0, 0) (by kernel_rfl) ⟨Nat.zero_le _, hrs⟩ (Sub.of0 [] rfl rfl ?_ ?_) ?_
        · simp only [go_sem]
        · simp only [go_sem]
        rintro ⟨i, r, c⟩ ⟨hi, hr⟩
        dsimp only at hi hr ⊢
        have lr := hr.1
        simp (disch := (first | assumption | omega | (simp only [push_cast] <;> omega))) only [go_sem]
        refine AXc.introP (fun h4 => ?_) (fun h4 => ?_)
        · obtain ⟨e, he⟩ : ∃ e, e = r0.length - 1 - i := ⟨_, rfl⟩
          rw [show r0.length - i = e + 1 by omega] at hr
          obtain ⟨hst, hb⟩ := rem_step k1 (by omega) hr
          have hei : ((r0.length : Nat) : Int) - 1 - (i : Int) = (e : Int) := by omega
          have hg : (r ++ z).getD e 0 = r.getD e 0 := by
            rw [List.getD_eq_getElem?_getD, List.getElem?_append_left (by omega), List.getD_eq_getElem?_getD]
          have hset : ∀ d, (r ++ z).set e d = r.set e d ++ z := fun d => List.set_append_left _ _ (by omega)
          obtain ⟨R9, hR9⟩ : ∃ R9, R9 = c * 1000000000 := ⟨_, rfl⟩
          have hR : (c : Int) * 1000000000 = (R9 : Int) := by omega
          obtain ⟨T, hT⟩ : ∃ T, T = R9 + r.getD e 0 := ⟨_, rfl⟩
          have hT' : (R9 : Int) + ((r.getD e 0 : Nat) : Int) = (T : Int) := by omega
          rw [← hR9, ← hT] at hst hb
          have hdv : (T : Int) / (k : Int) = ((T / k : Nat) : Int) := (Int.natCast_ediv ..).symm
          have hmd : (T : Int) % (k : Int) = ((T % k : Nat) : Int) := (Int.natCast_emod ..).symm
          have hdk : T / k ≤ T := Nat.div_le_self ..
          have hmk : T % k ≤ T := Nat.mod_le ..
          have lrz : (r ++ z).length = r.length + z.length := List.length_append
          generalize T / k = td at *
          generalize T % k = tm at *
          simp (disch := (first | assumption | omega | (simp only [push_cast] <;> omega))) only [go_sem, hei, hg, hR, hT', hdv, hmd]
          refine ⟨⟨by omega, by omega⟩, by omega, by omega, by omega, ⟨by omega, by omega⟩, by omega, AXk.intro (by kernel_rfl) ?_⟩
          simp (disch := (first | assumption | omega | (simp only [push_cast] <;> omega))) only [go_sem]
          refine loopK_norm (i + 1, r.set e td, tm) ⟨by dsimp only; omega, ?_⟩ (by dsimp only; omega) (Sub.of0 [] rfl rfl ?_ ?_)
          · dsimp only
            rw [show r0.length - (i + 1) = e by omega]
            exact hst
          · simp only [go_sem]
            simp
          · simp only [go_sem]
            rw [hset]
        · have hie : i = r0.length := by omega
          subst hie
          rw [Nat.sub_self] at hr
          have e2 := hrd r c hr
          simp (disch := (first | assumption | omega | (simp only [push_cast] <;> omega))) only [go_sem]
          refine AXa.go mixed (hΓ) ( ΔD_ok) (by kernel_rfl) ?_
          have hT1 : ΔD 90 [.sl 2 0 (m - VV.length) 1 (some (m - VV.length))] ⟨[(2, .cells (nats .u64 q)), (0, .cells (nats .u64 (r ++ z)))], 3⟩ = some ⟨True, .sl 2 0 (limbs (X / Y)).length 1 none, ⟨[(2, .cells (nats .u64 q)), (0, .cells (nats .u64 (r ++ z)))], 3⟩, [2], []⟩ := by
            have := trimD_eq 2 (m - VV.length) (some (m - VV.length)) q [(2, .cells (nats .u64 q)), (0, .cells (nats .u64 (r ++ z)))] 3 rfl (by omega) (by omega) rfl
            rw [List.take_of_length_le (by omega), e1] at this
            exact this
          have hT2 : ΔD 90 [.sl 0 0 r0.length 1 none] ⟨[(2, .cells (nats .u64 q)), (0, .cells (nats .u64 (r ++ z)))], 3⟩ = some ⟨True, .sl 0 0 (limbs (X % Y)).length 1 none, ⟨[(2, .cells (nats .u64 q)), (0, .cells (nats .u64 (r ++ z)))], 3⟩, [0], []⟩ := by
            have := trimD_eq 0 r0.length none (r ++ z) [(2, .cells (nats .u64 q)), (0, .cells (nats .u64 (r ++ z)))] 3 rfl (by rw [List.length_append]; omega) (by rw [List.length_append] at *; omega) rfl
            rw [List.take_left' (by omega), e2] at this
            exact this
          simp (disch := (first | assumption | omega | (simp only [push_cast] <;> omega))) only [go_sem, hT1, hT2]
          have p1 := trimL_pre q
          have p2 := trimL_pre r
          have p3 := trimL_len q
          have p4 := trimL_len r
          rw [e1] at p1 p3
          rw [e2] at p2 p4
          refine ⟨Frz.slp rfl rfl (by rw [len_nats]; omega) ?_ (pure_nats _ _), Frz.slp rfl rfl (by rw [len_nats, List.length_append]; omega) ?_ (pure_nats _ _)⟩
          · rw [List.drop_zero, Nat.mul_one, take_nats, p1]
          · rw [List.drop_zero, Nat.mul_one, take_nats, List.take_append_of_le_length p4, p2]
end Go.Proofs
