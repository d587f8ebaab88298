/- The reference's natural numbers: contracts; comparison, single digits, the limit. -/
import Derived.Test.YtfilkkmcagndlaaGreatDoorQFmt
import Derived.Test.YtfilkkmcagndlaaGreatDoorQNat5
set_option linter.unusedSimpArgs false
set_option linter.unusedVariables false
set_option linter.all false
namespace Go.Proofs
open Go.Ab Go.Pl
noncomputable def cRText : List V → Option PR := conOf (fun l : List Nat => [.fs (nats .i64 l) l.length]) (fun l => l.length ≤ 1000000 ∧ Ten.okL l) fun l => .ret (.str (dec (Ten.valL l)))
theorem cRText_eq (l : List Nat) (n : Nat) (hn : n = l.length) (h : l.length ≤ 1000000) (ok : Ten.okL l) : cRText [.fs (nats .i64 l) n] = some (.ret (.str (dec (Ten.valL l)))) := by
  subst hn; exact conOf_eq (pat := fun l : List Nat => [V.fs (nats .i64 l) l.length]) (fun x y h => by simp at h; exact nats_inj h.1) l ⟨h, ok⟩
theorem cRText_ok : ∀ args r, cRText args = some r → PCall Tryz.prog 103 args r := conOf_ok fun l h => rtext_ok l h.1 h.2
attribute [go_sem] cRText_eq
theorem rat_ok (l : List Nat) (i : Nat) : PCall Tryz.prog 101 [.fs (nats .i64 l) l.length, .int .i64 i] (.ret (.int .i64 (l.getD i 0 : Nat))) := by
  refine PCall.walk (rs := [.tmp 4]) [0, 1, 4, 8] [] mixed (noΓ_ok) (noΔ_ok) call101 Tryz.func101 rfl Tryz.ntmps101 rfl (by kernel_rfl) (by simp) (by simp [pure_bool, pure_int, pure_str, pure_fs, pure_fp, pure_fn, pure_agg, pure_tup, pure_nilS, pure_nilP, pure_natsP, pure_intsP, pure_strsP, pure_list, pure_cntsP]) ?_
  simp only [go_sem]
  refine AXc.introP (fun h => ?_) (fun h => ?_)
  · have hx : nthV (nats .i64 (l.drop i)) 0 = .int .i64 (l.getD i 0 : Nat) := by
      rw [nthV_nats _ _ _ (by simp; omega)]; simp
    simp (disch := (first | assumption | omega | (simp only [push_cast] <;> omega))) only [go_sem, hx]
    (repeat refine And.intro (by first | omega | exact ⟨by omega, by omega⟩ | kernel_rfl | rfl | assumption | (intro h; exact ⟨h, by omega, by omega⟩) | (intro h; exact ⟨h, by omega⟩)) ?_)
    omega
  · have e : l.getD i 0 = 0 := getD_ge _ _ _ (by omega)
    simp (disch := (first | assumption | omega | (simp only [push_cast] <;> omega))) only [go_sem, e]
noncomputable def cRAt : List V → Option PR := conOf (fun p : List Nat × Nat => [.fs (nats .i64 p.1) p.1.length, .int .i64 p.2]) (fun _ => True) fun p => .ret (.int .i64 (p.1.getD p.2 0 : Nat))
theorem cRAt_eq (l : List Nat) (n : Nat) (hn : n = l.length) (i : Nat) : cRAt [.fs (nats .i64 l) n, .int .i64 i] = some (.ret (.int .i64 (l.getD i 0 : Nat))) := by
  subst hn; exact conOf_eq (pat := fun p : List Nat × Nat => [V.fs (nats .i64 p.1) p.1.length, .int .i64 p.2]) (fun x y h => by simp at h; exact Prod.ext (nats_inj h.1.1) (by omega)) (l, i) trivial
theorem cRAt_ok : ∀ args r, cRAt args = some r → PCall Tryz.prog 101 args r := conOf_ok fun p _ => rat_ok p.1 p.2
attribute [go_sem] cRAt_eq
theorem rlimited_ok (n : Nat) : PCall Tryz.prog 102 [.str (dec n)] (.ret (limV n)) := by
  refine PCall.walk (rs := [.tmp 2, .tmp 3]) [0, 2, 3, 6] [] mixed (noΓ_ok) (noΔ_ok) call102 Tryz.func102 rfl Tryz.ntmps102 rfl (by kernel_rfl) (by simp) (by simp [pure_bool, pure_int, pure_str, pure_fs, pure_fp, pure_fn, pure_agg, pure_tup, pure_nilS, pure_nilP, pure_natsP, pure_intsP, pure_strsP, pure_list, pure_cntsP]) ?_
  simp (disch := (first | assumption | omega | (simp only [push_cast] <;> omega))) only [go_sem]
  refine AXc.introP (fun h1 => ?_) (fun h1 => ?_)
  · have : 1000 < (dec n).length := by omega
    simp only [go_sem, limV, this]
  · have : ¬ 1000 < (dec n).length := by omega
    simp only [go_sem, limV, this]
theorem dec_inj {m n : Nat} (h : dec m = dec n) : m = n := by rw [← valD_dec m, h, valD_dec]
noncomputable def cRLimited : List V → Option PR := conOf (fun n : Nat => [.str (dec n)]) (fun _ => True) fun n => .ret (limV n)
theorem cRLimited_eq (n : Nat) : cRLimited [.str (dec n)] = some (.ret (limV n)) := conOf_eq (pat := fun n : Nat => [V.str (dec n)]) (fun x y h => by simp at h; exact dec_inj h) n trivial
theorem cRLimited_ok : ∀ args r, cRLimited args = some r → PCall Tryz.prog 102 args r := conOf_ok fun n _ => rlimited_ok n
attribute [go_sem] cRLimited_eq
set_option maxHeartbeats 4000000 in
theorem rcompare_ok (a b : List UInt8) (ha : dec (valD a) = a) (hb : dec (valD b) = b) (hl : a.length ≤ 1000000) : PCall Tryz.prog 104 [.str a, .str b] (.ret (.int .i64 (cmpI (valD a) (valD b)))) := by
  refine PCall.walk (rs := [.tmp 4]) [0, 1, 4, 5, 10, 15, 19, 28, 35] [] mixed (noΓ_ok) (noΔ_ok) call104 Tryz.func104 rfl Tryz.ntmps104 rfl (by kernel_rfl) (by simp) (by simp [pure_bool, pure_int, pure_str, pure_fs, pure_fp, pure_fn, pure_agg, pure_tup, pure_nilS, pure_nilP, pure_natsP, pure_intsP, pure_strsP, pure_list, pure_cntsP]) ?_
  have da : a.all isDig = true := by rw [← ha]; exact dec_dig _
  have db : b.all isDig = true := by rw [← hb]; exact dec_dig _
  simp only [go_sem]
  refine AXc.introN (fun h => ?_) (fun h => ?_)
  · simp only [go_sem]
    refine AXc.introP (fun h1 => ?_) (fun h1 => ?_)
    · have : valD a < valD b := dec_shorter (by rw [ha, hb]; omega)
      simp only [go_sem]
      simp [cmpI, this]
    · have : valD b < valD a := dec_shorter (by rw [ha, hb]; omega)
      have : ¬ valD a < valD b := by omega
      simp only [go_sem]
      simp [cmpI, *]
  have hle : a.length = b.length := by omega
  simp only [go_sem]
  refine AXs.loop mixed (noΓ_ok) (noΔ_ok) (fun i : Nat => [(0, .str a), (1, .str b), (5, .int .i64 i)]) (fun _ => ⟨[], 0⟩) (fun i => i ≤ a.length ∧ a.take i = b.take i) (fun i => a.length - i) 0 (by kernel_rfl) (by simp) (Sub.of0 [] rfl rfl ?_ ?_) ?_
  · simp only [go_sem]
  · simp only [go_sem]
  rintro i ⟨h1, h2⟩
  simp only [go_sem]
  refine AXc.introP (fun h3 => ?_) (fun h3 => ?_)
  · simp (disch := (first | assumption | omega | (simp only [push_cast] <;> omega))) only [go_sem]
    (repeat refine And.intro (by first | omega | exact ⟨by omega, by omega⟩ | kernel_rfl | rfl | assumption | (intro h; exact ⟨h, by omega, by omega⟩) | (intro h; exact ⟨h, by omega⟩)) ?_)
    refine AXc.introN (fun h4 => ?_) (fun h4 => ?_)
    · simp (disch := (first | assumption | omega | (simp only [push_cast] <;> omega))) only [go_sem]
      (repeat refine And.intro (by first | omega | exact ⟨by omega, by omega⟩ | kernel_rfl | rfl | assumption | (intro h; exact ⟨h, by omega, by omega⟩) | (intro h; exact ⟨h, by omega⟩)) ?_)
      refine AXc.introP (fun h5 => ?_) (fun h5 => ?_)
      · have : valD a < valD b := valD_first da db hle (by omega) h2 (UInt8.lt_iff_toNat_lt.2 (by omega))
        simp only [go_sem]
        simp [cmpI, this]
      · have : valD b < valD a := valD_first db da hle.symm (by omega) h2.symm (UInt8.lt_iff_toNat_lt.2 (by omega))
        have : ¬ valD a < valD b := by omega
        simp only [go_sem]
        simp [cmpI, *]
    · simp (disch := (first | assumption | omega | (simp only [push_cast] <;> omega))) only [go_sem]
      refine loopK_norm (i + 1) ⟨by omega, ?_⟩ (by omega) (Sub.of0 [] rfl rfl ?_ ?_)
      · have : a.getD i 0 = b.getD i 0 := UInt8.toNat_inj.1 (by omega)
        have e : a[i]? = b[i]? := by
          rw [List.getD_eq_getElem?_getD, List.getD_eq_getElem?_getD] at this
          rw [List.getElem?_eq_getElem (by omega), List.getElem?_eq_getElem (by omega)] at this ⊢
          exact congrArg some this
        rw [List.take_add_one, List.take_add_one, h2, e]
      · simp only [go_sem]
        simp
      · simp only [go_sem]
  · simp only [go_sem]
    refine AXa.go mixed (noΓ_ok) (noΔ_ok) (by kernel_rfl) ?_
    simp only [go_sem]
    have : a = b := by
      rw [← List.take_of_length_le (l := a) (i := i) (by omega), h2, List.take_of_length_le (by omega)]
    subst this
    simp [cmpI]
noncomputable def cRCompare : List V → Option PR := conOf (fun p : List UInt8 × List UInt8 => [.str p.1, .str p.2]) (fun p => dec (valD p.1) = p.1 ∧ dec (valD p.2) = p.2 ∧ p.1.length ≤ 1000000) fun p => .ret (.int .i64 (cmpI (valD p.1) (valD p.2)))
theorem cRCompare_eq (a b : List UInt8) (ha : dec (valD a) = a) (hb : dec (valD b) = b) (hl : a.length ≤ 1000000) : cRCompare [.str a, .str b] = some (.ret (.int .i64 (cmpI (valD a) (valD b)))) := conOf_eq (pat := fun p : List UInt8 × List UInt8 => [.str p.1, .str p.2]) (fun x y h => by simp at h; exact Prod.ext h.1 h.2) (a, b) ⟨ha, hb, hl⟩
theorem cRCompare_ok : ∀ args r, cRCompare args = some r → PCall Tryz.prog 104 args r := conOf_ok fun p h => rcompare_ok p.1 p.2 h.1 h.2.1 h.2.2
attribute [go_sem] cRCompare_eq
theorem validN_decD {a : List UInt8} (h : validN a = true) : dec (valD a) = a := (validN_iff.1 h).1.1
theorem rCmp_ok (a b : List UInt8) : PCall Tryz.prog 74 [.str a, .str b] (.ret (.int .i64 (cmpV a b))) := by
  refine PCall.walk (rs := [.tmp 4]) [0, 1, 4, 12] [] mixed (extΓ_ok cRValidN_ok (extΓ_ok cRCompare_ok noΓ_ok)) (noΔ_ok) call74 Tryz.func74 rfl Tryz.ntmps74 rfl (by kernel_rfl) (by simp) (by simp [pure_bool, pure_int, pure_str, pure_fs, pure_fp, pure_fn, pure_agg, pure_tup, pure_nilS, pure_nilP, pure_natsP, pure_intsP, pure_strsP, pure_list, pure_cntsP]) ?_
  by_cases ha : validN a = true
  case neg => simp only [go_sem, cmpV, ha]
  by_cases hb : validN b = true
  case neg => simp only [go_sem, cmpV, ha, hb]
  have la := validN_len ha
  have ea := validN_decD ha
  have eb := validN_decD hb
  simp (disch := (first | assumption | omega | (simp only [push_cast] <;> omega))) only [go_sem, cmpV, ha, hb]
end Go.Proofs

/- The reference's natural numbers: less, Sub, Add. -/
namespace Go.Proofs
open Go.Ab Go.Pl
set_option maxHeartbeats 4000000 in
theorem rless_ok (x y : List Nat) (hx : Ten.okL x) (hy : Ten.okL y) (hl : x.length ≤ 100000) (hy' : y.length ≤ 100000) : PCall Tryz.prog 105 [.fs (nats .i64 x) x.length, .fs (nats .i64 y) y.length] (.ret (.fs (nats .i64 (Ten.eachR Ten.minusF x y x.length).1) x.length)) := by
  refine PCall.walk (rs := [.tmp 4]) [0, 1, 4, 5, 6, 7, 8, 12, 25] [] mixed (extΓ_ok cRAt_ok noΓ_ok) (noΔ_ok) call105 Tryz.func105 rfl Tryz.ntmps105 rfl (by kernel_rfl) (by simp) (by simp [pure_bool, pure_int, pure_str, pure_fs, pure_fp, pure_fn, pure_agg, pure_tup, pure_nilS, pure_nilP, pure_natsP, pure_intsP, pure_strsP, pure_list, pure_cntsP]) ?_
  simp only [go_sem]
  refine AXs.loop mixed (extΓ_ok cRAt_ok noΓ_ok) (noΔ_ok) (fun i : Nat => [(0, .fs (nats .i64 x) x.length), (1, .fs (nats .i64 y) y.length), (5, acV (Ten.eachR Ten.minusF x y i).1), (6, .int .i64 (Ten.eachR Ten.minusF x y i).2), (7, .int .i64 i)]) (fun i => ⟨acBs .i64 (Ten.eachR Ten.minusF x y i).1, acN (Ten.eachR Ten.minusF x y i).1⟩) (fun i => i ≤ x.length) (fun i => x.length - i) 0 (by kernel_rfl) (by simp) (Sub.of0 [] rfl rfl ?_ ?_) ?_
  · simp only [go_sem, Ten.eachR, acV]
  · simp only [go_sem, Ten.eachR, acBs]
  intro i h1
  have hc := Ten.minus_carry x y i
  have hlen := Ten.eachR_len Ten.minusF x y i
  simp only [go_sem]
  refine AXc.introP (fun h3 => ?_) (fun h3 => ?_)
  · have h9x : x.getD i 0 ≤ 9 := okL_getD hx i
    have h9y : y.getD i 0 ≤ 9 := okL_getD hy i
    have hs : (Ten.eachR Ten.minusF x y (i + 1)) = ((Ten.eachR Ten.minusF x y i).1 ++ [(lessF (x.getD i 0) (y.getD i 0) (Ten.eachR Ten.minusF x y i).2).1], (lessF (x.getD i 0) (y.getD i 0) (Ten.eachR Ten.minusF x y i).2).2) := by
      rw [lessF_eq (by omega) (by omega) hc]; rfl
    generalize (Ten.eachR Ten.minusF x y i) = wc at hc hlen hs ⊢
    obtain ⟨w, c⟩ := wc
    dsimp only at hc hlen hs ⊢
    obtain ⟨p, hp⟩ : ∃ p, x.getD i 0 = p := ⟨_, rfl⟩
    obtain ⟨q, hq⟩ : ∃ q, y.getD i 0 = q := ⟨_, rfl⟩
    rw [hp] at h9x hs
    rw [hq] at h9y hs
    simp (disch := (first | assumption | omega | (simp only [push_cast] <;> omega))) only [go_sem, hp, hq]
    refine AXc.introP (fun h4 => ?_) (fun h4 => ?_)
    · have e : lessF p q c = (p + 10 - q - c, 1) := if_pos (by omega)
      have e2 : ((p + 10 - q - c : Nat) : Int) = p - q - c + 10 := by omega
      rw [e] at hs
      simp (disch := (first | assumption | omega | (simp only [push_cast] <;> omega))) only [go_sem]
      rcases w with _ | ⟨d, w⟩
      · simp (disch := (first | assumption | omega | (simp only [push_cast] <;> omega))) only [go_sem, acV, acBs, acN]
        (repeat refine And.intro (by first | omega | exact ⟨by omega, by omega⟩ | kernel_rfl | rfl | assumption | (intro h; exact ⟨h, by omega, by omega⟩) | (intro h; exact ⟨h, by omega⟩)) ?_)
        refine loopK_norm (i + 1) (by omega) (by omega) (Sub.of0 [(0, 1)] rfl (by rw [hs]; rfl) ?_ ?_)
        · rw [hs]
          simp only [go_sem, acV, acBs, acN, e2]
          simp
        · rw [hs]
          simp only [go_sem, acV, acBs, acN, e2]
          simp [nats, e2]
      · simp (disch := (first | assumption | omega | (simp only [push_cast] <;> omega))) only [go_sem, acV, acBs, acN]
        have hll : w.length + 1 = i := hlen
        (repeat refine And.intro (by first | omega | exact ⟨by omega, by omega⟩ | kernel_rfl | rfl | assumption | (intro h; exact ⟨h, by omega, by omega⟩) | (intro h; exact ⟨h, by omega⟩)) ?_)
        refine loopK_norm (i + 1) (by omega) (by omega) (Sub.of0 [(0, 2)] rfl (by rw [hs]; rfl) ?_ ?_)
        · rw [hs]
          simp only [go_sem, acV, acBs, acN, e2]
          simp
        · rw [hs]
          simp only [go_sem, acV, acBs, acN, e2]
          simp [nats, e2]
    · have e : lessF p q c = (p - q - c, 0) := if_neg (by omega)
      have e2 : ((p - q - c : Nat) : Int) = p - q - c := by omega
      rw [e] at hs
      rcases w with _ | ⟨d, w⟩
      · simp (disch := (first | assumption | omega | (simp only [push_cast] <;> omega))) only [go_sem, acV, acBs, acN]
        (repeat refine And.intro (by first | omega | exact ⟨by omega, by omega⟩ | kernel_rfl | rfl | assumption | (intro h; exact ⟨h, by omega, by omega⟩) | (intro h; exact ⟨h, by omega⟩)) ?_)
        refine loopK_norm (i + 1) (by omega) (by omega) (Sub.of0 [(0, 1)] rfl (by rw [hs]; rfl) ?_ ?_)
        · rw [hs]
          simp only [go_sem, acV, acBs, acN, e2]
          simp
        · rw [hs]
          simp only [go_sem, acV, acBs, acN, e2]
          simp [nats, e2]
      · simp (disch := (first | assumption | omega | (simp only [push_cast] <;> omega))) only [go_sem, acV, acBs, acN]
        have hll : w.length + 1 = i := hlen
        (repeat refine And.intro (by first | omega | exact ⟨by omega, by omega⟩ | kernel_rfl | rfl | assumption | (intro h; exact ⟨h, by omega, by omega⟩) | (intro h; exact ⟨h, by omega⟩)) ?_)
        refine loopK_norm (i + 1) (by omega) (by omega) (Sub.of0 [(0, 2)] rfl (by rw [hs]; rfl) ?_ ?_)
        · rw [hs]
          simp only [go_sem, acV, acBs, acN, e2]
          simp
        · rw [hs]
          simp only [go_sem, acV, acBs, acN, e2]
          simp [nats, e2]
  · obtain rfl : i = x.length := by omega
    simp only [go_sem]
    generalize (Ten.eachR Ten.minusF x y x.length).1 = w at hlen ⊢
    rw [← hlen]
    rcases w with _ | ⟨d, w⟩
    · simp only [go_sem, acV, acBs, acN]
      refine AXa.go mixed (extΓ_ok cRAt_ok noΓ_ok) (noΔ_ok) (by kernel_rfl) ?_
      simp only [go_sem]
    · simp only [go_sem, acV, acBs, acN]
      refine AXa.go mixed (extΓ_ok cRAt_ok noΓ_ok) (noΔ_ok) (by kernel_rfl) ?_
      simp only [go_sem]
      exact Frz.slp rfl rfl (by simp [len_nats]) (by simp [take_nats]) (pure_nats _ _)
noncomputable def cRLess : List V → Option PR := conOf (fun p : List Nat × List Nat => [.fs (nats .i64 p.1) p.1.length, .fs (nats .i64 p.2) p.2.length]) (fun p => Ten.okL p.1 ∧ Ten.okL p.2 ∧ p.1.length ≤ 100000 ∧ p.2.length ≤ 100000) fun p => .ret (.fs (nats .i64 (Ten.eachR Ten.minusF p.1 p.2 p.1.length).1) p.1.length)
theorem cRLess_eq (x y : List Nat) (m n : Nat) (hm : m = x.length) (hn : n = y.length) (hx : Ten.okL x) (hy : Ten.okL y) (hl : x.length ≤ 100000) (hl' : y.length ≤ 100000) : cRLess [.fs (nats .i64 x) m, .fs (nats .i64 y) n] = some (.ret (.fs (nats .i64 (Ten.eachR Ten.minusF x y m).1) m)) := by
  subst hm hn; exact conOf_eq (pat := fun p : List Nat × List Nat => [V.fs (nats .i64 p.1) p.1.length, .fs (nats .i64 p.2) p.2.length]) (fun x y h => by simp at h; exact Prod.ext (nats_inj h.1.1) (nats_inj h.2.1)) (x, y) ⟨hx, hy, hl, hl'⟩
theorem cRLess_ok : ∀ args r, cRLess args = some r → PCall Tryz.prog 105 args r := conOf_ok fun p h => rless_ok p.1 p.2 h.1 h.2.1 h.2.2.1 h.2.2.2
attribute [go_sem] cRLess_eq
theorem rSub_ok (a b : List UInt8) : PCall Tryz.prog 75 [.str a, .str b] (.ret (subV a b)) := by
  refine PCall.walk (rs := [.tmp 4, .tmp 5]) [0, 1, 4, 5, 13, 17] [] mixed (extΓ_ok cRValidN_ok (extΓ_ok cRCompare_ok (extΓ_ok cRDigits_ok (extΓ_ok cRLess_ok (extΓ_ok cRText_ok noΓ_ok))))) (noΔ_ok) call75 Tryz.func75 rfl Tryz.ntmps75 rfl (by kernel_rfl) (by simp) (by simp [pure_bool, pure_int, pure_str, pure_fs, pure_fp, pure_fn, pure_agg, pure_tup, pure_nilS, pure_nilP, pure_natsP, pure_intsP, pure_strsP, pure_list, pure_cntsP]) ?_
  by_cases ha : validN a = true
  case neg => simp only [go_sem, subV, ha, errV]
  by_cases hb : validN b = true
  case neg => simp only [go_sem, subV, ha, hb, errV]
  have la := validN_len ha
  have lb := validN_len hb
  have ea := validN_decD ha
  have eb := validN_decD hb
  have da := validN_dig ha
  have db := validN_dig hb
  have ka := digD_len a
  have kb := digD_len b
  have oa := digD_ok da
  have ob := digD_ok db
  have va := digD_val a
  have vb := digD_val b
  by_cases h : valD a < valD b
  · have e : cmpI (valD a) (valD b) = -1 := by simp [cmpI, h]
    simp (disch := (first | assumption | omega | (simp only [push_cast] <;> omega))) only [go_sem, subV, ha, hb, h, errV, e]
  · have e : decide (cmpI (valD a) (valD b) < 0) = false := by
      simp only [cmpI]; split
      · omega
      · split <;> rfl
    have hle : Ten.valL (digD b) ≤ Ten.valL (digD a) := by omega
    have hlen : b.length ≤ a.length := Nat.le_of_not_lt fun hlt => h (dec_shorter (by rw [ea, eb]; exact hlt))
    obtain ⟨h1, h2⟩ := less_val oa ob (by omega) hle
    have h3 := Ten.eachR_len Ten.minusF (digD a) (digD b) (digD a).length
    rw [va, vb] at h1
    rw [ka] at h1 h2 h3
    have ka' := ka.symm
    have kb' := kb.symm
    have h3' := h3.symm
    simp (disch := (first | assumption | omega | (simp only [push_cast] <;> omega))) only [go_sem, subV, ha, hb, h, e, h1]
end Go.Proofs

/- The reference's natural numbers: Add. -/
namespace Go.Proofs
open Go.Ab Go.Pl
theorem ten_plus_carry {x y : List Nat} (hx : Ten.okL x) (hy : Ten.okL y) : ∀ i, (Ten.eachR Ten.plusF x y i).2 ≤ 1
  | 0 => by simp [Ten.eachR]
  | i + 1 => by
    have ih := ten_plus_carry hx hy i
    have h1 := okL_getD hx i
    have h2 := okL_getD hy i
    show (_ + _ + _) / 10 ≤ 1
    omega
set_option maxHeartbeats 4000000 in
theorem rAdd_ok (a b : List UInt8) : PCall Tryz.prog 73 [.str a, .str b] (.ret (addV a b)) := by
  refine PCall.walk (rs := [.tmp 4, .tmp 5]) [0, 1, 4, 5, 6, 7, 8, 9, 10, 11, 19, 33] [] mixed (extΓ_ok cRValidN_ok (extΓ_ok cRDigits_ok (extΓ_ok cRAt_ok (extΓ_ok cRText_ok (extΓ_ok cRLimited_ok noΓ_ok))))) (noΔ_ok) call73 Tryz.func73 rfl Tryz.ntmps73 rfl (by kernel_rfl) (by simp) (by simp [pure_bool, pure_int, pure_str, pure_fs, pure_fp, pure_fn, pure_agg, pure_tup, pure_nilS, pure_nilP, pure_natsP, pure_intsP, pure_strsP, pure_list, pure_cntsP]) ?_
  by_cases ha : validN a = true
  case neg => simp only [go_sem, addV, ha, errV]
  by_cases hb : validN b = true
  case neg => simp only [go_sem, addV, ha, hb, errV]
  have la := validN_len ha
  have lb := validN_len hb
  have da := validN_dig ha
  have db := validN_dig hb
  have ka := (digD_len a).symm
  have kb := (digD_len b).symm
  have oa := digD_ok da
  have ob := digD_ok db
  have va := digD_val a
  have vb := digD_val b
  simp (disch := (first | assumption | omega | (simp only [push_cast] <;> omega))) only [go_sem, ha, hb]
  rw [ka, kb]
  have la' : (digD a).length ≤ 1000 := by omega
  have lb' : (digD b).length ≤ 1000 := by omega
  have goalV : addV a b = limV (Ten.valL (digD a) + Ten.valL (digD b)) := by simp only [addV, ha, hb, va, vb, and_self, if_true]
  rw [goalV]
  generalize digD a = x at oa la' ⊢
  generalize digD b = y at ob lb' ⊢
  refine AXs.loop mixed ((extΓ_ok cRValidN_ok (extΓ_ok cRDigits_ok (extΓ_ok cRAt_ok (extΓ_ok cRText_ok (extΓ_ok cRLimited_ok noΓ_ok)))))) (noΔ_ok) (fun i : Nat => [(6, .fs (nats .i64 x) x.length), (7, .fs (nats .i64 y) y.length), (8, acV (Ten.eachR Ten.plusF x y i).1), (9, .int .i64 (Ten.eachR Ten.plusF x y i).2), (10, .int .i64 i)]) (fun i => ⟨acBs .i64 (Ten.eachR Ten.plusF x y i).1, acN (Ten.eachR Ten.plusF x y i).1⟩) (fun i => i ≤ max x.length y.length + 1) (fun i => max x.length y.length + 1 - i) 0 (by kernel_rfl) (by simp) (Sub.of0 [] rfl rfl ?_ ?_) ?_
  · simp only [go_sem, Ten.eachR, acV]
  · simp only [go_sem, Ten.eachR, acBs]
  intro i h1
  have hc := ten_plus_carry oa ob i
  have hlen := Ten.eachR_len Ten.plusF x y i
  obtain ⟨sv, ev, hse⟩ := limV_tup (Ten.valL x + Ten.valL y)
  simp only [go_sem]
  refine AXc.intro (fun h3 => ?_) (fun h3 => ?_)
  · have h3' : i < max x.length y.length + 1 := by
      simp only [Bool.or_eq_true, decide_eq_true_eq] at h3; omega
    have h9x : x.getD i 0 ≤ 9 := okL_getD oa i
    have h9y : y.getD i 0 ≤ 9 := okL_getD ob i
    have hs : (Ten.eachR Ten.plusF x y (i + 1)) = ((Ten.eachR Ten.plusF x y i).1 ++ [(x.getD i 0 + y.getD i 0 + (Ten.eachR Ten.plusF x y i).2) % 10], (x.getD i 0 + y.getD i 0 + (Ten.eachR Ten.plusF x y i).2) / 10) := rfl
    generalize (Ten.eachR Ten.plusF x y i) = wc at hc hlen hs ⊢
    obtain ⟨w, c⟩ := wc
    dsimp only at hc hlen hs ⊢
    obtain ⟨p, hp⟩ : ∃ p, x.getD i 0 = p := ⟨_, rfl⟩
    obtain ⟨q, hq⟩ : ∃ q, y.getD i 0 = q := ⟨_, rfl⟩
    rw [hp] at h9x hs
    rw [hq] at h9y hs
    have e1 : Int.tmod ((p : Int) + q + c) 10 = ((p + q + c) % 10 : Nat) := by
      rw [show (p : Int) + q + c = (p + q + c : Nat) by omega]; rfl
    have e2 : Int.tdiv ((p : Int) + q + c) 10 = ((p + q + c) / 10 : Nat) := by
      rw [show (p : Int) + q + c = (p + q + c : Nat) by omega]; rfl
    rcases w with _ | ⟨d, w⟩
    · simp (disch := (first | assumption | omega | (simp only [push_cast] <;> omega))) only [go_sem, acV, acBs, acN, hp, hq, e1, e2]
      (repeat refine And.intro (by first | omega | exact ⟨by omega, by omega⟩ | kernel_rfl | rfl | assumption | (intro h; exact ⟨h, by omega, by omega⟩) | (intro h; exact ⟨h, by omega⟩)) ?_)
      refine loopK_norm (i + 1) (by omega) (by omega) (Sub.of0 [(0, 1)] rfl (by rw [hs]; rfl) ?_ ?_)
      · rw [hs]
        simp only [go_sem, acV, acBs, acN]
        simp
      · rw [hs]
        simp only [go_sem, acV, acBs, acN]
        simp [nats]
    · simp (disch := (first | assumption | omega | (simp only [push_cast] <;> omega))) only [go_sem, acV, acBs, acN, hp, hq, e1, e2]
      have hll : w.length + 1 = i := hlen
      (repeat refine And.intro (by first | omega | exact ⟨by omega, by omega⟩ | kernel_rfl | rfl | assumption | (intro h; exact ⟨h, by omega, by omega⟩) | (intro h; exact ⟨h, by omega⟩)) ?_)
      refine loopK_norm (i + 1) (by omega) (by omega) (Sub.of0 [(0, 2)] rfl (by rw [hs]; rfl) ?_ ?_)
      · rw [hs]
        simp only [go_sem, acV, acBs, acN]
        simp
      · rw [hs]
        simp only [go_sem, acV, acBs, acN]
        simp [nats]
  · have h3' : i = max x.length y.length + 1 := by
      simp only [Bool.or_eq_false_iff, decide_eq_false_iff_not] at h3; omega
    obtain ⟨h4, h5⟩ := add_val (n := i) oa ob (by omega) (by omega)
    generalize (Ten.eachR Ten.plusF x y i) = wc at hc hlen h4 h5 ⊢
    obtain ⟨w, c⟩ := wc
    dsimp only at hc hlen h4 h5 ⊢
    rcases w with _ | ⟨d, w⟩
    · simp at hlen; omega
    simp only [go_sem, acV, acBs, acN]
    refine AXa.go mixed (extΓ_ok cRValidN_ok (extΓ_ok cRDigits_ok (extΓ_ok cRAt_ok (extΓ_ok cRText_ok (extΓ_ok cRLimited_ok noΓ_ok))))) (noΔ_ok) (by kernel_rfl) ?_
    have ht : (d :: w).take (w.length + 1) = d :: w := List.take_of_length_le (Nat.le_refl _)
    have h6 : (d :: w).length ≤ 1000000 := by omega
    have h7 : cRText [.fs (nats .i64 (d :: w)) (w.length + 1)] = some (.ret (.str (dec (Ten.valL x + Ten.valL y)))) := by rw [← h4]; exact cRText_eq _ _ rfl h6 h5
    simp (disch := (first | assumption | omega | (simp only [push_cast] <;> omega))) only [go_sem, ht, h7, hse]
end Go.Proofs

/- The reference's natural numbers: Mul. -/
namespace Go.Proofs
open Go.Ab Go.Pl
set_option maxHeartbeats 4000000 in
theorem rMul_ok (a b : List UInt8) : PCall Tryz.prog 76 [.str a, .str b] (.ret (mulV a b)) := by
  have hΓ := extΓ_ok cRValidN_ok (extΓ_ok cRDigits_ok (extΓ_ok cRAt_ok (extΓ_ok cRText_ok (extΓ_ok cRLimited_ok noΓ_ok))))
  refine PCall.walk (rs := [.tmp 4, .tmp 5]) [0, 1, 4, 5, 6, 7, 8, 9, 10, 11, 12, 20, 35, 41] [] mixed (hΓ) (noΔ_ok) call76 Tryz.func76 rfl Tryz.ntmps76 rfl (by kernel_rfl) (by simp) (by simp [pure_bool, pure_int, pure_str, pure_fs, pure_fp, pure_fn, pure_agg, pure_tup, pure_nilS, pure_nilP, pure_natsP, pure_intsP, pure_strsP, pure_list, pure_cntsP]) ?_
  by_cases ha : validN a = true
  case neg => simp only [go_sem, mulV, ha, errV]
  by_cases hb : validN b = true
  case neg => simp only [go_sem, mulV, ha, hb, errV]
  have la := validN_len ha
  have lb := validN_len hb
  have da := validN_dig ha
  have db := validN_dig hb
  have ka := (digD_len a).symm
  have kb := (digD_len b).symm
  have ox := digD_ok da
  have oy := digD_ok db
  have va := digD_val a
  have vb := digD_val b
  have goalV : mulV a b = limV (Ten.valL (digD a) * Ten.valL (digD b)) := by simp only [mulV, ha, hb, va, vb, and_self, if_true]
  rw [goalV]
  have hc1 : cRDigits [.str a] = some (.ret (.fs (nats .i64 (digD a)) (digD a).length)) := by rw [← ka]; exact cRDigits_eq a da (by omega)
  have hc2 : cRDigits [.str b] = some (.ret (.fs (nats .i64 (digD b)) (digD b).length)) := by rw [← kb]; exact cRDigits_eq b db (by omega)
  have la' : (digD a).length ≤ 1000 := by omega
  have lb' : (digD b).length ≤ 1000 := by omega
  simp (disch := (first | assumption | omega | (simp only [push_cast] <;> omega))) only [go_sem, ha, hb, hc1, hc2]
  clear goalV va vb hc1 hc2 ka kb
  generalize digD a = x at *
  generalize digD b = y at *
  obtain ⟨s, e, hse⟩ := limV_tup (Ten.valL x * Ten.valL y)
  simp (disch := (first | assumption | omega | (simp only [push_cast] <;> omega))) only [go_sem, toNat_a3, ints_rep]
  refine ⟨by omega, ?_⟩
  refine AXs.loop mixed (hΓ) (noΔ_ok) (fun (p : Nat × List Nat) => [(6, .fs (nats .i64 x) x.length), (7, .fs (nats .i64 y) y.length), (8, .sl 0 0 (x.length + y.length + 1) 1 (some (x.length + y.length + 1))), (9, .int .i64 p.1)]) (fun p => ⟨[(0, .cells (nats .i64 p.2))], 1⟩)
    (fun p => p.1 ≤ x.length ∧ Ten.mulOut x y p.1 p.2) (fun p => x.length - p.1) (0, List.replicate (x.length + y.length + 1) 0) (by kernel_rfl) ⟨Nat.zero_le _, Ten.mul_start x y⟩ (Sub.of0 [] rfl rfl ?_ ?_) ?_
  · simp only [go_sem]
  · simp only [go_sem]
  rintro ⟨i, l0⟩ ⟨hi, ho⟩
  dsimp only at hi ho ⊢
  simp (disch := (first | assumption | omega | (simp only [push_cast] <;> omega))) only [go_sem]
  refine AXc.introP (fun h1 => ?_) (fun h1 => ?_)
  · have hix : i < x.length := by omega
    simp (disch := (first | assumption | omega | (simp only [push_cast] <;> omega))) only [go_sem]
    refine AXs.loop mixed (hΓ) (noΔ_ok) (fun (p : Nat × List Nat × Nat) => [(6, .fs (nats .i64 x) x.length), (7, .fs (nats .i64 y) y.length), (8, .sl 0 0 (x.length + y.length + 1) 1 (some (x.length + y.length + 1))), (9, .int .i64 i), (10, .int .i64 p.2.2), (11, .int .i64 p.1)]) (fun p => ⟨[(0, .cells (nats .i64 p.2.1))], 1⟩)
      (fun p => p.1 ≤ y.length + 1 ∧ Ten.mulInv x y i (Ten.valL l0) p.1 p.2.1 p.2.2) (fun p => y.length + 1 - p.1) (0, l0, 0) (by kernel_rfl) ⟨Nat.zero_le _, Ten.mul_row ho⟩ (Sub.of0 [] rfl rfl ?_ ?_) ?_
    · simp only [go_sem]
    · simp only [go_sem]
    rintro ⟨k, l, c⟩ ⟨hk, hv⟩
    dsimp only at hk hv ⊢
    have hl := hv.1
    have hkl := hv.2.1
    have hcl := hv.2.2.1
    simp (disch := (first | assumption | omega | (simp only [push_cast] <;> omega))) only [go_sem]
    refine AXc.introP (fun h2 => ?_) (fun h2 => ?_)
    · have hky : k ≤ y.length := by omega
      have hst := Ten.mul_step ox oy hix hky hv
      have hpl := Ten.mulP_lt (i := i) (k := k) ox oy hkl hcl
      have hgl := okL_getD hkl (i + k)
      have hm : (x.getD i 0 : Int) * (y.getD k 0 : Int) = ((x.getD i 0 * y.getD k 0 : Nat) : Int) := by simp
      have hp1 : Ten.mulP x y i k l c = l.getD (i + k) 0 + c + x.getD i 0 * y.getD k 0 := rfl
      generalize x.getD i 0 * y.getD k 0 = q at *
      have e1 : Int.tmod ((l.getD (i + k) 0 : Nat) + (q : Int) + c) 10 = (Ten.mulP x y i k l c % 10 : Nat) := by
        rw [hp1, show ((l.getD (i + k) 0 : Nat) : Int) + (q : Int) + c = (l.getD (i + k) 0 + c + q : Nat) by omega]; rfl
      have e2 : Int.tdiv ((l.getD (i + k) 0 : Nat) + (q : Int) + c) 10 = (Ten.mulP x y i k l c / 10 : Nat) := by
        rw [hp1, show ((l.getD (i + k) 0 : Nat) : Int) + (q : Int) + c = (l.getD (i + k) 0 + c + q : Nat) by omega]; rfl
      simp (disch := (first | assumption | omega | (simp only [push_cast] <;> omega))) only [go_sem, hm]
      refine ⟨⟨by omega, by omega⟩, by omega, ⟨by omega, by omega⟩, by omega, AXk.intro (by kernel_rfl) ?_⟩
      simp (disch := (first | assumption | omega | (simp only [push_cast] <;> omega))) only [go_sem, e1, e2]
      (repeat refine And.intro (by first | omega | exact ⟨by omega, by omega⟩ | kernel_rfl | rfl | assumption | (intro h; exact ⟨h, by omega, by omega⟩) | (intro h; exact ⟨h, by omega⟩)) ?_)
      refine loopK_norm (k + 1, l.set (i + k) (Ten.mulP x y i k l c % 10), Ten.mulP x y i k l c / 10) ⟨by omega, hst⟩ (by dsimp only; omega) (Sub.of0 [] rfl rfl ?_ ?_)
      · simp only [go_sem]
        simp
      · simp only [go_sem]
    · have hke : k = y.length + 1 := by omega
      subst hke
      have hen := Ten.mul_end ho hv
      simp (disch := (first | assumption | omega | (simp only [push_cast] <;> omega))) only [go_sem]
      refine AXa.go mixed (hΓ) (noΔ_ok) (by kernel_rfl) ?_
      simp (disch := (first | assumption | omega | (simp only [push_cast] <;> omega))) only [go_sem]
      refine loopK_norm (i + 1, l) ⟨by omega, hen⟩ (by dsimp only; omega) (Sub.of0 [] rfl rfl ?_ ?_)
      · simp only [go_sem]
        simp
      · simp only [go_sem]
  · have hie : i = x.length := by omega
    subst hie
    have hll := ho.1
    have hmv : Ten.valL l0 = Ten.valL x * Ten.valL y := by rw [ho.2.2.1, List.take_length]
    have h7 : cRText [.fs (nats .i64 l0) (x.length + y.length + 1)] = some (.ret (.str (dec (Ten.valL x * Ten.valL y)))) := by
      rw [← hmv]; exact cRText_eq _ _ hll.symm (by omega) ho.2.1
    have ht : l0.take (x.length + y.length + 1) = l0 := List.take_of_length_le (by omega)
    simp only [go_sem]
    refine AXa.go mixed (hΓ) (noΔ_ok) (by kernel_rfl) ?_
    have hle : x.length + y.length + 1 ≤ l0.length := by omega
    simp (disch := (first | assumption | omega | (simp only [push_cast] <;> omega))) only [go_sem, h7, ht, hse, hle]
end Go.Proofs
