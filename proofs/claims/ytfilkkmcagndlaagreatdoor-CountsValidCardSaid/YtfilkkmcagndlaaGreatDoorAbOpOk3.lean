/- The operations' soundness, third part: strings and slices cut, converted, made. -/
import Derived.Test.YtfilkkmcagndlaaGreatDoorAbOpOk2
set_option linter.unusedSimpArgs false
set_option linter.unusedVariables false
set_option linter.all false
namespace Go.Ab
def ORel (g : G) : Option V → Option Value → Prop
  | none, none => True
  | some v, some c => VRel g v c
  | _, _ => False
def Bnd (oc : Option Value) (d n : Int) : Prop := (oc = none ∧ n = d) ∨ ∃ k, oc = some (.int k n)
theorem Bnd.of {g : G} {o : Option V} {oc : Option Value} {d n : Int} (h : ORel g o oc) (e : bnd o d = some n) : Bnd oc d n := by
  cases o with
  | none =>
    cases oc with
    | none => simp [bnd] at e; exact .inl ⟨rfl, e.symm⟩
    | some c => exact h.elim
  | some v =>
    cases oc with
    | none => exact h.elim
    | some c =>
      cases v <;> simp [bnd] at e
      subst e
      exact .inr ⟨_, by rw [VRel.inv_int h]⟩
section
variable {P : Program} {g : G} {base : Nat} {H : Hp} {D : Nat → Prop} {w : World}
theorem run_sliceBound {k : IntKind} {n : Int} {y : Nat} {code : BoundsCode} (h0 : 0 ≤ n) (h1 : n ≤ y) : (Instr.sliceBound (.int k n) y code).run P w = .ok n.toNat w := by
  simp [Instr.sliceBound, asIntOf, h0, h1]
theorem run_sliceBounds {isS : Bool} {len cap : Nat} {lc hc : Option Value} {l h : Int} (el : Bnd lc 0 l) (eh : Bnd hc len h)
    (h0 : 0 ≤ l) (h1 : l ≤ h) (h2 : h ≤ cap) : (Instr.sliceBounds isS len cap lc hc none).run P w = .ok (l.toNat, h.toNat, cap) w := by
  unfold Instr.sliceBounds
  have e0 : ∀ code, (Instr.sliceBound (.int .i64 0) h.toNat code).run P w = .ok 0 w := fun code => run_sliceBound (by omega) (by omega)
  rcases eh with ⟨rfl, rfl⟩ | ⟨k, rfl⟩ <;> rcases el with ⟨rfl, rfl⟩ | ⟨k', rfl⟩
  · simp only [Sem.run_bind, Sem.run_pure, Result.andThen_ok]; rfl
  · have e1 : ∀ code, (Instr.sliceBound (.int k' l) len code).run P w = .ok l.toNat w := fun code => run_sliceBound h0 h1
    simp only [Sem.run_bind, Sem.run_pure, Result.andThen_ok, e1]; rfl
  · have e2 : ∀ code, (Instr.sliceBound (.int k h) cap code).run P w = .ok h.toNat w := fun code => run_sliceBound (by omega) h2
    simp only [Sem.run_bind, Sem.run_pure, Result.andThen_ok, e2]; rfl
  · have e2 : ∀ code, (Instr.sliceBound (.int k h) cap code).run P w = .ok h.toNat w := fun code => run_sliceBound (by omega) h2
    have e1 : ∀ code, (Instr.sliceBound (.int k' l) h.toNat code).run P w = .ok l.toNat w := fun code => run_sliceBound h0 (by omega)
    simp only [Sem.run_bind, Sem.run_pure, Result.andThen_ok, e1, e2]
theorem run_sliceBounds3 {len cap : Nat} {lc : Option Value} {k k' : IntKind} {l h m : Int} (el : Bnd lc 0 l)
    (h0 : 0 ≤ l) (h1 : l ≤ h) (h2 : h ≤ m) (h3 : m ≤ cap) : (Instr.sliceBounds true len cap lc (some (.int k h)) (some (.int k' m))).run P w = .ok (l.toNat, h.toNat, m.toNat) w := by
  unfold Instr.sliceBounds
  have e1 : ∀ code, (Instr.sliceBound (.int k' m) cap code).run P w = .ok m.toNat w := fun code => run_sliceBound (by omega) h3
  have e2 : ∀ code, (Instr.sliceBound (.int k h) m.toNat code).run P w = .ok h.toNat w := fun code => run_sliceBound (by omega) (by omega)
  rcases el with ⟨rfl, rfl⟩ | ⟨k2, rfl⟩
  · simp only [Sem.run_bind, Sem.run_pure, Result.andThen_ok, e1, e2]; rfl
  · have e3 : ∀ code, (Instr.sliceBound (.int k2 l) h.toNat code).run P w = .ok l.toNat w := fun code => run_sliceBound h0 (by omega)
    simp only [Sem.run_bind, Sem.run_pure, Result.andThen_ok, e1, e2, e3]
theorem sliceAt_slice {t : TypeId} {d : TypeDesc} {xc : Value} {lc hc mc : Option Value} (hu : P.underlying t = some d) (hne : ∀ n e, d ≠ .array n e) :
    (Instr.sliceAt t xc lc hc mc).run P w = (Instr.slice t xc lc hc mc).run P w := by
  simp only [Instr.sliceAt, Sem.run_bind, run_underlying hu, Result.andThen_ok]
theorem run_slice_str {t : TypeId} {s : ByteArray} {lc hc : Option Value} {l h : Int} (hu : P.underlying t = some .string) (el : Bnd lc 0 l) (eh : Bnd hc s.size h)
    (h0 : 0 ≤ l) (h1 : l ≤ h) (h2 : h ≤ s.size) : (Instr.sliceAt t (.string s) lc hc none).run P w = .ok (.string (s.extract l.toNat h.toNat)) w := by
  rw [sliceAt_slice hu (by simp)]
  simp only [Instr.slice, Sem.run_bind, run_underlying hu, Result.andThen_ok, Option.isSome_none, Bool.false_eq_true, if_false, Sem.run_pure, run_sliceBounds el eh h0 h1 h2]
theorem run_slice_sl {t e : TypeId} {sz : Nat} {a : Option Addr} {len cap : Nat} {lc hc : Option Value} {l h : Int} (hu : P.underlying t = some (.slice e)) (hn : sizeT P e = some sz)
    (el : Bnd lc 0 l) (eh : Bnd hc len h) (h0 : 0 ≤ l) (h1 : l ≤ h) (h2 : h ≤ cap) :
    (Instr.sliceAt t (.slice a len cap) lc hc none).run P w = .ok (.slice (if cap = l.toNat then a else a.map (·.add (l.toNat * sz))) (h.toNat - l.toNat) (cap - l.toNat)) w := by
  rw [sliceAt_slice hu (by simp)]
  simp only [Instr.slice, Sem.run_bind, run_underlying hu, Result.andThen_ok, Sem.run_pure, run_sliceBounds el eh h0 h1 h2, run_sizeT hn]
theorem run_slice_sl3 {t e : TypeId} {sz : Nat} {a : Option Addr} {len cap : Nat} {lc : Option Value} {k k' : IntKind} {l h m : Int} (hu : P.underlying t = some (.slice e)) (hn : sizeT P e = some sz)
    (el : Bnd lc 0 l) (h0 : 0 ≤ l) (h1 : l ≤ h) (h2 : h ≤ m) (h3 : m ≤ cap) :
    (Instr.sliceAt t (.slice a len cap) lc (some (.int k h)) (some (.int k' m))).run P w = .ok (.slice (if m.toNat = l.toNat then a else a.map (·.add (l.toNat * sz))) (h.toNat - l.toNat) (m.toNat - l.toNat)) w := by
  rw [sliceAt_slice hu (by simp)]
  simp only [Instr.slice, Sem.run_bind, run_underlying hu, Result.andThen_ok, Sem.run_pure, run_sliceBounds3 el h0 h1 h2 h3, run_sizeT hn]
theorem run_slice_arr {t e : TypeId} {n sz : Nat} {a : Addr} {lc hc : Option Value} {l h : Int} (hu : P.underlying t = some (.array n e)) (hn : sizeT P e = some sz)
    (el : Bnd lc 0 l) (eh : Bnd hc n h) (h0 : 0 ≤ l) (h1 : l ≤ h) (h2 : h ≤ n) :
    (Instr.sliceAt t (.pointer (some a)) lc hc none).run P w = .ok (.slice (some (if n = l.toNat then a else a.add (l.toNat * sz))) (h.toNat - l.toNat) (n - l.toNat)) w := by
  simp only [Instr.sliceAt, Sem.run_bind, run_underlying hu, Result.andThen_ok, Instr.sureAddr, Sem.run_pure, run_sliceBounds el eh h0 h1 h2, run_sizeT hn]
theorem extract_list (s : ByteArray) (l h : Nat) : (s.extract l h).data.toList = (s.data.toList.take h).drop l := by
  rw [ByteArray.data_extract, Array.toList_extract]
  rw [List.extract_eq_take_drop, List.drop_take]
theorem aSlice_ok (hI : Inv g base H D w) {t : TypeId} {x : V} {lo hi mx : Option V} {xc : Value} {lc hc mc : Option Value} (hx : VRel g x xc)
    (hl : ORel g lo lc) (hh : ORel g hi hc) (hm : ORel g mx mc)
    (hp : (aSlice P t x lo hi mx H).pre) (hD : ∀ b ∈ (aSlice P t x lo hi mx H).R, D b) : Snd P g base H D w (aSlice P t x lo hi mx H) (Instr.sliceAt t xc lc hc mc) := by
  unfold aSlice at *
  split at hp
  · rename_i s hu
    obtain rfl : mc = none := by cases mc; rfl; exact hm.elim
    obtain ⟨sb, rfl, rfl⟩ := hx.inv_str
    split at hp
    · rename_i l h el eh
      obtain ⟨h0, h1, h2⟩ := hp
      have hsz := size_data sb
      refine Snd.val hI _ (run_slice_str hu (Bnd.of hl el) (by rw [hsz]; exact Bnd.of hh eh) h0 h1 (by omega)) (.str ?_)
      exact extract_list _ _ _
    · exact hp.elim
  · rename_i e hu
    obtain rfl : mc = none := by cases mc; rfl; exact hm.elim
    cases hx
    split at hp
    · rename_i sz l h hn el eh
      obtain ⟨rfl, rfl⟩ := hp
      exact Snd.val hI _ (run_slice_sl hu hn (Bnd.of hl el) (Bnd.of hh eh) (by omega) (by omega) (by omega)) .nilS
    · exact hp.elim
  · rename_i e cs len hu
    obtain rfl : mc = none := by cases mc; rfl; exact hm.elim
    obtain ⟨a, cap, rfl, hlc, hcase⟩ := hx.inv_fs
    split at hp
    · rename_i sz l h hn el eh
      obtain ⟨h0, h1, h2, h3⟩ := hp
      refine Snd.val hI _ (run_slice_sl hu hn (Bnd.of hl el) (Bnd.of hh eh) h0 h1 (by omega)) ?_
      rcases hcase with ⟨rfl, rfl, ha⟩ | ⟨c, o, arr, rfl, hphi, hpw⟩
      · obtain rfl : h = 0 := by omega
        obtain rfl : l = 0 := by omega
        simp only [Int.toNat_zero, Nat.zero_mul, List.take_nil, List.drop_nil, Nat.sub_self, Nat.sub_zero]
        split
        · exact .fs0 ha
        · exact .fs0 (by cases a <;> simp_all)
      · split
        · rename_i hc
          have e1 : h.toNat = l.toNat := by omega
          rw [e1, Nat.sub_self, hc, Nat.sub_self]
          have : (cs.take (l.toNat * sz)).drop (l.toNat * sz) = [] := by
            apply List.drop_eq_nil_of_le
            rw [List.length_take]; omega
          rw [this]
          exact .fs0 (by simp)
        · rw [Option.map_some, add_none]
          refine VRel.mk_fs hphi (by omega) (((hpw.take (h.toNat * sz)).drop (l.toNat * sz)).congr fun i _ => ?_)
          show _ = arr[o + (l.toNat * sz + i)]?
          rw [← Nat.add_assoc]
    · exact hp.elim
  · rename_i e b off len sz' kc hu
    obtain rfl : mc = none := by cases mc; rfl; exact hm.elim
    obtain ⟨T, o, cap, hmu, hlc, ho, hk, rfl⟩ := hx.inv_sl
    split at hp
    · rename_i sz l h hn el eh
      obtain ⟨rfl, h0, h1, h2⟩ := hp
      have hcap : h ≤ cap := by
        cases kc with
        | none => simp only [Option.getD_none] at h2; omega
        | some k => have := hk k rfl; simp only [Option.getD_some] at h2; omega
      refine Snd.val hI _ (run_slice_sl hu hn (Bnd.of hl el) (Bnd.of hh eh) h0 h1 hcap) ?_
      have key : ∀ o', (cap - l.toNat ≠ 0 → o' = o + l.toNat * sz') →
          VRel g (.sl b (off + l.toNat * sz') (h.toNat - l.toNat) sz' (kc.map (· - l.toNat))) (.slice (some ⟨T.c, o', none⟩) (h.toNat - l.toNat) (cap - l.toNat)) := by
        intro o' ho'
        refine .sl hmu (by omega) (fun hne => ?_) (fun k e => ?_)
        · obtain ⟨e1, e2⟩ := ho (by omega)
          rw [ho' hne, e1]
          refine ⟨by omega, ?_⟩
          rw [e1] at e2
          have : l.toNat * sz' + (cap - l.toNat) * sz' = cap * sz' := by rw [← Nat.add_mul]; congr 1; omega
          omega
        · cases kc with
          | none => cases e
          | some k' => simp only [Option.map_some, Option.some.injEq] at e; rw [← e, hk k' rfl]
      split
      · exact key o fun hne => by omega
      · rw [Option.map_some, add_none]; exact key _ fun _ => rfl
    · exact hp.elim
  · rename_i e b off len sz' kc m hu
    obtain ⟨T, o, cap, hmu, hlc, ho, hk, rfl⟩ := hx.inv_sl
    cases mc with
    | none => exact hm.elim
    | some mv =>
      split at hp
      · rename_i sz l h m' hiv hn el em eh
        obtain ⟨rfl, h0, h1, h2, h3⟩ := hp
        have hcap : m' ≤ cap := by
          cases kc with
          | none => simp only [Option.getD_none] at h3; omega
          | some k => have := hk k rfl; simp only [Option.getD_some] at h3; omega
        cases hc with
        | none => exact hh.elim
        | some hv =>
          rcases Bnd.of (o := some m) (oc := some mv) hm em with ⟨e1, _⟩ | ⟨k1, e1⟩
          · cases e1
          cases e1
          rcases Bnd.of hh eh with ⟨e2, _⟩ | ⟨k2, e2⟩
          · cases e2
          cases e2
          refine Snd.val hI _ (run_slice_sl3 hu hn (Bnd.of hl el) h0 h1 h2 hcap) ?_
          have key : ∀ o', (m'.toNat - l.toNat ≠ 0 → o' = o + l.toNat * sz') →
              VRel g (.sl b (off + l.toNat * sz') (h.toNat - l.toNat) sz' (some (m'.toNat - l.toNat))) (.slice (some ⟨T.c, o', none⟩) (h.toNat - l.toNat) (m'.toNat - l.toNat)) := by
            intro o' ho'
            refine .sl hmu (by omega) (fun hne => ?_) (fun k e => by cases e; rfl)
            obtain ⟨e1, e2⟩ := ho (by omega)
            rw [ho' hne, e1]
            refine ⟨by omega, ?_⟩
            rw [e1] at e2
            have : l.toNat * sz' + (m'.toNat - l.toNat) * sz' ≤ cap * sz' := by rw [← Nat.add_mul]; exact Nat.mul_le_mul_right _ (by omega)
            omega
          split
          · exact key o fun hne => by omega
          · rw [Option.map_some, add_none]; exact key _ fun _ => rfl
      · exact hp.elim
  · rename_i n e b off hu
    obtain rfl : mc = none := by cases mc; rfl; exact hm.elim
    obtain ⟨T, hmu, rfl⟩ := hx.inv_ptr
    split at hp
    · rename_i sz l h cs hn el eh hg
      obtain ⟨h0, h1, h2, h3⟩ := hp
      have hDb : D b := by simp only [hu, hn, el, eh, hg] at hD; exact hD b (by simp)
      obtain ⟨T1, o, m1, p1, hw1, r1⟩ := hI.cont b _ hDb hg
      obtain rfl : T1 = T := by rw [hmu] at m1; exact (Option.some.inj m1).symm
      cases r1 with
      | cells hs hb hpw =>
        refine Snd.val hI _ (run_slice_arr hu hn (Bnd.of hl el) (Bnd.of hh eh) h0 h1 h2) ?_
        have hmul : l.toNat * sz + (n - l.toNat) * sz = n * sz := by rw [← Nat.add_mul]; congr 1; omega
        have key : ∀ o', (n - l.toNat ≠ 0 → o' = T1.sh + off + l.toNat * sz) →
            VRel g (.sl b (off + l.toNat * sz) (h.toNat - l.toNat) sz (some (n - l.toNat))) (.slice (some ⟨T1.c, o', none⟩) (h.toNat - l.toNat) (n - l.toNat)) := by
          intro o' ho'
          refine .sl hmu (by omega) (fun hne => ?_) (fun k e => by rw [Option.some.injEq] at e; exact e)
          rw [ho' hne]
          exact ⟨by omega, by omega⟩
        split
        · exact key _ fun hne => by omega
        · rw [add_none]; exact key _ fun _ => rfl
    · exact hp.elim
  · exact hp.elim
end
end Go.Ab
