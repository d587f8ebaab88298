/- slices.SortFunc over a list of counts: the kit's contract as one over abstract heaps. -/
import Derived.Test.YtajodjbnkeeonaaGreatDoorM0Types
import Derived.Shelf.SlSortCmp.WholeK
import Derived.Test.YtajodjbnkeeonaaGreatDoorAbRules
import Derived.Test.YtajodjbnkeeonaaGreatDoorAbCall
set_option linter.unusedSimpArgs false
set_option linter.unusedVariables false
namespace Go.Ab
open Go.Cnt Go.Sort Go.Proofs
def srt (l : List Ent) : List Ent := l.foldl ins []
theorem srt_perm {l : List Ent} (h : Dif l) : (srt l).Perm l := by
  have := (fold_perm l (l := []) (m := []) .nil .nil (.refl _)).1
  rwa [fold_upd_new l [] (by simpa using h)] at this
theorem srt_inc (l : List Ent) : Inc (srt l) := (fold_perm l (l := []) (m := []) .nil .nil (.refl _)).2.1
abbrev CE := ByteArray × ByteArray × Int
def encC (x : CE) : List Value := [.string x.1, .string x.2.1, .int .i64 x.2.2]
def entC (x : CE) : Ent := ((x.1.data.toList, x.2.1.data.toList), x.2.2)
theorem encC_len (x : CE) : (encC x).length = 3 := rfl
theorem grow_of {W w' : World} (h : Bel W.heap.size W w') : ∃ q os', w' = grow (W.drewN q) os' := by
  refine ⟨w'.drawn - W.drawn, w'.heap.extract W.heap.size w'.heap.size, ?_⟩
  have hh : w'.heap = W.heap ++ w'.heap.extract W.heap.size w'.heap.size := by
    apply Array.ext_getElem?
    intro k
    rw [Array.getElem?_append]
    split
    · rename_i hk; exact h.block k hk
    · rename_i hk
      rw [Array.getElem?_extract]
      have hs := h.size
      by_cases hk2 : k < w'.heap.size
      · rw [if_pos (by omega), show W.heap.size + (k - W.heap.size) = k by omega]
      · rw [if_neg (by omega), Array.getElem?_eq_none (by omega)]
  have hd : w'.drawn = W.drawn + (w'.drawn - W.drawn) := by have := h.tape.le; omega
  cases w' with
  | mk heap tape drawn os output =>
    simp only [grow, World.drewN, World.mk.injEq] at *
    exact ⟨hh, h.tape.eq, hd, h.os, h.output⟩
theorem ce_rel (g : G) (x : CE) : VRel g (.agg (entV (entC x))) (.agg (encC x).toArray) :=
  VRel.mk_agg rfl (by
    intro i y hy
    match i with
    | 0 => cases hy; exact ⟨_, rfl, .str rfl⟩
    | 1 => cases hy; exact ⟨_, rfl, .str rfl⟩
    | 2 => cases hy; exact ⟨_, rfl, .int _ _⟩
    | i + 3 => simp [entV] at hy)
theorem cmp_lays {P : Program} {f : FuncId} (hf : Callable P f) (hc : ∀ x y : Ent, PCall P f [.agg (entV x), .agg (entV y)] (.ret (.int .i64 (cmpK x.1 y.1))))
    {g : G} (hg : GOK g) {w : World} {blk off size : Nat} (hfr : ∀ c arr, g.phi c = some arr → c ≠ blk ∧ c < w.heap.size ∧ ∃ t fr, w.heap[c]? = some (.cells arr t fr)) :
    CmpLays P f #[] encC 3 (fun x y => cmpK (entC x).1 (entC y).1) blk off size w := by
  intro m os dk hdk x y
  have hw : ∀ c arr, g.phi c = some arr → ∃ t fr, (sortWorldK encC 3 w blk off m dk os).heap[c]? = some (.cells arr t fr) := by
    intro c arr e
    obtain ⟨h1, h2, t, fr, h3⟩ := hfr c arr e
    refine ⟨t, fr, ?_⟩
    unfold sortWorldK
    rw [heap_grow_old _ _ (by rw [putRowK]; simpa using h2)]
    show ((w.heap.modify blk _)[c]?) = _
    rw [Array.getElem?_modify, if_neg (fun e => h1 e.symm)]
    exact h3
  have := hc (entC x) (entC y) g (sortWorldK encC 3 w blk off m dk os) #[.agg (encC x).toArray, .agg (encC y).toArray] hg hw rfl (by
    intro i z hz
    match i with
    | 0 => cases hz; exact ⟨_, rfl, ce_rel g x⟩
    | 1 => cases hz; exact ⟨_, rfl, ce_rel g y⟩
    | i + 2 => simp at hz)
  rcases this with ⟨_, h⟩ | ⟨v, w', h, _⟩
  · refine h.mono fun e w' ⟨phi', vc, h1, h2, h3, h4⟩ => ?_
    refine ⟨?_, grow_of h2⟩
    rw [h3, h4.inv_int]; rfl
  · rw [hf] at h; cases h
theorem swo_cmp : SWO (ltOf fun x y : CE => cmpK (entC x).1 (entC y).1) := by
  have key : ∀ x y : CE, ltOf (fun x y : CE => cmpK (entC x).1 (entC y).1) x y = lt (entC x).1 (entC y).1 := by
    intro x y
    unfold ltOf
    have := cmpK_neg (entC x).1 (entC y).1
    cases h : lt (entC x).1 (entC y).1 with
    | true => rw [h] at this; simpa using this
    | false => rw [h] at this; simpa using this
  refine ⟨fun x => by rw [key]; exact lt_irrefl _, fun x y z h1 h2 => by rw [key] at *; exact lt_trans h1 h2, fun x y z h1 h2 => ?_⟩
  rw [key] at *
  cases h : lt (entC x).1 (entC z).1 with
  | false => rfl
  | true =>
    rcases lt_tri (entC x).1 (entC y).1 with k | k | k
    · rw [k] at h1; cases h1
    · rw [k] at h; rw [h] at h2; cases h2
    · have := lt_trans k h; rw [this] at h2; cases h2
theorem ltOf_eq (x y : CE) : ltOf (fun x y : CE => cmpK (entC x).1 (entC y).1) x y = lt (entC x).1 (entC y).1 := by
  unfold ltOf
  have := cmpK_neg (entC x).1 (entC y).1
  cases h : lt (entC x).1 (entC y).1 with
  | true => rw [h] at this; simpa using this
  | false => rw [h] at this; simpa using this
theorem sorted_end {d d' : Array CE} (hd : Dif (d.toList.map entC)) (hp : PermIn 0 d.size d d') (hs : SortedIn (ltOf fun x y : CE => cmpK (entC x).1 (entC y).1) 0 d.size d') : d'.toList.map entC = srt (d.toList.map entC) := by
  obtain ⟨h1, _, h3⟩ := hp
  have e1 : d'.extract 0 d.size = d' := by rw [← h1]; simp
  have e2 : d.extract 0 d.size = d := by simp
  rw [e1, e2] at h3
  have hp : (d'.toList.map entC).Perm (d.toList.map entC) := h3.map entC
  refine Inc.perm_eq ?_ (srt_inc _) (hp.trans (srt_perm hd).symm)
  have hd' := hd.perm hp.symm
  unfold Inc
  unfold Dif at hd'
  rw [List.pairwise_iff_getElem] at hd' ⊢
  intro i j hi hj hij
  have hne := hd' i j hi hj hij
  simp only [List.length_map, Array.length_toList] at hi hj
  have := hs i j (Nat.zero_le _) hij (by rw [← h1]; exact hj)
  rw [ltOf_eq, getElem!_pos d' j hj, getElem!_pos d' i hi] at this
  simp only [List.getElem_map, Array.getElem_toList] at hne ⊢
  rcases lt_tri (entC d'[i]).1 (entC d'[j]).1 with k | k | k
  · exact k
  · exact absurd k hne
  · rw [k] at this; cases this
def bytesC : Value → ByteArray
  | .string s => s
  | _ => ⟨#[]⟩
def rowC (vs : Nat → Value) : Nat → List Ent → List CE
  | _, [] => []
  | i, e :: l => (bytesC (vs i), bytesC (vs (i + 1)), e.2) :: rowC vs (i + 3) l
theorem rowC_len (vs : Nat → Value) : ∀ (i : Nat) (l : List Ent), (rowC vs i l).length = l.length
  | _, [] => rfl
  | i, e :: l => by rw [rowC, List.length_cons, rowC_len]; rfl
theorem rowC_ok {g : G} {vs : Nat → Value} : ∀ (i : Nat) (l : List Ent), (∀ (k : Nat) (x : V), (cnts l)[k]? = some x → VRel g x (vs (i + k))) → (rowC vs i l).map entC = l ∧ ∀ k, k < l.length * 3 → ((rowC vs i l).flatMap encC)[k]? = some (vs (i + k))
  | _, [], _ => ⟨rfl, fun k h => by simp at h⟩
  | i, e :: l, h => by
    rw [cnts_cons] at h
    obtain ⟨s0, e0, r0⟩ := (h 0 _ rfl).inv_str
    obtain ⟨s1, e1, r1⟩ := (h 1 _ rfl).inv_str
    have e2 := (h 2 _ rfl).inv_int
    obtain ⟨k1, k2⟩ := rowC_ok (i + 3) l fun k x hx => by
      have := h (k + 3) x (by simpa using hx)
      rwa [show i + (k + 3) = i + 3 + k by omega] at this
    rw [Nat.add_zero] at e0
    constructor
    · rw [rowC, List.map_cons, k1]
      simp only [entC, e0, e1, bytesC, r0, r1]
    · intro k hk
      rw [rowC, List.flatMap_cons]
      match k with
      | 0 => simp [encC, e0, bytesC]
      | 1 => simp [encC, e1, bytesC]
      | 2 => simp [encC, e2]
      | k + 3 =>
        have := k2 k (by simp at hk; omega)
        rw [show i + (k + 3) = i + 3 + k by omega, ← this]
        simp [encC]
theorem flatK_eq (d : Array CE) (k : Nat) (h : k < d.size * 3) : (flatK encC 3 d)[k]? = (d.toList.flatMap encC)[k]? := by
  have h1 : (flatK encC 3 d)[k]? = some ((encC d[k / 3]!)[k % 3]!) := by
    rw [← get_flatK encC 3 d k h]
    rw [getElem!_pos _ _ (by rw [size_flatK]; exact h)]
    exact Array.getElem?_eq_getElem _
  rw [h1]
  have key : ∀ (l : List CE) (k : Nat), k < l.length * 3 → (l.flatMap encC)[k]? = some ((encC (l.getD (k / 3) default))[k % 3]!) := by
    intro l
    induction l with
    | nil => intro k hk; simp at hk
    | cons x l ih =>
      intro k hk
      rw [List.flatMap_cons]
      by_cases h3 : k < 3
      · rw [List.getElem?_append_left (by rw [encC_len]; exact h3), Nat.div_eq_of_lt h3, Nat.mod_eq_of_lt h3]
        simp only [List.getD_cons_zero]
        rw [getElem!_pos _ _ (by rw [encC_len]; exact h3)]
        exact List.getElem?_eq_getElem _
      · rw [List.getElem?_append_right (by rw [encC_len]; omega), encC_len, ih (k - 3) (by simp at hk; omega)]
        have e1 : k / 3 = (k - 3) / 3 + 1 := by omega
        have e2 : k % 3 = (k - 3) % 3 := by omega
        rw [e1, e2, List.getD_cons_succ]
  rw [key d.toList k (by simpa using h)]
  have hlt : k / 3 < d.size := by omega
  rw [getElem!_pos d _ hlt, List.getD_eq_getElem?_getD]
  simp [hlt]
theorem sort_hcall {P : Program} {ρ : Go.Shelf.Ren} (L : SlLaysF0.n6 P ρ) (aE : ∀ w, (isAgg (ρ.t 24)).run P w = .ok true w) (zE : ∀ w, (Go.sizeOf (ρ.t 24)).run P w = .ok 3 w) (hs : Callable P (ρ.f 6)) {f : FuncId} (hf : Callable P f)
    (hc : ∀ x y : Ent, PCall P f [.agg (entV x), .agg (entV y)] (.ret (.int .i64 (cmpK x.1 y.1)))) {l : List Ent} (hd : Dif l) (hl : l.length < 4611686018427387904) {H : Hp} {b : Nat} (hb : H.get b = some (.cells (cnts l))) :
    HCall P (ρ.f 6) [.sl b 0 l.length 3 none, .fn f []] H ⟨True, .tup [], H.put b (.cells (cnts (srt l))), [b], [b]⟩ := by
  refine ⟨fun _ => ⟨Nat.le_refl _, fun k hk hw => ?_, fun k hk => ?_, fun hk k x e => ?_⟩, fun _ g base D w vs hg hI hvs hpw hD => ?_⟩
  · rw [Hp.get_put, if_neg (by simpa using hw)]
  · obtain rfl : k = b := by simpa using hk
    exact ⟨_, hb⟩
  · rw [Hp.get_put] at e
    show k < H.next
    split at e
    · rename_i hkb; subst hkb; exact hk _ _ hb
    · exact hk _ _ e
  obtain ⟨T, o, hT, hphi, ho, hrel⟩ := hI.cont b _ (hD b (by simp)) hb
  obtain ⟨v0, hv0, r0⟩ := hpw 0 _ rfl
  obtain ⟨v1, hv1, r1⟩ := hpw 1 _ rfl
  obtain ⟨T', o', cap, hT', hcap, hoff, _, rfl⟩ := r0.inv_sl
  obtain rfl : T' = T := by rw [hT] at hT'; exact (Option.some.inj hT').symm
  obtain ⟨cs, rfl, hcs, _⟩ := r1.inv_fn
  have hcs0 : cs = #[] := by simpa using hcs
  subst hcs0
  obtain ⟨arr, t, rfl, hsz, hbd, hpw0⟩ : ∃ arr t, o = .cells arr t (0, 0) ∧ arr.size = T'.tot ∧ T'.sh + (cnts l).length ≤ T'.tot ∧ PW g (cnts l) (fun i => arr[T'.sh + i]?) := by
    cases hrel with
    | cells h1 h2 h3 => exact ⟨_, _, rfl, h1, h2, h3⟩
  have hvs2 : vs = #[.slice (some ⟨T'.c, o', none⟩) l.length cap, .func (.func f) #[] #[]] := by
    apply Array.ext_getElem?
    intro i
    match i with
    | 0 => exact hv0
    | 1 => exact hv1
    | i + 2 => rw [Array.getElem?_eq_none (by simp at hvs; omega)]; simp
  subst hvs2
  obtain ⟨xs, hx1, hx2⟩ := hpw0.skolem
  obtain ⟨hr1, hr2⟩ := rowC_ok (vs := xs) 0 l fun k x hk => by rw [Nat.zero_add]; exact hx2 k x hk
  let d : Array CE := (rowC xs 0 l).toArray
  have hdl : d.toList = rowC xs 0 l := rfl
  have hds : d.size = l.length := by show (rowC xs 0 l).length = _; exact rowC_len ..
  have hcn : (cnts l).length = l.length * 3 := len_cnts l
  have hoff' : l.length ≠ 0 → o' = T'.sh := fun h => by have := (hoff (by omega)).1; omega
  have hblk : T'.c < w.heap.size := (Array.getElem?_eq_some_iff.1 ho).1
  have hH : HoldsK encC 3 w T'.c o' d := by
    intro j hj
    rw [size_flatK, hds] at hj
    have hne : l.length ≠ 0 := by intro h; rw [h] at hj; simp at hj
    have hj' := hj
    refine ⟨?_, ?_⟩
    · have e1 : (flatK encC 3 d)[j]? = some (xs j) := by rw [flatK_eq d j (by rw [hds]; exact hj), hdl, hr2 j hj, Nat.zero_add]
      have e2 : (flatK encC 3 d)[j]! = xs j := by
        rw [getElem!_pos _ _ (by rw [size_flatK, hds]; exact hj)]
        rw [Array.getElem?_eq_getElem (by rw [size_flatK, hds]; exact hj)] at e1
        exact Option.some.inj e1
      rw [e2, hoff' hne]
      unfold World.cell?
      simp only [ho]
      simpa using hx1 j (by rw [hcn]; exact hj)
    · simp [World.frozen?, ho]
  have hdif : Dif (d.toList.map entC) := by rw [hdl, hr1]; exact hd
  have hfr : ∀ c a, g.phi c = some a → c ≠ T'.c ∧ c < w.heap.size ∧ ∃ t fr, w.heap[c]? = some (.cells a t fr) := by
    intro c a e
    refine ⟨fun h => ?_, hI.below_phi e, hI.frz c a e⟩
    subst h; rw [hphi] at e; cases e
  have hcall := AnyQ.slices_SortFunc (P := P) (ρ := ρ) L 3 aE zE encC encC_len (fun x v hv => by simp only [encC, List.mem_cons, List.not_mem_nil, or_false] at hv; rcases hv with rfl | rfl | rfl <;> rfl)
    (fun x y => cmpK (entC x).1 (entC y).1) swo_cmp f #[] T'.c o' cap d w (fun a w => hf a w) (cmp_lays hf hc hg hfr) hH hblk (by rw [hds]; exact hl)
  rw [hds] at hcall
  refine .inl ⟨hs _ _, hcall.mono fun e w' h => ?_⟩
  obtain ⟨rfl, d', n, os, hp, hso, rfl⟩ := h
  rw [← hds] at hp hso
  have hend := sorted_end hdif hp hso
  rw [hdl, hr1] at hend
  have hd's : d'.size = l.length := hp.1.trans hds
  let w2 : World := putRowK encC 3 (Sort.ahead w n) T'.c o' d'
  have h2c : w2.heap[T'.c]? = some (.cells (Go.Sort.putCells id o' (flatK encC 3 d') arr) t (0, 0)) := by
    show ((w.heap.modify T'.c _)[T'.c]?) = _
    rw [Array.getElem?_modify, if_pos rfl, ho]; rfl
  have h2o : ∀ c, c ≠ T'.c → w2.heap[c]? = w.heap[c]? := by
    intro c hne
    show ((w.heap.modify T'.c _)[c]?) = _
    rw [Array.getElem?_modify, if_neg (fun e => hne e.symm)]
  have h2s : w2.heap.size = w.heap.size := by show (w.heap.modify T'.c _).size = _; simp
  have hrel2 : BlkRel g (.cells (cnts (srt l))) T' (.cells (Go.Sort.putCells id o' (flatK encC 3 d') arr) t (0, 0)) := by
    have hls : (srt l).length = l.length := (srt_perm hd).length_eq
    refine .cells (by unfold Go.Sort.putCells; simpa using hsz) (by rw [len_cnts, hls, ← hcn]; exact hbd) fun i x hx => ?_
    have hi : i < l.length * 3 := by
      have := (List.getElem?_eq_some_iff.1 hx).1
      rw [len_cnts, hls] at this; exact this
    have hne : l.length ≠ 0 := by intro h; rw [h] at hi; simp at hi
    have harr : ∃ y, arr[T'.sh + i]? = some y := ⟨_, hx1 i (by rw [hcn]; exact hi)⟩
    obtain ⟨y, hy⟩ := harr
    have hfl := flatK_eq d' i (by rw [hd's]; exact hi)
    have key : ∀ (ds : List CE) (i : Nat) (x : V), (cnts (ds.map entC))[i]? = some x → ∃ v, (ds.flatMap encC)[i]? = some v ∧ VRel g x v := by
      intro ds
      induction ds with
      | nil => intro i x h; simp [cnts] at h
      | cons a ds ih =>
        intro i x h
        rw [List.map_cons, cnts_cons] at h
        rw [List.flatMap_cons]
        match i with
        | 0 => cases h; exact ⟨_, rfl, .str rfl⟩
        | 1 => cases h; exact ⟨_, rfl, .str rfl⟩
        | 2 => cases h; exact ⟨_, rfl, .int _ _⟩
        | i + 3 =>
          obtain ⟨v, h1, h2⟩ := ih i x (by simpa using h)
          exact ⟨v, by simpa [encC] using h1, h2⟩
    rw [← hend] at hx
    obtain ⟨v, hv, hr⟩ := key _ i x hx
    refine ⟨v, ?_, hr⟩
    show (Go.Sort.putCells id o' (flatK encC 3 d') arr)[T'.sh + i]? = _
    unfold Go.Sort.putCells
    rw [Array.getElem?_mapIdx, hy, hoff' hne]
    simp only [Option.map_some]
    rw [if_pos ⟨by omega, by rw [size_flatK, hd's]; omega⟩, show T'.sh + i - T'.sh = i by omega]
    rw [getElem!_pos _ _ (by rw [size_flatK, hd's]; exact hi)]
    rw [Array.getElem?_eq_getElem (by rw [size_flatK, hd's]; exact hi), hv] at hfl
    simpa using hfl
  have p1 : Post g g base H (H.put b (.cells (cnts (srt l)))) D [b] w w2 := Post.put hI (hD b (by simp)) hb hT h2c h2o h2s rfl ⟨rfl, Nat.le_add_right _ _⟩ rfl hrel2
  have hbel : Bel w2.heap.size w2 (grow w2 os) := ⟨rfl, ⟨rfl, Nat.le_refl _⟩, rfl, by simp [grow], fun k hk => heap_grow_old w2 os hk⟩
  have p2 := Post.pure (D := fun k => D k ∨ H.next ≤ k) p1.inv (fun _ => none) hbel (fun c a e => by cases e)
  have p := Post.trans hI p1 p2
  exact ⟨_, _, rfl, VRel.mk_tup rfl PW.nil, (by simpa using p : Post g (g.more fun _ => none) base H (H.put b (.cells (cnts (srt l)))) D [b] w (grow w2 os))⟩
end Go.Ab

/- Walks of calls that read the caller's blocks and hand out a new one; their contracts at any heap. -/
namespace Go.Ab
variable {P : Program}
def EndN (C : Cfg) (P : Program) (rs : List ResultVar) (v : V) (Hc : Hp) : Out → St → Prop
  | .norm, s | .ret, s => ∃ env', Sub C s ⟨env', Hc⟩ ∧ (resL P ⟨env', Hc⟩ rs).1 ∧ tupV (resL P ⟨env', Hc⟩ rs).2 = v
  | _, _ => False
theorem endN_ret {C : Cfg} (rs : List ResultVar) (v : V) (Hc : Hp) (s : St) : EndN C P rs v Hc .ret s = ∃ env', Sub C s ⟨env', Hc⟩ ∧ (resL P ⟨env', Hc⟩ rs).1 ∧ tupV (resL P ⟨env', Hc⟩ rs).2 = v := rfl
theorem endN_norm {C : Cfg} (rs : List ResultVar) (v : V) (Hc : Hp) (s : St) : EndN C P rs v Hc .norm s = ∃ env', Sub C s ⟨env', Hc⟩ ∧ (resL P ⟨env', Hc⟩ rs).1 ∧ tupV (resL P ⟨env', Hc⟩ rs).2 = v := rfl
theorem numB_nil (i : Nat) : numB i [] = [] := rfl
theorem numB_cons (i : Nat) (x : Blk) (r : List Blk) : numB i (x :: r) = (i, x) :: numB (i + 1) r := rfl
attribute [go_sem] endN_ret endN_norm numB_nil numB_cons
theorem NCall.walk {nt : Nat} (keep : List Nat) (fz : List Nat) (nx : Nat) {Γ : FuncId → List V → Option PR} {Δ : FuncId → List V → Hp → Option AR} {f : FuncId} {fn : Func} {c : Code} {args : List V} {F : List Blk} {v : V} {Hc : Hp} {rs : List ResultVar}
    (hm : P.follows .mixedOrders = true) (hΓ : GoodΓ P Γ) (hΔ : GoodΔ P Δ) (hc : Callable P f) (hf : P.funcs[f]? = some fn) (hb : fn.body = some c) (hnt : fn.ntmps = nt) (hrs : fn.results.toList = rs) (hok : codeOK nt c = true) (hle : args.length ≤ nt) (hnx : nx = F.length) (hn : F.length ≤ Hc.next)
    (h : AXs ⟨nt, keepL keep, Γ, Δ, nx, [], keepL fz⟩ P (EndN ⟨nt, keepL keep, Γ, Δ, nx, [], keepL fz⟩ P rs v Hc) [] c (argEnv 0 args) ⟨numB 0 F, nx⟩) : NCall P f args F [] v Hc := by
  subst hnx
  refine NCall.of (C := ⟨nt, keepL keep, Γ, Δ, F.length, [], keepL fz⟩) hc hf hb hnt hle rfl (fun b hb => by cases hb) hn ?_
  refine AX.mono (AXf_ok (C := ⟨nt, keepL keep, Γ, Δ, F.length, [], keepL fz⟩) hm ⟨hΓ, hΔ⟩ c _ _ hok h) fun o s hk => ?_
  subst hrs
  cases o with
  | norm => obtain ⟨env', h1, h2, h3⟩ := hk; exact ⟨.inl rfl, _, h1, rfl, h2, h3⟩
  | ret => obtain ⟨env', h1, h2, h3⟩ := hk; exact ⟨.inr rfl, _, h1, rfl, h2, h3⟩
  | exit i => exact hk.elim
  | panic v => exact hk.elim
theorem NCall.walkW {nt : Nat} (keep : List Nat) (fz : List Nat) (nx : Nat) (W : List Nat) {Γ : FuncId → List V → Option PR} {Δ : FuncId → List V → Hp → Option AR} {f : FuncId} {fn : Func} {c : Code} {args : List V} {F : List Blk} {v : V} {Hc : Hp} {rs : List ResultVar}
    (hm : P.follows .mixedOrders = true) (hΓ : GoodΓ P Γ) (hΔ : GoodΔ P Δ) (hc : Callable P f) (hf : P.funcs[f]? = some fn) (hb : fn.body = some c) (hnt : fn.ntmps = nt) (hrs : fn.results.toList = rs) (hok : codeOK nt c = true) (hle : args.length ≤ nt) (hnx : nx = F.length) (hW : ∀ b ∈ W, b < F.length) (hn : F.length ≤ Hc.next)
    (h : AXs ⟨nt, keepL keep, Γ, Δ, nx, W, keepL fz⟩ P (EndN ⟨nt, keepL keep, Γ, Δ, nx, W, keepL fz⟩ P rs v Hc) [] c (argEnv 0 args) ⟨numB 0 F, nx⟩) : NCall P f args F W v Hc := by
  subst hnx
  refine NCall.of (C := ⟨nt, keepL keep, Γ, Δ, F.length, W, keepL fz⟩) hc hf hb hnt hle rfl hW hn ?_
  refine AX.mono (AXf_ok (C := ⟨nt, keepL keep, Γ, Δ, F.length, W, keepL fz⟩) hm ⟨hΓ, hΔ⟩ c _ _ hok h) fun o s hk => ?_
  subst hrs
  cases o with
  | norm => obtain ⟨env', h1, h2, h3⟩ := hk; exact ⟨.inl rfl, _, h1, rfl, h2, h3⟩
  | ret => obtain ⟨env', h1, h2, h3⟩ := hk; exact ⟨.inr rfl, _, h1, rfl, h2, h3⟩
  | exit i => exact hk.elim
  | panic v => exact hk.elim
theorem HCall.fresh {f : FuncId} {args : List V} {F : List Blk} {X : List V} {n sz : Nat} (hN : NCall P f args F [] (.sl F.length 0 n sz none) ⟨(F.length, .cells X) :: numB 0 F, F.length + 1⟩) (hX : ∀ x ∈ X, Pure x)
    (is : List Nat) (args' : List V) (H : Hp) (hlen : is.length = F.length) (hnd : is.Nodup) (ha : LRel (Rn (fun i => is.getD i 0) (· < F.length)) args args')
    (hF : ∀ (i : Nat) (x : Blk), F[i]? = some x → ∃ b, is[i]? = some b ∧ H.get b = some x ∧ RnB (fun i => is.getD i 0) (· < F.length) x x)
    (hF' : ∀ (i : Nat) (x : Blk), F[i]? = some x → ∀ π N, RnB π N x x) (hk : ∀ b x, H.get b = some x → b < H.next) :
    HCall P f args' H ⟨True, .sl H.next 0 n sz none, ⟨(H.next, .cells X) :: H.bs, H.next + 1⟩, is, []⟩ := by
  have tc : toCall is H.next H.next = F.length := by unfold toCall; rw [if_neg (by omega)]; omega
  refine HCall.of hN is args' (.sl H.next 0 n sz none) H ⟨(H.next, .cells X) :: H.bs, H.next + 1⟩ hlen hnd ha (fun i x hx => ?_) ?_ (by show H.next + 1 + F.length = H.next + (F.length + 1); omega) (fun b x' hx' => ?_) (fun b hb _ => ?_)
  · obtain ⟨b, h1, h2, h3⟩ := hF i x hx
    exact ⟨b, x, h1, h2, h3⟩
  · have := Rn.sl (π := toCall is H.next) (N := fun b => b ∈ is ∨ (H.next ≤ b ∧ b < H.next + 1)) (b := H.next) (off := 0) (len := n) (sz := sz) (kc := none) (kc' := none) (.inr ⟨Nat.le_refl _, Nat.lt_succ_self _⟩) (.inl rfl)
    rwa [tc] at this
  · by_cases hb : b = H.next
    · subst hb
      have hxe : x' = .cells X := by
        have : (((H.next, .cells X) :: H.bs : List (Nat × Blk)).lookup H.next) = some x' := hx'
        simp at this; exact this.symm
      subst hxe
      refine .inr ⟨.inr ⟨Nat.le_refl _, Nat.lt_succ_self _⟩, .cells X, ?_, .cells (lrel_same hX)⟩
      rw [tc]
      show (((F.length, Blk.cells X) :: numB 0 F).lookup F.length) = _
      simp
    · have hg : H.get b = some x' := by
        have : (((H.next, .cells X) :: H.bs : List (Nat × Blk)).lookup b) = some x' := hx'
        rw [List.lookup_cons] at this
        have hne : (b == H.next) = false := by simpa using hb
        rw [hne] at this
        exact this
      by_cases hi : b ∈ is
      · obtain ⟨i, hi1, hi2⟩ := List.mem_iff_getElem.1 hi
        have hiF : i < F.length := by omega
        obtain ⟨b', k1, k2, k3⟩ := hF i F[i] (by rw [List.getElem?_eq_getElem])
        rw [List.getElem?_eq_getElem hi1, hi2] at k1
        cases k1
        rw [hg] at k2
        have hx : x' = F[i] := Option.some.inj k2
        have htc : toCall is H.next b = i := by
          unfold toCall
          rw [if_pos (hk b _ hg), ← hi2, List.Nodup.idxOf_getElem hnd]
        refine .inr ⟨.inl hi, F[i], ?_, ?_⟩
        · rw [htc]
          show (((F.length, Blk.cells X) :: numB 0 F).lookup i) = _
          have hne : (i == F.length) = false := by simp; omega
          rw [List.lookup_cons, hne, numB_lookup]
          simp
        · rw [hx]; exact hF' i F[i] (by rw [List.getElem?_eq_getElem]) _ _
      · exact .inl ⟨hk b _ hg, hi, hg⟩
  · show (((H.next, .cells X) :: H.bs : List (Nat × Blk)).lookup b) = H.get b
    rw [List.lookup_cons]
    have hne : (b == H.next) = false := by simp; omega
    rw [hne]; rfl
theorem keysLt {bs : List (Nat × Blk)} {n : Nat} (h : ((keysB bs).all fun b => decide (b < n)) = true) : ∀ b x, (⟨bs, n⟩ : Hp).get b = some x → b < n := fun b _ hx => by
  have := List.all_eq_true.1 h b (keysB_mem hx)
  simpa using this
theorem HCall.none {f : FuncId} {args : List V} {F : List Blk} {v : V} (hN : NCall P f args F [] v ⟨numB 0 F, F.length⟩) (hv : Pure v)
    (is : List Nat) (args' : List V) (H : Hp) (hlen : is.length = F.length) (hnd : is.Nodup) (ha : LRel (Rn (fun i => is.getD i 0) (· < F.length)) args args')
    (hF : ∀ (i : Nat) (x : Blk), F[i]? = some x → ∃ b, is[i]? = some b ∧ H.get b = some x ∧ RnB (fun i => is.getD i 0) (· < F.length) x x)
    (hF' : ∀ (i : Nat) (x : Blk), F[i]? = some x → ∀ π N, RnB π N x x) (hk : ∀ b x, H.get b = some x → b < H.next) :
    HCall P f args' H ⟨True, v, H, is, []⟩ := by
  refine HCall.of hN is args' v H H hlen hnd ha (fun i x hx => ?_) (.same hv) rfl (fun b x' hx' => ?_) (fun b hb _ => rfl)
  · obtain ⟨b, h1, h2, h3⟩ := hF i x hx
    exact ⟨b, x, h1, h2, h3⟩
  · by_cases hi : b ∈ is
    · obtain ⟨i, hi1, hi2⟩ := List.mem_iff_getElem.1 hi
      have hiF : i < F.length := by omega
      obtain ⟨b', k1, k2, k3⟩ := hF i F[i] (by rw [List.getElem?_eq_getElem])
      rw [List.getElem?_eq_getElem hi1, hi2] at k1
      cases k1
      rw [hx'] at k2
      have hx : x' = F[i] := Option.some.inj k2
      have htc : toCall is H.next b = i := by
        unfold toCall
        rw [if_pos (hk b _ hx'), ← hi2, List.Nodup.idxOf_getElem hnd]
      refine .inr ⟨.inl hi, F[i], ?_, ?_⟩
      · rw [htc]
        show ((numB 0 F).lookup i) = _
        rw [numB_lookup]
        simp
      · rw [hx]; exact hF' i F[i] (by rw [List.getElem?_eq_getElem]) _ _
    · exact .inl ⟨hk b _ hx', hi, hx'⟩
theorem HCall.put1 {f : FuncId} {args : List V} {X0 X : List V} {n sz : Nat} (hN : NCall P f args [.cells X0] [0] (.sl 0 0 n sz Option.none) ⟨[(0, .cells X)], 1⟩) (hX0 : ∀ x ∈ X0, Pure x) (hX : ∀ x ∈ X, Pure x)
    (b : Nat) (args' : List V) (H : Hp) (ha : LRel (Rn (fun i => [b].getD i 0) (· < 1)) args args') (hb : H.get b = some (.cells X0)) (hk : ∀ b x, H.get b = some x → b < H.next) :
    HCall P f args' H ⟨True, .sl b 0 n sz Option.none, H.put b (.cells X), [b], [b]⟩ := by
  have tc : toCall [b] H.next b = 0 := by unfold toCall; rw [if_pos (hk b _ hb)]; simp
  refine HCall.of hN [b] args' (.sl b 0 n sz Option.none) H (H.put b (.cells X)) rfl (by simp) ha (fun i x hx => ?_) ?_ rfl (fun b' x' hx' => ?_) (fun b' hb' hw => ?_)
  · match i with
    | 0 => cases hx; exact ⟨b, _, rfl, hb, .cells (lrel_same hX0)⟩
    | i + 1 => simp at hx
  · have := Rn.sl (π := toCall [b] H.next) (N := fun b' => b' ∈ [b] ∨ (H.next ≤ b' ∧ b' < (H.put b (.cells X)).next)) (b := b) (off := 0) (len := n) (sz := sz) (kc := Option.none) (kc' := Option.none) (.inl (by simp)) (.inl rfl)
    rwa [tc] at this
  · rw [Hp.get_put] at hx'
    split at hx'
    · rename_i he
      subst he
      rw [hb] at hx'
      cases hx'
      refine .inr ⟨.inl (by simp), .cells X, ?_, .cells (lrel_same hX)⟩
      rw [tc]; rfl
    · rename_i he
      exact .inl ⟨hk b' _ hx', by simpa using he, hx'⟩
  · rw [Hp.get_put, if_neg (by simpa using hw)]
theorem HCall.move1 {f : FuncId} {args : List V} {X0 X : List V} {n sz : Nat} (hN : NCall P f args [.cells X0] [0] (.sl 1 0 n sz Option.none) ⟨[(1, .cells X)], 2⟩) (hX0 : ∀ x ∈ X0, Pure x) (hX : ∀ x ∈ X, Pure x)
    (b : Nat) (args' : List V) (H : Hp) (ha : LRel (Rn (fun i => [b].getD i 0) (· < 1)) args args') (hb : H.get b = some (.cells X0)) (hk : ∀ b x, H.get b = some x → b < H.next) :
    HCall P f args' H ⟨True, .sl H.next 0 n sz Option.none, (H.kill b).new (.cells X), [b], [b]⟩ := by
  have tc : toCall [b] H.next H.next = 1 := by unfold toCall; rw [if_neg (by omega)]; simp
  refine HCall.of hN [b] args' (.sl H.next 0 n sz Option.none) H ((H.kill b).new (.cells X)) rfl (by simp) ha (fun i x hx => ?_) ?_ (by show H.next + 1 + 1 = H.next + 2; omega) (fun b' x' hx' => ?_) (fun b' hb' hw => ?_)
  · match i with
    | 0 => cases hx; exact ⟨b, _, rfl, hb, .cells (lrel_same hX0)⟩
    | i + 1 => simp at hx
  · have := Rn.sl (π := toCall [b] H.next) (N := fun b' => b' ∈ [b] ∨ (H.next ≤ b' ∧ b' < ((H.kill b).new (.cells X)).next)) (b := H.next) (off := 0) (len := n) (sz := sz) (kc := Option.none) (kc' := Option.none) (.inr ⟨Nat.le_refl _, Nat.lt_succ_self _⟩) (.inl rfl)
    rwa [tc] at this
  · rw [Hp.get_new] at hx'
    split at hx'
    · rename_i he
      have he' : b' = H.next := he
      subst he'
      cases hx'
      refine .inr ⟨.inr ⟨Nat.le_refl _, Nat.lt_succ_self _⟩, .cells X, ?_, .cells (lrel_same hX)⟩
      rw [tc]; rfl
    · rw [Hp.get_kill] at hx'
      split at hx'
      · cases hx'
      · rename_i he
        exact .inl ⟨hk b' _ hx', by simpa using he, hx'⟩
  · have h1 : b' ≠ H.next := by omega
    rw [Hp.get_new]
    rw [if_neg (show ¬ b' = (H.kill b).next from h1), Hp.get_kill, if_neg (by simpa using hw)]
noncomputable def conD (R : List V → Hp → AR → Prop) : List V → Hp → Option AR := fun args H =>
  open Classical in if h : ∃ r, R args H r then some (Classical.choose h) else Option.none
theorem conD_eq {R : List V → Hp → AR → Prop} {args : List V} {H : Hp} {r : AR} (h : R args H r) (hu : ∀ r', R args H r' → r' = r) : conD R args H = some r := by
  have hx : ∃ r, R args H r := ⟨r, h⟩
  unfold conD
  rw [dif_pos hx, hu _ (Classical.choose_spec hx)]
theorem conD_ok {R : List V → Hp → AR → Prop} {f : FuncId} (h : ∀ args H r, R args H r → HCall P f args H r) : ∀ args H r, conD R args H = some r → HCall P f args H r := by
  intro args H r e
  unfold conD at e
  split at e
  · rename_i hx
    cases e
    exact h _ _ _ (Classical.choose_spec hx)
  · cases e
end Go.Ab

/- slices.SortFunc over counts, laid at this translation; its contract over abstract heaps. -/
namespace Go.Proofs
open Go.Ab Go.Cnt
def sortRen : Go.Shelf.Ren := ⟨fun x => match x with | 6 => 41 | 15 => 63 | 14 => 62 | 28 => 93 | 29 => 94 | 20 => 85 | 21 => 86 | 22 => 87 | 23 => 88 | 24 => 89 | 25 => 90 | 26 => 91 | 27 => 92 | 46 => 115 | 47 => 116 | 48 => 117 | 49 => 118 | 50 => 119 | 57 => 143 | n => n, fun x => match x with | 22 => 25 | 24 => 37 | 25 => 76 | 3 => 3 | 39 => 95 | 0 => 0 | 53 => 123 | 55 => 106 | 4 => 4 | 46 => 116 | 45 => 115 | 50 => 120 | 5 => 5 | 9 => 9 | 66 => 141 | 70 => 145 | 76 => 173 | 77 => 174 | n => n, fun x => x⟩
theorem sortL : SlLaysF0.n6 Tryz.prog sortRen where
  mixed := mixed
  f6 := ⟨"slices.SortFunc[[]abugida/api.Count,abugida/api.Count]", of_decide_eq_true (by kernel_rfl), Tryz.func41.trans (by kernel_rfl)⟩
  f14 := ⟨"slices.pdqsortCmpFunc[abugida/api.Count]", of_decide_eq_true (by kernel_rfl), Tryz.func62.trans (by kernel_rfl)⟩
  f15 := Tryz.func63.trans (by kernel_rfl)
  f20 := ⟨"slices.insertionSortCmpFunc[abugida/api.Count]", of_decide_eq_true (by kernel_rfl), Tryz.func85.trans (by kernel_rfl)⟩
  f21 := ⟨"slices.heapSortCmpFunc[abugida/api.Count]", of_decide_eq_true (by kernel_rfl), Tryz.func86.trans (by kernel_rfl)⟩
  f22 := ⟨"slices.breakPatternsCmpFunc[abugida/api.Count]", of_decide_eq_true (by kernel_rfl), Tryz.func87.trans (by kernel_rfl)⟩
  f23 := ⟨"slices.choosePivotCmpFunc[abugida/api.Count]", of_decide_eq_true (by kernel_rfl), Tryz.func88.trans (by kernel_rfl)⟩
  f24 := ⟨"slices.reverseRangeCmpFunc[abugida/api.Count]", of_decide_eq_true (by kernel_rfl), Tryz.func89.trans (by kernel_rfl)⟩
  f25 := ⟨"slices.partialInsertionSortCmpFunc[abugida/api.Count]", of_decide_eq_true (by kernel_rfl), Tryz.func90.trans (by kernel_rfl)⟩
  f26 := ⟨"slices.partitionEqualCmpFunc[abugida/api.Count]", of_decide_eq_true (by kernel_rfl), Tryz.func91.trans (by kernel_rfl)⟩
  f27 := ⟨"slices.partitionCmpFunc[abugida/api.Count]", of_decide_eq_true (by kernel_rfl), Tryz.func92.trans (by kernel_rfl)⟩
  f28 := Tryz.func93.trans (by kernel_rfl)
  f29 := Tryz.func94.trans (by kernel_rfl)
  f46 := ⟨"slices.siftDownCmpFunc[abugida/api.Count]", of_decide_eq_true (by kernel_rfl), Tryz.func115.trans (by kernel_rfl)⟩
  f47 := Tryz.func116.trans (by kernel_rfl)
  f48 := Tryz.func117.trans (by kernel_rfl)
  f49 := ⟨"slices.medianAdjacentCmpFunc[abugida/api.Count]", of_decide_eq_true (by kernel_rfl), Tryz.func118.trans (by kernel_rfl)⟩
  f50 := ⟨"slices.medianCmpFunc[abugida/api.Count]", of_decide_eq_true (by kernel_rfl), Tryz.func119.trans (by kernel_rfl)⟩
  f57 := ⟨"slices.order2CmpFunc[abugida/api.Count]", of_decide_eq_true (by kernel_rfl), Tryz.func143.trans (by kernel_rfl)⟩
  t0 := Tryz.underlying0
  a0 := Tryz.isAgg0
  z0 := Tryz.sizeOf0
  v0 := Tryz.zeroValue0
  t3 := Tryz.underlying3
  a3 := Tryz.isAgg3
  z3 := Tryz.sizeOf3
  v3 := Tryz.zeroValue3
  t4 := Tryz.underlying4
  a4 := Tryz.isAgg4
  z4 := Tryz.sizeOf4
  v4 := Tryz.zeroValue4
  t5 := Tryz.underlying5
  a5 := Tryz.isAgg5
  z5 := Tryz.sizeOf5
  v5 := Tryz.zeroValue5
  t9 := Tryz.underlying9
  a9 := Tryz.isAgg9
  z9 := Tryz.sizeOf9
  v9 := Tryz.zeroValue9
  t22 := Tryz.underlying25
  a22 := Tryz.isAgg25
  z22 := Tryz.sizeOf25
  v22 := Tryz.zeroValue25
  t25 := Tryz.underlying76
  a25 := Tryz.isAgg76
  z25 := Tryz.sizeOf76
  v25 := Tryz.zeroValue76
  t39 := Tryz.underlying95
  a39 := Tryz.isAgg95
  z39 := Tryz.sizeOf95
  v39 := Tryz.zeroValue95
  t45 := Tryz.underlying115
  a45 := Tryz.isAgg115
  z45 := Tryz.sizeOf115
  v45 := Tryz.zeroValue115
  t46 := Tryz.underlying116
  a46 := Tryz.isAgg116
  z46 := Tryz.sizeOf116
  v46 := Tryz.zeroValue116
  t50 := Tryz.underlying120
  a50 := Tryz.isAgg120
  z50 := Tryz.sizeOf120
  v50 := Tryz.zeroValue120
  t53 := Tryz.underlying123
  a53 := Tryz.isAgg123
  z53 := Tryz.sizeOf123
  v53 := Tryz.zeroValue123
  t55 := Tryz.underlying106
  a55 := Tryz.isAgg106
  z55 := Tryz.sizeOf106
  v55 := Tryz.zeroValue106
  t66 := Tryz.underlying141
  a66 := Tryz.isAgg141
  z66 := Tryz.sizeOf141
  v66 := Tryz.zeroValue141
  t70 := Tryz.underlying145
  a70 := Tryz.isAgg145
  z70 := Tryz.sizeOf145
  v70 := Tryz.zeroValue145
  t76 := Tryz.underlying173
  a76 := Tryz.isAgg173
  z76 := Tryz.sizeOf173
  v76 := Tryz.zeroValue173
  t77 := Tryz.underlying174
  a77 := Tryz.isAgg174
  z77 := Tryz.sizeOf174
  v77 := Tryz.zeroValue174
def SortR (args : List V) (H : Hp) (r : AR) : Prop :=
  ∃ b l, args = [.sl b 0 l.length 3 none, .fn 42 []] ∧ H.get b = some (.cells (cnts l)) ∧ Dif l ∧ l.length < 4611686018427387904 ∧ r = ⟨True, .tup [], H.put b (.cells (cnts (srt l))), [b], [b]⟩
theorem sortR_ok : ∀ args H r, SortR args H r → HCall Tryz.prog 41 args H r := by
  rintro args H r ⟨b, l, rfl, hb, hd, hl, rfl⟩
  exact sort_hcall (ρ := sortRen) sortL (fun w => by kernel_rfl) (fun w => by kernel_rfl) call41 call42 (fun x y => cmpK_ok x.1.1 x.1.2 y.1.1 y.1.2 x.2 y.2) hd hl hb
theorem sortR_eq {b n : Nat} {l : List Ent} {H : Hp} (hn : n = l.length) (hb : H.get b = some (.cells (cnts l))) (hd : Dif l) (hl : l.length < 4611686018427387904) :
    conD SortR [.sl b 0 n 3 none, .fn 42 []] H = some ⟨True, .tup [], H.put b (.cells (cnts (srt l))), [b], [b]⟩ := by
  subst hn
  refine conD_eq ⟨b, l, rfl, hb, hd, hl, rfl⟩ ?_
  rintro r' ⟨b', l', he, hb', _, _, rfl⟩
  simp only [List.cons.injEq, V.sl.injEq, and_true, true_and] at he
  obtain ⟨rfl, _⟩ := he
  rw [hb] at hb'
  have : cnts l = cnts l' := by simpa using hb'
  rw [cnts_inj this]
end Go.Proofs
