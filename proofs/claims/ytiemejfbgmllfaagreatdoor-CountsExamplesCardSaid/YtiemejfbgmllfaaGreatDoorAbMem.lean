/- Memory lemmas: reading and writing rows of cells, for the operations' soundness. -/
import Derived.Test.YtiemejfbgmllfaaGreatDoorAbHeap
import Derived.Laws.Append
import Derived.Laws.AppendOwn
namespace Go.Ab

theorem cell_of {w : World} {c : Nat} {arr : Array Value} {t : TypeId} {fr : Nat × Nat} (h : w.heap[c]? = some (.cells arr t fr)) (i : Nat) :
    w.cell? ⟨c, i, none⟩ = arr[i]? := by simp [World.cell?, h]

theorem add_none (c o n : Nat) : (⟨c, o, none⟩ : Addr).add n = ⟨c, o + n, none⟩ := by
  unfold Addr.add; split <;> simp_all

theorem not_frozen {w : World} {c : Nat} {arr : Array Value} {t : TypeId} (h : w.heap[c]? = some (.cells arr t (0, 0))) (i : Nat) :
    w.frozen? ⟨c, i, none⟩ = false := by simp [World.frozen?, h]

theorem setCell_same {w : World} {c i : Nat} {arr : Array Value} {t : TypeId} {fr : Nat × Nat} (h : w.heap[c]? = some (.cells arr t fr)) (v : Value) :
    (w.setCell ⟨c, i, none⟩ v).heap[c]? = some (.cells (arr.setIfInBounds i v) t fr) := by
  simp [World.setCell, Array.getElem?_modify, h]

theorem setCell_other {w : World} {c i k : Nat} (h : k ≠ c) (v : Value) : (w.setCell ⟨c, i, none⟩ v).heap[k]? = w.heap[k]? := by
  simp only [World.setCell, Array.getElem?_modify]
  rw [if_neg (fun e => h e.symm)]

/-- The world is as it was but for block c. -/
structure Only (c : Nat) (w w' : World) : Prop where
  other : ∀ k, k ≠ c → w'.heap[k]? = w.heap[k]?
  size : w'.heap.size = w.heap.size
  os : w'.os = w.os
  tape : w'.tape = w.tape
  output : w'.output = w.output

theorem Only.refl (c : Nat) (w : World) : Only c w w := ⟨fun _ _ => rfl, rfl, rfl, rfl, rfl⟩
theorem Only.trans {c : Nat} {w w' w'' : World} (h : Only c w w') (k : Only c w' w'') : Only c w w'' :=
  ⟨fun i hi => (k.other i hi).trans (h.other i hi), k.size.trans h.size, k.os.trans h.os, k.tape.trans h.tape, k.output.trans h.output⟩
theorem Only.setCell (w : World) (c i : Nat) (v : Value) : Only c w (w.setCell ⟨c, i, none⟩ v) :=
  ⟨fun _ h => setCell_other h v, by simp [World.setCell], rfl, rfl, rfl⟩

theorem run_storeCells {P : Program} {c o : Nat} {t : TypeId} : ∀ (vs : List Value) (i : Nat) (w : World) (arr : Array Value),
    w.heap[c]? = some (.cells arr t (0, 0)) → (∀ v ∈ vs, v.oneCell' = true) → o + i + vs.length ≤ arr.size →
    ∃ w' arr', (storeCells ⟨c, o, none⟩ vs i).run P w = .ok () w' ∧ w'.heap[c]? = some (.cells arr' t (0, 0)) ∧ arr'.size = arr.size ∧
      (∀ k, arr'[k]? = if o + i ≤ k ∧ k < o + i + vs.length then vs[k - (o + i)]? else arr[k]?) ∧ Only c w w'
  | [], i, w, arr, h, _, _ => ⟨w, arr, rfl, h, rfl, fun k => by rw [if_neg (by simp only [List.length_nil]; omega)], Only.refl _ _⟩
  | v :: vs, i, w, arr, h, h1, hb => by
    simp only [List.length_cons] at hb
    have hlt : o + i < arr.size := by omega
    have hc : w.cell? ⟨c, o + i, none⟩ = some arr[o + i] := by rw [cell_of h]; simp [hlt]
    obtain ⟨w', arr', hr, hh, hs, hk, ho⟩ := run_storeCells (P := P) (o := o) vs (i + 1) (w.setCell ⟨c, o + i, none⟩ v) (arr.setIfInBounds (o + i) v)
      (setCell_same h v) (fun u hu => h1 u (by simp [hu])) (by simp; omega)
    refine ⟨w', arr', ?_, hh, by simpa using hs, fun k => ?_, (Only.setCell w c (o + i) v).trans ho⟩
    · simp only [storeCells, Sem.run_bind, add_none]
      rw [run_store P w _ v .plain (h1 v (by simp)), hc]
      simp only [not_frozen h, Bool.false_eq_true, if_false, Result.andThen_ok, hr]
    · rw [hk k]
      by_cases hk0 : k = o + i
      · subst hk0
        rw [if_neg (by omega), if_pos (by simp)]
        simp [hlt]
      · rw [Array.getElem?_setIfInBounds_ne (by omega)]
        by_cases hk1 : o + (i + 1) ≤ k ∧ k < o + (i + 1) + vs.length
        · rw [if_pos hk1, if_pos (by simp only [List.length_cons]; omega)]
          rw [show k - (o + i) = (k - (o + (i + 1))) + 1 by omega, List.getElem?_cons_succ]
        · rw [if_neg hk1, if_neg (by simp only [List.length_cons]; omega)]

theorem PW.splice {g : G} {cs xs : List V} {get get' : Nat → Option Value} {vs : List Value} {off : Nat} (p : PW g cs get) (q : PW g xs (fun i => vs[i]?)) (hl : vs.length = xs.length)
    (hb : off + xs.length ≤ cs.length) (h : ∀ k, get' k = if off ≤ k ∧ k < off + xs.length then vs[k - off]? else get k) :
    PW g (cs.take off ++ xs ++ cs.drop (off + xs.length)) get' := by
  have e1 : (cs.take off).length = off := by simp; omega
  refine PW.append (PW.append ((p.take off).congr fun i hi => ?_) (q.congr fun i hi => ?_)) ((p.drop (off + xs.length)).congr fun i hi => ?_)
  · rw [h, if_neg (by rw [e1] at hi; omega)]
  · show get' _ = _
    rw [e1, h, if_pos (by omega)]
    congr 1; omega
  · show get' _ = _
    rw [h]
    simp only [List.length_append, e1]
    rw [if_neg (by omega)]

theorem run_loadCells_at {P : Program} {w : World} {c o n : Nat} {arr : Array Value} {t : TypeId} {fr : Nat × Nat} (h : w.heap[c]? = some (.cells arr t fr)) (hb : o + n ≤ arr.size) :
    (loadCells ⟨c, o, none⟩ n).run P w = .ok (arr.extract o (o + n)) w := by
  have e : (arr.extract o (o + n)).toList.length = n := by simp; omega
  have := run_loadCells_list (P := P) w ⟨c, o, none⟩ (arr.extract o (o + n)).toList (fun j v hj => by
    rw [add_none, cell_of h]
    have hj' : (arr.extract o (o + n))[j]? = some v := by rw [← Array.getElem?_toList]; exact hj
    rw [Array.getElem?_extract] at hj'
    split at hj'
    · exact hj'
    · cases hj')
  rw [e] at this
  exact this

theorem PW.extract {g : G} {l : List V} {arr : Array Value} {o n : Nat} (p : PW g l (fun i => arr[o + i]?)) (hl : l.length = n) :
    PW g l (fun i => (arr.extract o (o + n))[i]?) := by
  intro i x hx
  obtain ⟨v, hv, r⟩ := p i x hx
  have hi : i < l.length := by by_cases h : i < l.length; exact h; simp [List.getElem?_eq_none (Nat.le_of_not_lt h)] at hx
  have hlt : o + i < arr.size := by
    by_cases h : o + i < arr.size
    · exact h
    · have hv' : arr[o + i]? = some v := hv
      rw [Array.getElem?_eq_none (Nat.le_of_not_lt h)] at hv'; cases hv'
  refine ⟨v, ?_, r⟩
  show (arr.extract o (o + n))[i]? = some v
  rw [Array.getElem?_extract, if_pos (by omega)]
  exact hv

theorem PW.size {g : G} {l : List V} {arr : Array Value} {o : Nat} (p : PW g l (fun i => arr[o + i]?)) (h0 : l ≠ []) : o + l.length ≤ arr.size := by
  have hpos : 0 < l.length := List.length_pos_iff.2 h0
  obtain ⟨v, hv, _⟩ := p (l.length - 1) l[l.length - 1] (by simp)
  have hv' : arr[o + (l.length - 1)]? = some v := hv
  by_cases h : o + (l.length - 1) < arr.size
  · omega
  · rw [Array.getElem?_eq_none (Nat.le_of_not_lt h)] at hv'; cases hv'

end Go.Ab
