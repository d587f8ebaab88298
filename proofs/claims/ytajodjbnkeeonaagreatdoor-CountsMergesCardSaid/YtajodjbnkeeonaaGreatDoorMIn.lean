/- Counts that came in, as lists. -/
import Derived.Test.YtajodjbnkeeonaaGreatDoorMB
import Derived.ProofKit
import Derived.Lib.SmallJoins
import Derived.Deep.Slices
import Derived.Deep.Strs
set_option linter.unusedSimpArgs false
set_option linter.unusedVariables false
namespace Go.Proofs
open Go.Ab Go.Cnt

/-- All memory as it stands at the start. -/
def gW (W : World) : G := ⟨fun _ => none, fun c => match W.heap[c]? with | some (.cells arr _ _) => some arr | _ => none⟩
theorem gW_of {W : World} {c : Nat} {arr : Array Value} {t : TypeId} {fr : Nat × Nat} (h : W.heap[c]? = some (.cells arr t fr)) : (gW W).phi c = some arr := by simp only [gW, h]
theorem gW_frz {W : World} : ∀ c arr, (gW W).phi c = some arr → ∃ t fr, W.heap[c]? = some (.cells arr t fr) := by
  intro c arr e
  simp only [gW] at e
  split at e
  · rename_i a t fr h; cases e; exact ⟨t, fr, h⟩
  · cases e
theorem cell_heap {W : World} {a : Addr} {v : Value} (h : W.cell? a = some v) : a.spot = none ∧ ∃ arr t fr, W.heap[a.block]? = some (.cells arr t fr) ∧ arr[a.off]? = some v := by
  unfold World.cell? at h
  split at h
  · rename_i arr t fr hb
    split at h
    · cases h
    · rename_i hs
      refine ⟨?_, arr, t, fr, hb, h⟩
      cases e : a.spot with
      | none => rfl
      | some x => rw [e] at hs; simp at hs
  · cases h

section
variable {H : Type} {enc : TypeId × Value → H} {W : World} {base : Nat} {spare : Nat → Bool} {held : Bool}
theorem cells37 : Tryz.prog.cellsOf 37 = 3 := by kernel_rfl
theorem cells9 : Tryz.prog.cellsOf 9 = 1 := by kernel_rfl
theorem cells3 : Tryz.prog.cellsOf 3 = 1 := by kernel_rfl
theorem list3 {α : Type} {l : List α} (h : l.length = 3) : ∃ a b c, l = [a, b, c] := by
  match l, h with
  | [a, b, c], _ => exact ⟨a, b, c, rfl⟩
/-- One count. -/
theorem ent_of {n : Nat} {cs : List Value} {x : DataW H × List MemPlace} (h : DataW.trod enc Tryz.prog W base spare held n 37 cs = some x) : ∃ (s t : ByteArray) (d : Int), cs = [.string s, .string t, .int .i64 d] := by
  obtain ⟨y0, y1, y2, m, _, hl, h0, h1, h2⟩ := Go.Deep.trod_struct3 Tryz.underlying37 h
  rw [cells37] at hl
  obtain ⟨a, b, c, rfl⟩ := list3 hl
  rw [cells9] at h0 h1
  rw [cells3] at h2
  obtain ⟨s, e0, _, _⟩ := DataW.trod_string Tryz.underlying9 h0
  obtain ⟨t, e1, _, _⟩ := DataW.trod_string Tryz.underlying9 h1
  obtain ⟨d, e2, _, _⟩ := DataW.trod_int Tryz.underlying3 h2
  have e0' : [a] = [Value.string s] := e0
  have e1' : [b] = [Value.string t] := e1
  have e2' : [c] = [Value.int .i64 d] := e2
  cases e0'; cases e1'; cases e2'
  exact ⟨s, t, d, rfl⟩
theorem vrel_str {g : G} (s : ByteArray) : VRel g (.str s.data.toList) (.string s) := .str rfl
theorem cnts_get : ∀ (l : List Ent) (i : Nat) (x : V), (cnts l)[i]? = some x → ∃ (j k : Nat) (e : Ent), l[j]? = some e ∧ i = j * 3 + k ∧ ((k = 0 ∧ x = .str e.1.1) ∨ (k = 1 ∧ x = .str e.1.2) ∨ (k = 2 ∧ x = .int .i64 e.2))
  | [], i, x, h => by simp [cnts_nil] at h
  | e :: l, i, x, h => by
    rw [cnts_cons] at h
    match i with
    | 0 => simp at h; exact ⟨0, 0, e, rfl, rfl, .inl ⟨rfl, h.symm⟩⟩
    | 1 => simp at h; exact ⟨0, 1, e, rfl, rfl, .inr (.inl ⟨rfl, h.symm⟩)⟩
    | 2 => simp at h; exact ⟨0, 2, e, rfl, rfl, .inr (.inr ⟨rfl, h.symm⟩)⟩
    | i + 3 =>
      obtain ⟨j, k, e', h1, h2, h3⟩ := cnts_get l i x (by simpa using h)
      exact ⟨j + 1, k, e', by simpa using h1, by omega, h3⟩

/-- A list of counts. -/
theorem counts_of {n : Nat} {v : Value} {x : DataW H × List MemPlace} (h : DataW.trod enc Tryz.prog W base (fun _ => true) held n 25 [v] = some x) : ∃ l : List Ent, VRel (gW W) (.fs (cnts l) l.length) v := by
  rcases Go.Deep.open_slice Tryz.underlying25 h with ⟨hv, _⟩ | ⟨a, len, cap, m, k, D, Pl, hv, _, hl, _, hm, _, hel⟩
  · cases hv
    exact ⟨[], .fs0 fun _ => rfl⟩
  cases hv
  rw [cells37] at hel
  have hm' : m = cap := by rw [hm]; rfl
  subst hm'
  clear hm
  by_cases h0 : len = 0
  · subst h0
    exact ⟨[], .fs0 fun h => by cases h⟩
  have hell : ∀ i, i < len → ∃ e : Ent, ∃ s t : ByteArray, e = ((s.data.toList, t.data.toList), e.2) ∧ W.cells? base (a.add (i * 3)) 3 = some [.string s, .string t, .int .i64 e.2] := fun i hi => by
    obtain ⟨cs', h1, h2⟩ := hel i (by omega)
    obtain ⟨s, t, d, rfl⟩ := ent_of h2
    exact ⟨((s.data.toList, t.data.toList), d), s, t, rfl, h1⟩
  have h00 := hell 0 (by omega)
  obtain ⟨e0, s0, t0, _, hc0⟩ := h00
  have hc00 := (World.cells?_some hc0).2.2 0 (by omega)
  have ha0 : (a.add (0 * 3)).add 0 = a := rfl
  rw [ha0] at hc00
  obtain ⟨hsp, arr, ty, fr, hb, _⟩ := cell_heap hc00
  obtain ⟨b, off, sp⟩ := a
  simp only at hsp hb
  subst hsp
  have hat : ∀ i, ((⟨b, off, none⟩ : Addr).add i) = ⟨b, off + i, none⟩ := fun i => by
    unfold Addr.add
    split
    · rename_i h; rw [h]; rfl
    · rfl
  have hget : ∀ i, i < len → ∃ e : Ent, ∃ s t : ByteArray, e = ((s.data.toList, t.data.toList), e.2) ∧ arr[off + i * 3]? = some (.string s) ∧ arr[off + i * 3 + 1]? = some (.string t) ∧ arr[off + i * 3 + 2]? = some (.int .i64 e.2) := fun i hi => by
    obtain ⟨e, s, t, he, hc⟩ := hell i hi
    have hcc := (World.cells?_some hc).2.2
    have key : ∀ j, j < 3 → arr[off + i * 3 + j]? = ([.string s, .string t, .int .i64 e.2] : List Value)[j]? := fun j hj => by
      have := hcc j hj
      rw [hat, show (⟨b, off + i * 3, none⟩ : Addr).add j = ⟨b, off + i * 3 + j, none⟩ by unfold Addr.add; split; rename_i h; rw [h]; rfl; rfl] at this
      unfold World.cell? at this
      rw [hb] at this
      exact this
    exact ⟨e, s, t, he, key 0 (by omega), key 1 (by omega), key 2 (by omega)⟩
  let f : Nat → Ent := fun i => if h : i < len then Classical.choose (hget i h) else (([], []), 0)
  have hf : ∀ i, i < len → ∃ s t : ByteArray, f i = ((s.data.toList, t.data.toList), (f i).2) ∧ arr[off + i * 3]? = some (.string s) ∧ arr[off + i * 3 + 1]? = some (.string t) ∧ arr[off + i * 3 + 2]? = some (.int .i64 (f i).2) := fun i hi => by
    have e : f i = Classical.choose (hget i hi) := dif_pos hi
    rw [e]
    exact Classical.choose_spec (hget i hi)
  refine ⟨(List.range len).map f, ?_⟩
  have hlen : ((List.range len).map f).length = len := by simp
  rw [hlen]
  refine VRel.mk_fs (gW_of hb) hl ?_
  intro i x hx
  obtain ⟨j, k, e, h1, h2, h3⟩ := cnts_get _ i x hx
  have hj : j < len := by
    have := (List.getElem?_eq_some_iff.1 h1).1
    rwa [hlen] at this
  have hej : e = f j := by
    rw [List.getElem?_map, List.getElem?_range hj] at h1
    exact (Option.some.inj h1).symm
  subst hej
  obtain ⟨s, t, hs, k0, k1, k2⟩ := hf j hj
  rcases h3 with ⟨rfl, rfl⟩ | ⟨rfl, rfl⟩ | ⟨rfl, rfl⟩
  · refine ⟨_, by show arr[off + i]? = _; rw [h2, ← Nat.add_assoc]; exact k0, ?_⟩
    rw [hs]; exact vrel_str s
  · refine ⟨_, by show arr[off + i]? = _; rw [h2, ← Nat.add_assoc]; exact k1, ?_⟩
    rw [hs]; exact vrel_str t
  · exact ⟨_, by show arr[off + i]? = _; rw [h2, ← Nat.add_assoc]; exact k2, .int _ _⟩

theorem cells27 : Tryz.prog.cellsOf (27 : Nat) = 2 := by kernel_rfl
theorem one27 (fs : Array Field) (h : Tryz.prog.underlying (27 : Nat) = some (.struct fs)) : Go.Deep.oneCellFields Tryz.prog fs = true := by
  rw [Tryz.underlying27] at h
  cases h
  kernel_rfl
set_option maxRecDepth 100000 in
/-- Counts: two lists. -/
theorem both_of {r : Reach} {b0 : Nat} {v : Value} {d : DataW H} {p : List MemPlace} (hv : Value.okWide Tryz.prog W r b0 (27 : Nat) v) (h : DataW.Trod enc Tryz.prog W base (fun _ => true) held (27 : Nat) v d p) :
    ∃ a b : List Ent, VRel (gW W) (.agg [.fs (cnts a) a.length, .fs (cnts b) b.length]) v := by
  have hx := Go.Joins.open_agg2 Tryz.underlying27 (one27 _ Tryz.underlying27) cells27 hv h
  obtain ⟨v0, v1, y0, y1, n, e, _, _, h0, h1⟩ := hx
  subst e
  obtain ⟨a, ha⟩ := counts_of h0
  obtain ⟨b, hb⟩ := counts_of h1
  refine ⟨a, b, VRel.mk_agg rfl fun i x hx => ?_⟩
  match i with
  | 0 => cases hx; exact ⟨v0, rfl, ha⟩
  | 1 => cases hx; exact ⟨v1, rfl, hb⟩
  | i + 2 => simp at hx
end
end Go.Proofs
