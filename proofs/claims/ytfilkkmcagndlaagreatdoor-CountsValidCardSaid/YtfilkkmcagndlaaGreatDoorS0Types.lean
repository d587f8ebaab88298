/- The types of this seat's translation: closed facts (laid by program). -/
import Derived.Test.YtfilkkmcagndlaaGreatDoorChecked
import Derived.Test.YtfilkkmcagndlaaGreatDoorAbRules
import Derived.KernelRfl
import Derived.ProofKit
import Derived.Lib.SmallJoins
import Derived.Deep.Slices
import Derived.Deep.Strs
import Derived.Handed
set_option linter.unusedSimpArgs false
set_option linter.unusedVariables false
set_option linter.all false
namespace Go.Proofs
open Go.Ab
theorem Tryz.agg3 : aggT Tryz.prog 3 = some false := by kernel_rfl
theorem Tryz.size3 : sizeT Tryz.prog 3 = some 1 := by kernel_rfl
theorem Tryz.agg4 : aggT Tryz.prog 4 = some false := by kernel_rfl
theorem Tryz.size4 : sizeT Tryz.prog 4 = some 1 := by kernel_rfl
theorem Tryz.agg5 : aggT Tryz.prog 5 = some false := by kernel_rfl
theorem Tryz.size5 : sizeT Tryz.prog 5 = some 1 := by kernel_rfl
theorem Tryz.agg9 : aggT Tryz.prog 9 = some false := by kernel_rfl
theorem Tryz.size9 : sizeT Tryz.prog 9 = some 1 := by kernel_rfl
theorem Tryz.zero9 : zeroT Tryz.prog 9 = some (.string ⟨([] : List UInt8).toArray⟩) := by kernel_rfl
theorem Tryz.agg22 : aggT Tryz.prog 22 = some false := by kernel_rfl
theorem Tryz.size22 : sizeT Tryz.prog 22 = some 1 := by kernel_rfl
theorem Tryz.elem22 : elemS Tryz.prog 22 = some 3 := by kernel_rfl
theorem Tryz.agg24 : aggT Tryz.prog 24 = some true := by kernel_rfl
theorem Tryz.size24 : sizeT Tryz.prog 24 = some 2 := by kernel_rfl
theorem Tryz.field24_0 : fieldT Tryz.prog 24 0 = some (0, false, 1) := by kernel_rfl
theorem Tryz.field24_1 : fieldT Tryz.prog 24 1 = some (1, false, 1) := by kernel_rfl
theorem Tryz.agg25 : aggT Tryz.prog 25 = some false := by kernel_rfl
theorem Tryz.size25 : sizeT Tryz.prog 25 = some 1 := by kernel_rfl
theorem Tryz.row25 : rowE Tryz.prog 25 = (false, 9) := by kernel_rfl
theorem Tryz.elem25 : elemS Tryz.prog 25 = some 1 := by kernel_rfl
theorem Tryz.app25 : appT Tryz.prog 25 = some (1, 16, true) := by kernel_rfl
theorem Tryz.agg26 : aggT Tryz.prog 26 = some false := by kernel_rfl
theorem Tryz.size26 : sizeT Tryz.prog 26 = some 1 := by kernel_rfl
theorem Tryz.elem26 : elemS Tryz.prog 26 = some 1 := by kernel_rfl
theorem Tryz.bld26 : buildT Tryz.prog 26 = some (1, (.slice none 0 0)) := by kernel_rfl
theorem Tryz.agg28 : aggT Tryz.prog 28 = some true := by kernel_rfl
theorem Tryz.size28 : sizeT Tryz.prog 28 = some 4 := by kernel_rfl
theorem Tryz.field28_0 : fieldT Tryz.prog 28 0 = some (0, false, 1) := by kernel_rfl
theorem Tryz.field28_1 : fieldT Tryz.prog 28 1 = some (1, false, 1) := by kernel_rfl
theorem Tryz.field28_2 : fieldT Tryz.prog 28 2 = some (2, false, 1) := by kernel_rfl
theorem Tryz.field28_3 : fieldT Tryz.prog 28 3 = some (3, false, 1) := by kernel_rfl
theorem Tryz.elem39 : elemS Tryz.prog 39 = some 1 := by kernel_rfl
theorem Tryz.bld39 : buildT Tryz.prog 39 = some (1, (.slice none 0 0)) := by kernel_rfl
theorem Tryz.elem42 : elemS Tryz.prog 42 = some 1 := by kernel_rfl
theorem Tryz.bld42 : buildT Tryz.prog 42 = some (1, (.slice none 0 0)) := by kernel_rfl
theorem Tryz.agg44 : aggT Tryz.prog 44 = some true := by kernel_rfl
theorem Tryz.size44 : sizeT Tryz.prog 44 = some 3 := by kernel_rfl
theorem Tryz.zero44 : zeroT Tryz.prog 44 = some (.agg ([(.string ⟨([] : List UInt8).toArray⟩), (.string ⟨([] : List UInt8).toArray⟩), (.int .i64 0)] : List Value).toArray) := by kernel_rfl
theorem Tryz.self44 : selfT Tryz.prog 44 = false := by kernel_rfl
theorem Tryz.field44_0 : fieldT Tryz.prog 44 0 = some (0, false, 1) := by kernel_rfl
theorem Tryz.field44_1 : fieldT Tryz.prog 44 1 = some (1, false, 1) := by kernel_rfl
theorem Tryz.field44_2 : fieldT Tryz.prog 44 2 = some (2, false, 1) := by kernel_rfl
theorem Tryz.agg87 : aggT Tryz.prog 87 = some true := by kernel_rfl
theorem Tryz.size87 : sizeT Tryz.prog 87 = some 3 := by kernel_rfl
theorem Tryz.zero87 : zeroT Tryz.prog 87 = some (.agg ([(.bool false), (.string ⟨([] : List UInt8).toArray⟩), (.string ⟨([] : List UInt8).toArray⟩)] : List Value).toArray) := by kernel_rfl
theorem Tryz.self87 : selfT Tryz.prog 87 = false := by kernel_rfl
theorem Tryz.places87 : placesT Tryz.prog 87 = some [(0, 1), (1, 1), (2, 1)] := by kernel_rfl
theorem Tryz.field87_0 : fieldT Tryz.prog 87 0 = some (0, false, 1) := by kernel_rfl
theorem Tryz.field87_1 : fieldT Tryz.prog 87 1 = some (1, false, 1) := by kernel_rfl
theorem Tryz.field87_2 : fieldT Tryz.prog 87 2 = some (2, false, 1) := by kernel_rfl
theorem Tryz.row94 : rowE Tryz.prog 94 = (false, 3) := by kernel_rfl
theorem Tryz.elem94 : elemS Tryz.prog 94 = some 1 := by kernel_rfl
theorem Tryz.app94 : appT Tryz.prog 94 = some (1, 8, true) := by kernel_rfl
theorem Tryz.bld94 : buildT Tryz.prog 94 = some (1, (.int .i64 0)) := by kernel_rfl
theorem Tryz.zeroE94 : zeroE Tryz.prog 94 = some (.int .i64 0) := by kernel_rfl
theorem Tryz.row106 : rowE Tryz.prog 106 = (false, 108) := by kernel_rfl
theorem Tryz.elem106 : elemS Tryz.prog 106 = some 1 := by kernel_rfl
theorem Tryz.app106 : appT Tryz.prog 106 = some (1, 8, true) := by kernel_rfl
theorem Tryz.bld106 : buildT Tryz.prog 106 = some (1, (.int .u64 0)) := by kernel_rfl
theorem Tryz.zeroE106 : zeroE Tryz.prog 106 = some (.int .u64 0) := by kernel_rfl
theorem Tryz.agg108 : aggT Tryz.prog 108 = some false := by kernel_rfl
theorem Tryz.size108 : sizeT Tryz.prog 108 = some 1 := by kernel_rfl
theorem Tryz.agg118 : aggT Tryz.prog 118 = some false := by kernel_rfl
theorem Tryz.size118 : sizeT Tryz.prog 118 = some 1 := by kernel_rfl
theorem Tryz.row118 : rowE Tryz.prog 118 = (true, 5) := by kernel_rfl
theorem Tryz.elem118 : elemS Tryz.prog 118 = some 1 := by kernel_rfl
theorem Tryz.app118 : appT Tryz.prog 118 = some (1, 1, true) := by kernel_rfl
theorem Tryz.bld118 : buildT Tryz.prog 118 = some (1, (.int .u8 0)) := by kernel_rfl
theorem Tryz.agg152 : aggT Tryz.prog 152 = some false := by kernel_rfl
theorem Tryz.size152 : sizeT Tryz.prog 152 = some 1 := by kernel_rfl
theorem Tryz.zero154 : zeroT Tryz.prog 154 = some (.agg ([(.pointer none), (.slice none 0 0)] : List Value).toArray) := by kernel_rfl
theorem Tryz.self154 : selfT Tryz.prog 154 = true := by kernel_rfl
theorem Tryz.field154_0 : fieldT Tryz.prog 154 0 = some (0, false, 1) := by kernel_rfl
theorem Tryz.field154_1 : fieldT Tryz.prog 154 1 = some (1, false, 1) := by kernel_rfl
attribute [go_sem] Tryz.underlying2 Tryz.agg3 Tryz.size3 Tryz.underlying3 Tryz.agg4 Tryz.size4 Tryz.underlying4 Tryz.agg5 Tryz.size5 Tryz.underlying5 Tryz.agg9 Tryz.size9 Tryz.zero9 Tryz.underlying9 Tryz.underlying20 Tryz.agg22 Tryz.size22 Tryz.underlying22 Tryz.elem22 Tryz.agg24 Tryz.size24 Tryz.underlying24 Tryz.field24_0 Tryz.field24_1 Tryz.agg25 Tryz.size25 Tryz.underlying25 Tryz.row25 Tryz.elem25 Tryz.app25 Tryz.agg26 Tryz.size26 Tryz.underlying26 Tryz.elem26 Tryz.bld26 Tryz.agg28 Tryz.size28 Tryz.underlying28 Tryz.field28_0 Tryz.field28_1 Tryz.field28_2 Tryz.field28_3 Tryz.underlying34 Tryz.underlying39 Tryz.elem39 Tryz.bld39 Tryz.underlying42 Tryz.elem42 Tryz.bld42 Tryz.agg44 Tryz.size44 Tryz.zero44 Tryz.underlying44 Tryz.self44 Tryz.field44_0 Tryz.field44_1 Tryz.field44_2 Tryz.underlying47 Tryz.underlying53 Tryz.underlying56 Tryz.underlying61 Tryz.underlying62 Tryz.underlying64 Tryz.underlying77 Tryz.underlying79 Tryz.underlying81 Tryz.underlying84 Tryz.agg87 Tryz.size87 Tryz.zero87 Tryz.underlying87 Tryz.self87 Tryz.places87 Tryz.field87_0 Tryz.field87_1 Tryz.field87_2 Tryz.underlying94 Tryz.row94 Tryz.elem94 Tryz.app94 Tryz.bld94 Tryz.zeroE94 Tryz.underlying105 Tryz.underlying106 Tryz.row106 Tryz.elem106 Tryz.app106 Tryz.bld106 Tryz.zeroE106 Tryz.agg108 Tryz.size108 Tryz.underlying108 Tryz.underlying114 Tryz.underlying117 Tryz.agg118 Tryz.size118 Tryz.underlying118 Tryz.row118 Tryz.elem118 Tryz.app118 Tryz.bld118 Tryz.underlying140 Tryz.underlying143 Tryz.agg152 Tryz.size152 Tryz.underlying152 Tryz.zero154 Tryz.underlying154 Tryz.self154 Tryz.field154_0 Tryz.field154_1 Tryz.underlying157 Tryz.underlying163 Tryz.underlying173 Tryz.underlying184 Tryz.underlying192 Tryz.underlying193 Tryz.underlying197
end Go.Proofs

/- Lists of counts as cells. -/
namespace Go.Ab
open Go.Cnt
def entV (e : Ent) : List V := [.str e.1.1, .str e.1.2, .int .i64 e.2]
theorem entV_inj {x y : Ent} (h : entV x = entV y) : x = y := by
  obtain ⟨⟨a, b⟩, n⟩ := x
  obtain ⟨⟨c, d⟩, m⟩ := y
  simp [entV] at h
  obtain ⟨rfl, rfl, rfl⟩ := h
  rfl
def cnts (l : List Ent) : List V := l.flatMap entV
def nthE (l : List Ent) (i : Nat) : Ent := l.getD i (([], []), 0)
theorem cnts_nil : cnts [] = [] := rfl
theorem cnts_cons (e : Ent) (l : List Ent) : cnts (e :: l) = .str e.1.1 :: .str e.1.2 :: .int .i64 e.2 :: cnts l := rfl
theorem len_cnts : ∀ l : List Ent, (cnts l).length = l.length * 3
  | [] => rfl
  | e :: l => by rw [cnts_cons]; simp only [List.length_cons]; rw [len_cnts l]; omega
theorem cnts_drop : ∀ (l : List Ent) (i : Nat), (cnts l).drop (i * 3) = cnts (l.drop i)
  | l, 0 => by simp
  | [], i + 1 => by simp [cnts_nil]
  | e :: l, i + 1 => by
    rw [cnts_cons, show (i + 1) * 3 = i * 3 + 1 + 1 + 1 by omega]
    simp only [List.drop_succ_cons]
    exact cnts_drop l i
theorem drop_nthE : ∀ (l : List Ent) (i : Nat), i < l.length → l.drop i = nthE l i :: l.drop (i + 1)
  | [], _, h => by simp at h
  | e :: l, 0, _ => rfl
  | e :: l, i + 1, h => by
    have := drop_nthE l i (by simpa using h)
    simpa [nthE] using this
theorem cnts_at (l : List Ent) (i : Nat) (h : i < l.length) : (cnts l).drop (i * 3) = .str (nthE l i).1.1 :: .str (nthE l i).1.2 :: .int .i64 (nthE l i).2 :: cnts (l.drop (i + 1)) := by
  rw [cnts_drop, drop_nthE l i h, cnts_cons]
theorem pure_cnts : ∀ l : List Ent, ∀ x ∈ cnts l, Pure x
  | [], _, h => by cases h
  | e :: l, x, h => by
    rw [cnts_cons] at h
    simp only [List.mem_cons] at h
    rcases h with rfl | rfl | rfl | h
    · exact .str _
    · exact .str _
    · exact .int _ _
    · exact pure_cnts l x h
theorem pure_cntsP (l : List Ent) : (∀ x ∈ cnts l, Pure x) ↔ True := ⟨fun _ => trivial, fun _ => pure_cnts l⟩
theorem cnts_inj : ∀ {l r : List Ent}, cnts l = cnts r → l = r
  | [], [], _ => rfl
  | [], e :: r, h => by rw [cnts_cons] at h; cases h
  | e :: l, [], h => by rw [cnts_cons] at h; cases h
  | e :: l, e' :: r, h => by
    rw [cnts_cons, cnts_cons] at h
    simp only [List.cons.injEq, V.str.injEq, V.int.injEq, true_and] at h
    obtain ⟨h1, h2, h3, h4⟩ := h
    rw [cnts_inj h4]
    congr 1
    exact Prod.ext (Prod.ext h1 h2) h3
attribute [go_sem] pure_cntsP len_cnts
attribute [go_sem] List.map_cons List.map_nil List.all_cons List.all_nil
end Go.Ab

/- Each function of the translation can be called (laid by program). -/
namespace Go.Proofs
open Go.Ab
theorem mixed : Tryz.prog.follows .mixedOrders = true := by kernel_rfl
theorem call3 : Callable Tryz.prog 3 := fun a w => by kernel_rfl
theorem call6 : Callable Tryz.prog 6 := fun a w => by kernel_rfl
theorem call7 : Callable Tryz.prog 7 := fun a w => by kernel_rfl
theorem call9 : Callable Tryz.prog 9 := fun a w => by kernel_rfl
theorem call10 : Callable Tryz.prog 10 := fun a w => by kernel_rfl
theorem call11 : Callable Tryz.prog 11 := fun a w => by kernel_rfl
theorem call12 : Callable Tryz.prog 12 := fun a w => by kernel_rfl
theorem call22 : Callable Tryz.prog 22 := fun a w => by kernel_rfl
theorem call23 : Callable Tryz.prog 23 := fun a w => by kernel_rfl
theorem call24 : Callable Tryz.prog 24 := fun a w => by kernel_rfl
theorem call25 : Callable Tryz.prog 25 := fun a w => by kernel_rfl
theorem call26 : Callable Tryz.prog 26 := fun a w => by kernel_rfl
theorem call27 : Callable Tryz.prog 27 := fun a w => by kernel_rfl
theorem call29 : Callable Tryz.prog 29 := fun a w => by kernel_rfl
theorem call30 : Callable Tryz.prog 30 := fun a w => by kernel_rfl
theorem call31 : Callable Tryz.prog 31 := fun a w => by kernel_rfl
theorem call32 : Callable Tryz.prog 32 := fun a w => by kernel_rfl
theorem call33 : Callable Tryz.prog 33 := fun a w => by kernel_rfl
theorem call38 : Callable Tryz.prog 38 := fun a w => by kernel_rfl
theorem call42 : Callable Tryz.prog 42 := fun a w => by kernel_rfl
theorem call43 : Callable Tryz.prog 43 := fun a w => by kernel_rfl
theorem call44 : Callable Tryz.prog 44 := fun a w => by kernel_rfl
theorem call47 : Callable Tryz.prog 47 := fun a w => by kernel_rfl
theorem call48 : Callable Tryz.prog 48 := fun a w => by kernel_rfl
theorem call49 : Callable Tryz.prog 49 := fun a w => by kernel_rfl
theorem call50 : Callable Tryz.prog 50 := fun a w => by kernel_rfl
theorem call51 : Callable Tryz.prog 51 := fun a w => by kernel_rfl
theorem call53 : Callable Tryz.prog 53 := fun a w => by kernel_rfl
theorem call54 : Callable Tryz.prog 54 := fun a w => by kernel_rfl
theorem call55 : Callable Tryz.prog 55 := fun a w => by kernel_rfl
theorem call56 : Callable Tryz.prog 56 := fun a w => by kernel_rfl
theorem call57 : Callable Tryz.prog 57 := fun a w => by kernel_rfl
theorem call58 : Callable Tryz.prog 58 := fun a w => by kernel_rfl
theorem call70 : Callable Tryz.prog 70 := fun a w => by kernel_rfl
theorem call71 : Callable Tryz.prog 71 := fun a w => by kernel_rfl
theorem call72 : Callable Tryz.prog 72 := fun a w => by kernel_rfl
theorem call73 : Callable Tryz.prog 73 := fun a w => by kernel_rfl
theorem call74 : Callable Tryz.prog 74 := fun a w => by kernel_rfl
theorem call75 : Callable Tryz.prog 75 := fun a w => by kernel_rfl
theorem call76 : Callable Tryz.prog 76 := fun a w => by kernel_rfl
theorem call77 : Callable Tryz.prog 77 := fun a w => by kernel_rfl
theorem call78 : Callable Tryz.prog 78 := fun a w => by kernel_rfl
theorem call80 : Callable Tryz.prog 80 := fun a w => by kernel_rfl
theorem call81 : Callable Tryz.prog 81 := fun a w => by kernel_rfl
theorem call82 : Callable Tryz.prog 82 := fun a w => by kernel_rfl
theorem call83 : Callable Tryz.prog 83 := fun a w => by kernel_rfl
theorem call84 : Callable Tryz.prog 84 := fun a w => by kernel_rfl
theorem call85 : Callable Tryz.prog 85 := fun a w => by kernel_rfl
theorem call86 : Callable Tryz.prog 86 := fun a w => by kernel_rfl
theorem call87 : Callable Tryz.prog 87 := fun a w => by kernel_rfl
theorem call88 : Callable Tryz.prog 88 := fun a w => by kernel_rfl
theorem call89 : Callable Tryz.prog 89 := fun a w => by kernel_rfl
theorem call90 : Callable Tryz.prog 90 := fun a w => by kernel_rfl
theorem call100 : Callable Tryz.prog 100 := fun a w => by kernel_rfl
theorem call101 : Callable Tryz.prog 101 := fun a w => by kernel_rfl
theorem call102 : Callable Tryz.prog 102 := fun a w => by kernel_rfl
theorem call103 : Callable Tryz.prog 103 := fun a w => by kernel_rfl
theorem call104 : Callable Tryz.prog 104 := fun a w => by kernel_rfl
theorem call105 : Callable Tryz.prog 105 := fun a w => by kernel_rfl
theorem call107 : Callable Tryz.prog 107 := fun a w => by kernel_rfl
theorem call108 : Callable Tryz.prog 108 := fun a w => by kernel_rfl
theorem call109 : Callable Tryz.prog 109 := fun a w => by kernel_rfl
theorem call110 : Callable Tryz.prog 110 := fun a w => by kernel_rfl
theorem call111 : Callable Tryz.prog 111 := fun a w => by kernel_rfl
theorem call112 : Callable Tryz.prog 112 := fun a w => by kernel_rfl
theorem call113 : Callable Tryz.prog 113 := fun a w => by kernel_rfl
theorem call137 : Callable Tryz.prog 137 := fun a w => by kernel_rfl
theorem call138 : Callable Tryz.prog 138 := fun a w => by kernel_rfl
theorem call139 : Callable Tryz.prog 139 := fun a w => by kernel_rfl
theorem call140 : Callable Tryz.prog 140 := fun a w => by kernel_rfl
theorem call141 : Callable Tryz.prog 141 := fun a w => by kernel_rfl
theorem call142 : Callable Tryz.prog 142 := fun a w => by kernel_rfl
theorem call143 : Callable Tryz.prog 143 := fun a w => by kernel_rfl
theorem call144 : Callable Tryz.prog 144 := fun a w => by kernel_rfl
theorem call145 : Callable Tryz.prog 145 := fun a w => by kernel_rfl
theorem call146 : Callable Tryz.prog 146 := fun a w => by kernel_rfl
theorem call147 : Callable Tryz.prog 147 := fun a w => by kernel_rfl
theorem call148 : Callable Tryz.prog 148 := fun a w => by kernel_rfl
theorem call149 : Callable Tryz.prog 149 := fun a w => by kernel_rfl
theorem call155 : Callable Tryz.prog 155 := fun a w => by kernel_rfl
theorem call156 : Callable Tryz.prog 156 := fun a w => by kernel_rfl
theorem call157 : Callable Tryz.prog 157 := fun a w => by kernel_rfl
theorem call158 : Callable Tryz.prog 158 := fun a w => by kernel_rfl
theorem call159 : Callable Tryz.prog 159 := fun a w => by kernel_rfl
theorem call160 : Callable Tryz.prog 160 := fun a w => by kernel_rfl
theorem call165 : Callable Tryz.prog 165 := fun a w => by kernel_rfl
theorem call169 : Callable Tryz.prog 169 := fun a w => by kernel_rfl
theorem call170 : Callable Tryz.prog 170 := fun a w => by kernel_rfl
theorem call171 : Callable Tryz.prog 171 := fun a w => by kernel_rfl
theorem call173 : Callable Tryz.prog 173 := fun a w => by kernel_rfl
theorem call176 : Callable Tryz.prog 176 := fun a w => by kernel_rfl
theorem call177 : Callable Tryz.prog 177 := fun a w => by kernel_rfl
end Go.Proofs

/- Lists of things of several cells each, as cells. -/
namespace Go.Ab
structure Row (α : Type) where
  enc : α → List V
  n : Nat
  dflt : α
  len : ∀ a, (enc a).length = n
  pos : 0 < n
  pure : ∀ a, ∀ x ∈ enc a, Pure x
  one : ∀ a, (enc a).all V.one = true
  inj : ∀ a b, enc a = enc b → a = b
namespace Row
variable {α : Type} (R : Row α)
def cells (l : List α) : List V := l.flatMap R.enc
def nth (l : List α) (i : Nat) : α := l.getD i R.dflt
theorem cells_nil : R.cells [] = [] := rfl
theorem cells_cons (e : α) (l : List α) : R.cells (e :: l) = R.enc e ++ R.cells l := rfl
theorem len_cells : ∀ l : List α, (R.cells l).length = l.length * R.n
  | [] => by simp [cells]
  | e :: l => by rw [cells_cons, List.length_append, R.len, len_cells l, List.length_cons, Nat.add_mul, Nat.one_mul, Nat.add_comm]
theorem cells_drop : ∀ (l : List α) (i : Nat), (R.cells l).drop (i * R.n) = R.cells (l.drop i)
  | l, 0 => by simp
  | [], i + 1 => by simp [cells_nil]
  | e :: l, i + 1 => by
    rw [cells_cons, Nat.add_mul, Nat.one_mul, Nat.add_comm, ← List.drop_drop, show R.n = (R.enc e).length by rw [R.len], List.drop_left, R.len]
    exact cells_drop l i
theorem drop_nth : ∀ (l : List α) (i : Nat), i < l.length → l.drop i = R.nth l i :: l.drop (i + 1)
  | [], _, h => by simp at h
  | e :: l, 0, _ => rfl
  | e :: l, i + 1, h => by
    have := drop_nth l i (by simpa using h)
    simpa [nth] using this
theorem nth_mem {l : List α} {i : Nat} (h : i < l.length) : R.nth l i ∈ l := by
  unfold nth
  rw [List.getD_eq_getElem?_getD, List.getElem?_eq_getElem h]
  exact List.getElem_mem h
theorem at_ (l : List α) (i : Nat) (h : i < l.length) : (R.cells l).drop (i * R.n) = R.enc (R.nth l i) ++ R.cells (l.drop (i + 1)) := by
  rw [cells_drop, R.drop_nth l i h, cells_cons]
theorem pure_cells (l : List α) : ∀ x ∈ R.cells l, Pure x := fun x h => by
  obtain ⟨a, _, h⟩ := List.mem_flatMap.1 h
  exact R.pure a x h
theorem pure_cellsP (l : List α) : (∀ x ∈ R.cells l, Pure x) ↔ True := ⟨fun _ => trivial, fun _ => R.pure_cells l⟩
theorem one_cells (l : List α) : (R.cells l).all V.one = true := List.all_eq_true.2 fun x h => by
  obtain ⟨a, _, h⟩ := List.mem_flatMap.1 h
  exact List.all_eq_true.1 (R.one a) x h
theorem cells_inj : ∀ {l r : List α}, R.cells l = R.cells r → l = r
  | [], [], _ => rfl
  | [], e :: r, h => by
    have := congrArg List.length h
    rw [len_cells, len_cells, List.length_cons, Nat.add_mul] at this
    have := R.pos
    simp at *; omega
  | e :: l, [], h => by
    have := congrArg List.length h
    rw [len_cells, len_cells, List.length_cons, Nat.add_mul] at this
    have := R.pos
    simp at *; omega
  | e :: l, e' :: r, h => by
    rw [cells_cons, cells_cons] at h
    obtain ⟨h1, h2⟩ := List.append_inj h (by rw [R.len, R.len])
    rw [R.inj _ _ h1, cells_inj h2]
theorem all_t {p : α → Bool} {l : List α} (h : ∀ i, i < l.length → p (R.nth l i) = true) : l.all p = true := by
  refine List.all_eq_true.2 fun x hx => ?_
  obtain ⟨i, hi, rfl⟩ := List.mem_iff_getElem.1 hx
  have := h i hi
  unfold nth at this
  rwa [List.getD_eq_getElem?_getD, List.getElem?_eq_getElem hi] at this
theorem all_f {p : α → Bool} {l : List α} {i : Nat} (hi : i < l.length) (h : p (R.nth l i) = false) : l.all p = false := by
  cases e : l.all p with
  | false => rfl
  | true => rw [List.all_eq_true.1 e _ (R.nth_mem hi)] at h; cases h
end Row
end Go.Ab

/- What came in, as abstract values: types read as data, one combinator a kind. -/
namespace Go.Ab
def gW (W : World) : G := ⟨fun _ => none, fun c => match W.heap[c]? with | some (.cells arr _ _) => some arr | _ => none⟩
theorem gW_of {W : World} {c : Nat} {arr : Array Value} {t : TypeId} {fr : Nat × Nat} (h : W.heap[c]? = some (.cells arr t fr)) : (gW W).phi c = some arr := by simp only [gW, h]
theorem gW_frz {W : World} : ∀ c arr, (gW W).phi c = some arr → ∃ t fr, W.heap[c]? = some (.cells arr t fr) := by
  intro c arr e
  simp only [gW] at e
  split at e
  · rename_i a t fr h; cases e; exact ⟨t, fr, h⟩
  · cases e
theorem cell_heap {W : World} {a : Addr} {v : Value} (h : W.cell? a = some v) : a.spot = none ∧ ∃ arr t fr, W.heap[a.block]? = some (.cells arr t fr) ∧ arr[a.off]? = some v := by
  unfold World.cell? at h
  split at h
  · rename_i arr t fr hb
    split at h
    · cases h
    · rename_i hs
      refine ⟨?_, arr, t, fr, hb, h⟩
      cases e : a.spot with
      | none => rfl
      | some x => rw [e] at hs; simp at hs
  · cases h
def strR : Row (List UInt8) where
  enc s := [.str s]
  n := 1
  dflt := []
  len _ := rfl
  pos := by decide
  pure a x h := by
    simp only [List.mem_cons, List.not_mem_nil, or_false] at h
    subst h; exact .str _
  one _ := rfl
  inj a b h := by simpa using h
def intR (k : IntKind) : Row Int where
  enc s := [.int k s]
  n := 1
  dflt := 0
  len _ := rfl
  pos := by decide
  pure a x h := by
    simp only [List.mem_cons, List.not_mem_nil, or_false] at h
    subst h; exact .int _ _
  one _ := rfl
  inj a b h := by simpa using h
def boolR : Row Bool where
  enc s := [.bool s]
  n := 1
  dflt := false
  len _ := rfl
  pos := by decide
  pure a x h := by
    simp only [List.mem_cons, List.not_mem_nil, or_false] at h
    subst h; exact .bool _
  one _ := rfl
  inj a b h := by simpa using h
def slR {α : Type} (R : Row α) : Row (List α) where
  enc l := [.fs (R.cells l) l.length]
  n := 1
  dflt := []
  len _ := rfl
  pos := by decide
  pure a x h := by
    simp only [List.mem_cons, List.not_mem_nil, or_false] at h
    subst h; exact .fs (R.pure_cells a)
  one _ := rfl
  inj a b h := by
    simp only [List.cons.injEq, V.fs.injEq, and_true] at h
    exact R.cells_inj h.1
def pairR {α β : Type} (R : Row α) (S : Row β) : Row (α × β) where
  enc p := R.enc p.1 ++ S.enc p.2
  n := R.n + S.n
  dflt := (R.dflt, S.dflt)
  len a := by rw [List.length_append, R.len, S.len]
  pos := by have := R.pos; omega
  pure a x h := (List.mem_append.1 h).elim (R.pure _ x) (S.pure _ x)
  one a := by rw [List.all_append, R.one, S.one]; rfl
  inj a b h := by
    obtain ⟨h1, h2⟩ := List.append_inj h (by rw [R.len, R.len])
    exact Prod.ext (R.inj _ _ h1) (S.inj _ _ h2)
def CR (W : World) (l : List V) (cs : List Value) : Prop := cs.length = l.length ∧ ∀ (k : Nat) (y : V), l[k]? = some y → ∃ v, cs[k]? = some v ∧ VRel (gW W) y v
theorem CR.one {W : World} {y : V} {v : Value} (h : VRel (gW W) y v) : CR W [y] [v] := ⟨rfl, fun k x e => by
  match k with
  | 0 => cases e; exact ⟨v, rfl, h⟩
  | k + 1 => simp at e⟩
theorem CR.app {W : World} {l r : List V} {cs : List Value} {n m : Nat} (hl : l.length = n) (hr : r.length = m) (hc : cs.length = n + m) (h : CR W l ((cs.drop 0).take n)) (k : CR W r ((cs.drop n).take m)) : CR W (l ++ r) cs := by
  refine ⟨by rw [List.length_append]; omega, fun i y e => ?_⟩
  by_cases hi : i < l.length
  · rw [List.getElem?_append_left hi] at e
    obtain ⟨v, h1, h2⟩ := h.2 i y e
    rw [List.drop_zero, List.getElem?_take, if_pos (by omega)] at h1
    exact ⟨v, h1, h2⟩
  · rw [List.getElem?_append_right (by omega)] at e
    obtain ⟨v, h1, h2⟩ := k.2 _ y e
    have hlt := (List.getElem?_eq_some_iff.1 h1).1
    rw [List.length_take] at hlt
    rw [List.getElem?_take, if_pos (by omega), List.getElem?_drop] at h1
    rw [show n + (i - l.length) = i by omega] at h1
    exact ⟨v, h1, h2⟩
structure Dec (P : Program) (t : TypeId) {α : Type} (R : Row α) (ok : α → Prop) : Prop where
  n : P.cellsOf t = R.n
  dec : ∀ {H : Type} {enc : TypeId × Value → H} {W : World} {base : Nat} {held : Bool} {fuel : Nat} {cs : List Value} {x : DataW H × List MemPlace},
    DataW.trod enc P W base (fun _ => true) held fuel t cs = some x → (∀ n ∈ x.1.weights P t, n ≤ reachBytes) → ∃ a, ok a ∧ CR W (R.enc a) cs
variable {P : Program}
theorem Dec.str {t : TypeId} (ht : P.underlying t = some .string) (hc : P.cellsOf t = 1) : Dec P t strR (fun s => s.length ≤ reachBytes) := ⟨hc, fun h hw => by
  obtain ⟨s, e, ex, _⟩ := DataW.trod_string ht h
  subst e
  rw [ex] at hw
  refine ⟨s.data.toList, hw _ ?_, CR.one (.str rfl)⟩
  simp [DataW.weights]⟩
theorem Dec.int {t : TypeId} {k : IntKind} (ht : P.underlying t = some (.int k)) (hc : P.cellsOf t = 1) : Dec P t (intR k) (fun n => (Lit.int k n).wf = true) := ⟨hc, fun h _ => by
  obtain ⟨n, e, ex, hw⟩ := DataW.trod_int ht h
  subst e
  exact ⟨n, hw, CR.one (.int _ _)⟩⟩
theorem Dec.bool {t : TypeId} (ht : P.underlying t = some .bool) (hc : P.cellsOf t = 1) : Dec P t boolR (fun _ => True) := ⟨hc, fun h _ => by
  obtain ⟨n, e, ex⟩ := DataW.trod_bool ht h
  subst e
  exact ⟨n, trivial, CR.one (.bool _)⟩⟩
theorem weightsAll_mem {H : Type} {e : TypeId} : ∀ {l : List (DataW H)} {d : DataW H}, d ∈ l → ∀ n ∈ d.weights P e, n ∈ DataW.weightsAll P e l
  | [], _, h, _, _ => by cases h
  | x :: l, d, h, n, hn => by
    rw [DataW.weightsAll]
    rcases List.mem_cons.1 h with rfl | h
    · exact List.mem_append_left _ hn
    · exact List.mem_append_right _ (weightsAll_mem h n hn)
theorem Dec.slice {t e : TypeId} {α : Type} {R : Row α} {ok : α → Prop} (d : Dec P e R ok) (ht : P.underlying t = some (.slice e)) (hc : P.cellsOf t = 1) (hb : 0 < P.bytesOf e) :
    Dec P t (slR R) (fun l => l.length ≤ reachBytes ∧ ∀ a ∈ l, ok a) := ⟨hc, fun {H enc W base held fuel cs x} h hw => by
  rcases Go.Deep.open_slice ht h with ⟨hv, hx⟩ | ⟨a, len, cap, m, k, D, Pl, hv, _, hl, _, hm, hx, hel⟩
  · subst hv
    exact ⟨[], ⟨by simp, fun a ha => by cases ha⟩, CR.one (.fs0 fun _ => rfl)⟩
  subst hv
  have hm' : m = cap := by rw [hm]; rfl
  subst hm'
  clear hm
  rw [hx] at hw
  simp only [DataW.weights, ht] at hw
  have hlen : len ≤ reachBytes := by
    have := hw ((((List.range len).map D).length + ((List.range (m - len)).map fun j => D (len + j)).length) * P.bytesOf e) (List.mem_cons_self ..)
    simp only [List.length_map, List.length_range] at this
    have h2 : len * 1 ≤ (len + (m - len)) * P.bytesOf e := Nat.mul_le_mul (by omega) hb
    omega
  have hD : ∀ i, i < len → ∀ n ∈ (D i).weights P e, n ≤ reachBytes := fun i hi n hn =>
    hw n (List.mem_cons_of_mem _ (List.mem_append_left _ (weightsAll_mem (List.mem_map.2 ⟨i, List.mem_range.2 hi, rfl⟩) n hn)))
  by_cases h0 : len = 0
  · subst h0
    exact ⟨[], ⟨by simp, fun a ha => by cases ha⟩, CR.one (.fs0 fun h => by cases h)⟩
  rw [d.n] at hel
  have hell : ∀ i, i < len → ∃ (x : α) (cs' : List Value), ok x ∧ W.cells? base (a.add (i * R.n)) R.n = some cs' ∧ CR W (R.enc x) cs' := fun i hi => by
    obtain ⟨cs', h1, h2⟩ := hel i (by omega)
    obtain ⟨x, h3, h4⟩ := d.dec h2 (hD i hi)
    exact ⟨x, cs', h3, h1, h4⟩
  obtain ⟨x0, cs0, _, hc0, hr0⟩ := hell 0 (by omega)
  have hn0 := R.pos
  have hc00 := (World.cells?_some hc0).2.2 0 hn0
  have ha0 : (a.add (0 * R.n)).add 0 = a := by rw [Nat.zero_mul]; rfl
  rw [ha0] at hc00
  have hsome : ∃ v, cs0[0]? = some v := by
    have := hr0.1
    rw [R.len] at this
    exact ⟨cs0[0], List.getElem?_eq_getElem (by omega)⟩
  obtain ⟨v0, hv0⟩ := hsome
  rw [hv0] at hc00
  obtain ⟨hsp, arr, ty, fr, hb', _⟩ := cell_heap hc00
  obtain ⟨b, off, sp⟩ := a
  simp only at hsp hb'
  subst hsp
  have hat : ∀ o i, ((⟨b, o, none⟩ : Addr).add i) = ⟨b, o + i, none⟩ := fun o i => by
    unfold Addr.add
    split
    · rename_i h; rw [h]; rfl
    · rfl
  have hget : ∀ i, i < len → ∃ x : α, ok x ∧ ∀ (j : Nat) (y : V), (R.enc x)[j]? = some y → ∃ v, arr[off + (i * R.n + j)]? = some v ∧ VRel (gW W) y v := fun i hi => by
    obtain ⟨x, cs', h1, h2, h3⟩ := hell i hi
    refine ⟨x, h1, fun j y hy => ?_⟩
    obtain ⟨v, h4, h5⟩ := h3.2 j y hy
    have hj : j < R.n := by have := (List.getElem?_eq_some_iff.1 hy).1; rwa [R.len] at this
    have := (World.cells?_some h2).2.2 j hj
    rw [hat, hat] at this
    unfold World.cell? at this
    rw [hb'] at this
    refine ⟨v, ?_, h5⟩
    rw [← Nat.add_assoc]
    have h6 : arr[off + i * R.n + j]? = cs'[j]? := this
    rw [h6, h4]
  let f : Nat → α := fun i => if h : i < len then Classical.choose (hget i h) else R.dflt
  have hf : ∀ i, i < len → ok (f i) ∧ ∀ (j : Nat) (y : V), (R.enc (f i))[j]? = some y → ∃ v, arr[off + (i * R.n + j)]? = some v ∧ VRel (gW W) y v := fun i hi => by
    have e : f i = Classical.choose (hget i hi) := dif_pos hi
    rw [e]
    exact Classical.choose_spec (hget i hi)
  have hll : ((List.range len).map f).length = len := by simp
  refine ⟨(List.range len).map f, ⟨by rw [hll]; exact hlen, fun x hx => ?_⟩, CR.one ?_⟩
  · obtain ⟨i, hi, rfl⟩ := List.mem_map.1 hx
    exact (hf i (List.mem_range.1 hi)).1
  rw [hll]
  refine VRel.mk_fs (gW_of hb') hl fun i x hx => ?_
  have hi : i < len * R.n := by have := (List.getElem?_eq_some_iff.1 hx).1; rwa [R.len_cells, hll] at this
  have hq : i / R.n < len := (Nat.div_lt_iff_lt_mul hn0).2 hi
  have hr := Nat.mod_lt i hn0
  have he : i = i / R.n * R.n + i % R.n := by have := Nat.div_add_mod i R.n; rw [Nat.mul_comm] at this; omega
  have hcell : (R.enc (f (i / R.n)))[i % R.n]? = some x := by
    have h1 := R.at_ ((List.range len).map f) (i / R.n) (by rw [hll]; exact hq)
    have h2 : R.nth ((List.range len).map f) (i / R.n) = f (i / R.n) := by
      unfold Row.nth
      rw [List.getD_eq_getElem?_getD, List.getElem?_map, List.getElem?_range hq]; rfl
    rw [h2] at h1
    have h3 : ((R.cells ((List.range len).map f)).drop (i / R.n * R.n))[i % R.n]? = some x := by
      rw [List.getElem?_drop, ← he]; exact hx
    rwa [h1, List.getElem?_append_left (by rw [R.len]; exact hr)] at h3
  obtain ⟨v, h1, h2⟩ := (hf _ hq).2 _ x hcell
  exact ⟨v, by rw [← he] at h1; exact h1, h2⟩⟩
theorem weightsEach_cons {H : Type} (t : TypeId) (ts : List TypeId) (d : DataW H) (r : List (DataW H)) : DataW.weightsEach P (t :: ts) (d :: r) = d.weights P t ++ DataW.weightsEach P ts r := by rw [DataW.weightsEach]
theorem Dec.two {t : TypeId} {f0 f1 : Field} {α β : Type} {R : Row α} {S : Row β} {ok : α → Prop} {ok' : β → Prop} (ht : P.underlying t = some (.struct #[f0, f1])) (d0 : Dec P f0.type R ok) (d1 : Dec P f1.type S ok')
    (o0 : f0.offset = 0) (o1 : f1.offset = R.n) (hc : P.cellsOf t = R.n + S.n) : Dec P t (pairR R S) (fun a => ok a.1 ∧ ok' a.2) := ⟨hc, fun {H enc W base held fuel cs x} h hw => by
  obtain ⟨y0, y1, m, hx, hl, h0, h1⟩ := Go.ChangeShapes.trod_struct2 ht h
  rw [hx] at hw
  simp only [DataW.weights, ht, List.map_cons, List.map_nil, weightsEach_cons] at hw
  obtain ⟨a, k0, r0⟩ := d0.dec h0 fun n hn => hw n (List.mem_append_left _ hn)
  obtain ⟨b, k1, r1⟩ := d1.dec h1 fun n hn => hw n (List.mem_append_right _ (List.mem_append_left _ hn))
  rw [o0, d0.n] at r0
  rw [o1, d1.n] at r1
  exact ⟨(a, b), ⟨k0, k1⟩, CR.app (R.len a) (S.len b) (by omega) r0 r1⟩⟩
theorem take_drop_zero {α : Type} (l : List α) (n m : Nat) (h : n ≤ m) : (((l.drop 0).take m).drop 0).take n = (l.drop 0).take n := by
  rw [List.drop_zero, List.drop_zero, List.take_take, Nat.min_eq_left h]
theorem Dec.three {t : TypeId} {f0 f1 f2 : Field} {α β γ : Type} {R : Row α} {S : Row β} {T : Row γ} {ok : α → Prop} {ok' : β → Prop} {ok'' : γ → Prop} 
    (ht : P.underlying t = some (.struct #[f0, f1, f2])) (d0 : Dec P f0.type R ok) (d1 : Dec P f1.type S ok') (d2 : Dec P f2.type T ok'') (o0 : f0.offset = 0) (o1 : f1.offset = R.n) (o2 : f2.offset = R.n + S.n) (hc : P.cellsOf t = R.n + S.n + T.n) : Dec P t (pairR (pairR R S) T) (fun a => (ok a.1.1 ∧ ok' a.1.2) ∧ ok'' a.2) := ⟨hc, fun {H enc W base held fuel cs x} h hw => by
  obtain ⟨y0, y1, y2, m, hx, hl, h0, h1, h2⟩ := Go.Deep.trod_struct3 ht h
  rw [hx] at hw
  simp only [DataW.weights, ht, List.map_cons, List.map_nil, weightsEach_cons] at hw
  obtain ⟨a, k0, r0⟩ := d0.dec h0 fun n hn => hw n (List.mem_append_left _ hn)
  obtain ⟨b, k1, r1⟩ := d1.dec h1 fun n hn => hw n (List.mem_append_right _ (List.mem_append_left _ hn))
  obtain ⟨c, k2, r2⟩ := d2.dec h2 fun n hn => hw n (List.mem_append_right _ (List.mem_append_right _ (List.mem_append_left _ hn)))
  rw [o0, d0.n] at r0
  rw [o1, d1.n] at r1
  rw [o2, d2.n] at r2
  refine ⟨((a, b), c), ⟨⟨k0, k1⟩, k2⟩, CR.app (n := R.n + S.n) (m := T.n) (by show (R.enc a ++ S.enc b).length = _; rw [List.length_append, R.len, S.len]) (T.len c) (by omega) ?_ r2⟩
  refine CR.app (R.len a) (S.len b) (by rw [List.drop_zero, List.length_take]; omega) ?_ ?_
  · rw [take_drop_zero _ _ _ (by omega)]; exact r0
  · rw [List.drop_zero, List.drop_take, Nat.add_sub_cancel_left, List.take_take, Nat.min_self]; exact r1⟩
theorem Dec.four {t : TypeId} {f0 f1 f2 f3 : Field} {α β γ δ : Type} {R : Row α} {S : Row β} {T : Row γ} {U : Row δ} {ok : α → Prop} {ok' : β → Prop} {ok'' : γ → Prop} {ok3 : δ → Prop} 
    (ht : P.underlying t = some (.struct #[f0, f1, f2, f3])) (d0 : Dec P f0.type R ok) (d1 : Dec P f1.type S ok') (d2 : Dec P f2.type T ok'') (d3 : Dec P f3.type U ok3) (o0 : f0.offset = 0) (o1 : f1.offset = R.n) (o2 : f2.offset = R.n + S.n) (o3 : f3.offset = R.n + S.n + T.n) (hc : P.cellsOf t = R.n + S.n + T.n + U.n) :
    Dec P t (pairR (pairR (pairR R S) T) U) (fun a => ((ok a.1.1.1 ∧ ok' a.1.1.2) ∧ ok'' a.1.2) ∧ ok3 a.2) := ⟨hc, fun {H enc W base held fuel cs x} h hw => by
  obtain ⟨y0, y1, y2, y3, m, hx, hl, h0, h1, h2, h3⟩ := Go.Joins.trod_struct4 ht h
  rw [hx] at hw
  simp only [DataW.weights, ht, List.map_cons, List.map_nil, weightsEach_cons] at hw
  obtain ⟨a, k0, r0⟩ := d0.dec h0 fun n hn => hw n (List.mem_append_left _ hn)
  obtain ⟨b, k1, r1⟩ := d1.dec h1 fun n hn => hw n (List.mem_append_right _ (List.mem_append_left _ hn))
  obtain ⟨c, k2, r2⟩ := d2.dec h2 fun n hn => hw n (List.mem_append_right _ (List.mem_append_right _ (List.mem_append_left _ hn)))
  obtain ⟨d, k3, r3⟩ := d3.dec h3 fun n hn => hw n (List.mem_append_right _ (List.mem_append_right _ (List.mem_append_right _ (List.mem_append_left _ hn))))
  rw [o0, d0.n] at r0
  rw [o1, d1.n] at r1
  rw [o2, d2.n] at r2
  rw [o3, d3.n] at r3
  refine ⟨(((a, b), c), d), ⟨⟨⟨k0, k1⟩, k2⟩, k3⟩, CR.app (n := R.n + S.n + T.n) (m := U.n) (by show (R.enc a ++ S.enc b ++ T.enc c).length = _; rw [List.length_append, List.length_append, R.len, S.len, T.len]) (U.len d) (by omega) ?_ r3⟩
  refine CR.app (n := R.n + S.n) (m := T.n) (by show (R.enc a ++ S.enc b).length = _; rw [List.length_append, R.len, S.len]) (T.len c) (by rw [List.drop_zero, List.length_take]; omega) ?_ ?_
  · rw [take_drop_zero _ _ _ (by omega)]
    refine CR.app (R.len a) (S.len b) (by rw [List.drop_zero, List.length_take]; omega) ?_ ?_
    · rw [take_drop_zero _ _ _ (by omega)]; exact r0
    · rw [List.drop_zero, List.drop_take, Nat.add_sub_cancel_left, List.take_take, Nat.min_self]; exact r1
  · rw [List.drop_zero, List.drop_take, Nat.add_sub_cancel_left, List.take_take, Nat.min_self]; exact r2⟩
theorem Dec.cast {t : TypeId} {α β : Type} {R : Row α} {S : Row β} {ok : α → Prop} {ok' : β → Prop} (d : Dec P t R ok) (f : α → β) (hn : R.n = S.n) (h : ∀ a, S.enc (f a) = R.enc a) (hok : ∀ a, ok a → ok' (f a)) : Dec P t S ok' :=
  ⟨d.n.trans hn, fun e hw => by
    obtain ⟨a, h1, h2⟩ := d.dec e hw
    exact ⟨f a, hok a h1, by rw [h]; exact h2⟩⟩
theorem Dec.argS {t : TypeId} {α : Type} {R : Row α} {ok : α → Prop} (d : Dec P t R ok) {H : Type} {enc : TypeId × Value → H} {W : World} {base : Nat} {held : Bool} {v : Value} {x : DataW H} {p : List MemPlace} (h : DataW.Trod enc P W base (fun _ => true) held t v x p)
    (hv : ∃ cs, v = .agg cs) (hw : ∀ n ∈ x.weights P t, n ≤ reachBytes) : ∃ a, ok a ∧ VRel (gW W) (.agg (R.enc a)) v := by
  obtain ⟨fuel, h⟩ := h
  obtain ⟨a, h1, h2⟩ := d.dec h hw
  obtain ⟨cs, rfl⟩ := hv
  exact ⟨a, h1, VRel.mk_agg (by have := h2.1; simp only [Value.cells, Array.length_toList] at this; exact this) fun i x hx => by
    obtain ⟨v, e, r⟩ := h2.2 i x hx
    exact ⟨v, by simpa [Value.cells] using e, r⟩⟩
end Go.Ab
