/- The types of this seat's translation: closed facts (laid by program). -/
import Derived.Test.YtajodjbnkeeonaaGreatDoorChecked
import Derived.Test.YtajodjbnkeeonaaGreatDoorAbRules
import Derived.KernelRfl
set_option linter.unusedSimpArgs false
set_option linter.unusedVariables false
namespace Go.Proofs
open Go.Ab
theorem Tryz.agg3 : aggT Tryz.prog 3 = some false := by kernel_rfl
theorem Tryz.size3 : sizeT Tryz.prog 3 = some 1 := by kernel_rfl
theorem Tryz.zero3 : zeroT Tryz.prog 3 = some (.int .i64 0) := by kernel_rfl
theorem Tryz.self3 : selfT Tryz.prog 3 = false := by kernel_rfl
theorem Tryz.agg4 : aggT Tryz.prog 4 = some false := by kernel_rfl
theorem Tryz.size4 : sizeT Tryz.prog 4 = some 1 := by kernel_rfl
theorem Tryz.zero4 : zeroT Tryz.prog 4 = some (.bool false) := by kernel_rfl
theorem Tryz.self4 : selfT Tryz.prog 4 = false := by kernel_rfl
theorem Tryz.agg5 : aggT Tryz.prog 5 = some false := by kernel_rfl
theorem Tryz.size5 : sizeT Tryz.prog 5 = some 1 := by kernel_rfl
theorem Tryz.zero5 : zeroT Tryz.prog 5 = some (.int .u8 0) := by kernel_rfl
theorem Tryz.self5 : selfT Tryz.prog 5 = false := by kernel_rfl
theorem Tryz.agg9 : aggT Tryz.prog 9 = some false := by kernel_rfl
theorem Tryz.size9 : sizeT Tryz.prog 9 = some 1 := by kernel_rfl
theorem Tryz.zero9 : zeroT Tryz.prog 9 = some (.string ⟨([] : List UInt8).toArray⟩) := by kernel_rfl
theorem Tryz.self9 : selfT Tryz.prog 9 = false := by kernel_rfl
theorem Tryz.agg22 : aggT Tryz.prog 22 = some false := by kernel_rfl
theorem Tryz.size22 : sizeT Tryz.prog 22 = some 1 := by kernel_rfl
theorem Tryz.zero22 : zeroT Tryz.prog 22 = some (.slice none 0 0) := by kernel_rfl
theorem Tryz.self22 : selfT Tryz.prog 22 = false := by kernel_rfl
theorem Tryz.row22 : rowE Tryz.prog 22 = (false, 35) := by kernel_rfl
theorem Tryz.elem22 : elemS Tryz.prog 22 = some 1 := by kernel_rfl
theorem Tryz.app22 : appT Tryz.prog 22 = some (1, 24, true) := by kernel_rfl
theorem Tryz.bld22 : buildT Tryz.prog 22 = some (1, (.slice none 0 0)) := by kernel_rfl
theorem Tryz.zeroE22 : zeroE Tryz.prog 22 = some (.slice none 0 0) := by kernel_rfl
theorem Tryz.agg25 : aggT Tryz.prog 25 = some false := by kernel_rfl
theorem Tryz.size25 : sizeT Tryz.prog 25 = some 1 := by kernel_rfl
theorem Tryz.zero25 : zeroT Tryz.prog 25 = some (.slice none 0 0) := by kernel_rfl
theorem Tryz.self25 : selfT Tryz.prog 25 = false := by kernel_rfl
theorem Tryz.row25 : rowE Tryz.prog 25 = (false, 37) := by kernel_rfl
theorem Tryz.elem25 : elemS Tryz.prog 25 = some 3 := by kernel_rfl
theorem Tryz.app25 : appT Tryz.prog 25 = some (3, 40, true) := by kernel_rfl
theorem Tryz.bld25 : buildT Tryz.prog 25 = some (3, (.agg ([(.string ⟨([] : List UInt8).toArray⟩), (.string ⟨([] : List UInt8).toArray⟩), (.int .i64 0)] : List Value).toArray)) := by kernel_rfl
theorem Tryz.zeroE25 : zeroE Tryz.prog 25 = some (.agg ([(.string ⟨([] : List UInt8).toArray⟩), (.string ⟨([] : List UInt8).toArray⟩), (.int .i64 0)] : List Value).toArray) := by kernel_rfl
theorem Tryz.agg27 : aggT Tryz.prog 27 = some true := by kernel_rfl
theorem Tryz.size27 : sizeT Tryz.prog 27 = some 2 := by kernel_rfl
theorem Tryz.zero27 : zeroT Tryz.prog 27 = some (.agg ([(.slice none 0 0), (.slice none 0 0)] : List Value).toArray) := by kernel_rfl
theorem Tryz.self27 : selfT Tryz.prog 27 = false := by kernel_rfl
theorem Tryz.places27 : placesT Tryz.prog 27 = some [(0, 1), (1, 1)] := by kernel_rfl
theorem Tryz.field27_0 : fieldT Tryz.prog 27 0 = some (0, false, 1) := by kernel_rfl
theorem Tryz.field27_1 : fieldT Tryz.prog 27 1 = some (1, false, 1) := by kernel_rfl
theorem Tryz.agg28 : aggT Tryz.prog 28 = some false := by kernel_rfl
theorem Tryz.size28 : sizeT Tryz.prog 28 = some 1 := by kernel_rfl
theorem Tryz.zero28 : zeroT Tryz.prog 28 = some (.int .i64 0) := by kernel_rfl
theorem Tryz.self28 : selfT Tryz.prog 28 = false := by kernel_rfl
theorem Tryz.agg35 : aggT Tryz.prog 35 = some false := by kernel_rfl
theorem Tryz.size35 : sizeT Tryz.prog 35 = some 1 := by kernel_rfl
theorem Tryz.zero35 : zeroT Tryz.prog 35 = some (.slice none 0 0) := by kernel_rfl
theorem Tryz.self35 : selfT Tryz.prog 35 = false := by kernel_rfl
theorem Tryz.row35 : rowE Tryz.prog 35 = (false, 41) := by kernel_rfl
theorem Tryz.elem35 : elemS Tryz.prog 35 = some 2 := by kernel_rfl
theorem Tryz.app35 : appT Tryz.prog 35 = some (2, 32, true) := by kernel_rfl
theorem Tryz.bld35 : buildT Tryz.prog 35 = some (2, (.agg ([(.string ⟨([] : List UInt8).toArray⟩), (.string ⟨([] : List UInt8).toArray⟩)] : List Value).toArray)) := by kernel_rfl
theorem Tryz.zeroE35 : zeroE Tryz.prog 35 = some (.agg ([(.string ⟨([] : List UInt8).toArray⟩), (.string ⟨([] : List UInt8).toArray⟩)] : List Value).toArray) := by kernel_rfl
theorem Tryz.agg37 : aggT Tryz.prog 37 = some true := by kernel_rfl
theorem Tryz.size37 : sizeT Tryz.prog 37 = some 3 := by kernel_rfl
theorem Tryz.zero37 : zeroT Tryz.prog 37 = some (.agg ([(.string ⟨([] : List UInt8).toArray⟩), (.string ⟨([] : List UInt8).toArray⟩), (.int .i64 0)] : List Value).toArray) := by kernel_rfl
theorem Tryz.self37 : selfT Tryz.prog 37 = false := by kernel_rfl
theorem Tryz.places37 : placesT Tryz.prog 37 = some [(0, 1), (1, 1), (2, 1)] := by kernel_rfl
theorem Tryz.field37_0 : fieldT Tryz.prog 37 0 = some (0, false, 1) := by kernel_rfl
theorem Tryz.field37_1 : fieldT Tryz.prog 37 1 = some (1, false, 1) := by kernel_rfl
theorem Tryz.field37_2 : fieldT Tryz.prog 37 2 = some (2, false, 1) := by kernel_rfl
theorem Tryz.agg41 : aggT Tryz.prog 41 = some true := by kernel_rfl
theorem Tryz.size41 : sizeT Tryz.prog 41 = some 2 := by kernel_rfl
theorem Tryz.zero41 : zeroT Tryz.prog 41 = some (.agg ([(.string ⟨([] : List UInt8).toArray⟩), (.string ⟨([] : List UInt8).toArray⟩)] : List Value).toArray) := by kernel_rfl
theorem Tryz.self41 : selfT Tryz.prog 41 = false := by kernel_rfl
theorem Tryz.places41 : placesT Tryz.prog 41 = some [(0, 1), (1, 1)] := by kernel_rfl
theorem Tryz.field41_0 : fieldT Tryz.prog 41 0 = some (0, false, 1) := by kernel_rfl
theorem Tryz.field41_1 : fieldT Tryz.prog 41 1 = some (1, false, 1) := by kernel_rfl
theorem Tryz.agg53 : aggT Tryz.prog 53 = some false := by kernel_rfl
theorem Tryz.size53 : sizeT Tryz.prog 53 = some 1 := by kernel_rfl
theorem Tryz.zero53 : zeroT Tryz.prog 53 = some (.map none) := by kernel_rfl
theorem Tryz.self53 : selfT Tryz.prog 53 = false := by kernel_rfl
theorem Tryz.mapSS53 : mapSS Tryz.prog 53 = true := by kernel_rfl
theorem Tryz.agg54 : aggT Tryz.prog 54 = some false := by kernel_rfl
theorem Tryz.size54 : sizeT Tryz.prog 54 = some 1 := by kernel_rfl
theorem Tryz.zero54 : zeroT Tryz.prog 54 = some .nilFunc := by kernel_rfl
theorem Tryz.self54 : selfT Tryz.prog 54 = false := by kernel_rfl
theorem Tryz.agg56 : aggT Tryz.prog 56 = some true := by kernel_rfl
theorem Tryz.size56 : sizeT Tryz.prog 56 = some 2 := by kernel_rfl
theorem Tryz.zero56 : zeroT Tryz.prog 56 = some (.agg ([(.string ⟨([] : List UInt8).toArray⟩), (.string ⟨([] : List UInt8).toArray⟩)] : List Value).toArray) := by kernel_rfl
theorem Tryz.self56 : selfT Tryz.prog 56 = false := by kernel_rfl
theorem Tryz.places56 : placesT Tryz.prog 56 = some [(0, 1), (1, 1)] := by kernel_rfl
theorem Tryz.field56_0 : fieldT Tryz.prog 56 0 = some (0, false, 1) := by kernel_rfl
theorem Tryz.field56_1 : fieldT Tryz.prog 56 1 = some (1, false, 1) := by kernel_rfl
theorem Tryz.agg59 : aggT Tryz.prog 59 = some false := by kernel_rfl
theorem Tryz.size59 : sizeT Tryz.prog 59 = some 1 := by kernel_rfl
theorem Tryz.zero59 : zeroT Tryz.prog 59 = some (.slice none 0 0) := by kernel_rfl
theorem Tryz.self59 : selfT Tryz.prog 59 = false := by kernel_rfl
theorem Tryz.row59 : rowE Tryz.prog 59 = (false, 25) := by kernel_rfl
theorem Tryz.elem59 : elemS Tryz.prog 59 = some 1 := by kernel_rfl
theorem Tryz.app59 : appT Tryz.prog 59 = some (1, 24, true) := by kernel_rfl
theorem Tryz.bld59 : buildT Tryz.prog 59 = some (1, (.slice none 0 0)) := by kernel_rfl
theorem Tryz.zeroE59 : zeroE Tryz.prog 59 = some (.slice none 0 0) := by kernel_rfl
theorem Tryz.agg76 : aggT Tryz.prog 76 = some false := by kernel_rfl
theorem Tryz.size76 : sizeT Tryz.prog 76 = some 1 := by kernel_rfl
theorem Tryz.zero76 : zeroT Tryz.prog 76 = some .nilFunc := by kernel_rfl
theorem Tryz.self76 : selfT Tryz.prog 76 = false := by kernel_rfl
theorem Tryz.agg95 : aggT Tryz.prog 95 = some false := by kernel_rfl
theorem Tryz.size95 : sizeT Tryz.prog 95 = some 1 := by kernel_rfl
theorem Tryz.zero95 : zeroT Tryz.prog 95 = some (.int .u64 0) := by kernel_rfl
theorem Tryz.self95 : selfT Tryz.prog 95 = false := by kernel_rfl
theorem Tryz.agg125 : aggT Tryz.prog 125 = some false := by kernel_rfl
theorem Tryz.size125 : sizeT Tryz.prog 125 = some 1 := by kernel_rfl
theorem Tryz.zero125 : zeroT Tryz.prog 125 = some (.slice none 0 0) := by kernel_rfl
theorem Tryz.self125 : selfT Tryz.prog 125 = false := by kernel_rfl
theorem Tryz.row125 : rowE Tryz.prog 125 = (false, 3) := by kernel_rfl
theorem Tryz.elem125 : elemS Tryz.prog 125 = some 1 := by kernel_rfl
theorem Tryz.app125 : appT Tryz.prog 125 = some (1, 8, true) := by kernel_rfl
theorem Tryz.bld125 : buildT Tryz.prog 125 = some (1, (.int .i64 0)) := by kernel_rfl
theorem Tryz.zeroE125 : zeroE Tryz.prog 125 = some (.int .i64 0) := by kernel_rfl
attribute [go_sem] Tryz.agg3 Tryz.size3 Tryz.zero3 Tryz.underlying3 Tryz.self3 Tryz.agg4 Tryz.size4 Tryz.zero4 Tryz.underlying4 Tryz.self4 Tryz.agg5 Tryz.size5 Tryz.zero5 Tryz.underlying5 Tryz.self5 Tryz.agg9 Tryz.size9 Tryz.zero9 Tryz.underlying9 Tryz.self9 Tryz.agg22 Tryz.size22 Tryz.zero22 Tryz.underlying22 Tryz.self22 Tryz.row22 Tryz.elem22 Tryz.app22 Tryz.bld22 Tryz.zeroE22 Tryz.agg25 Tryz.size25 Tryz.zero25 Tryz.underlying25 Tryz.self25 Tryz.row25 Tryz.elem25 Tryz.app25 Tryz.bld25 Tryz.zeroE25 Tryz.agg27 Tryz.size27 Tryz.zero27 Tryz.underlying27 Tryz.self27 Tryz.places27 Tryz.field27_0 Tryz.field27_1 Tryz.agg28 Tryz.size28 Tryz.zero28 Tryz.underlying28 Tryz.self28 Tryz.agg35 Tryz.size35 Tryz.zero35 Tryz.underlying35 Tryz.self35 Tryz.row35 Tryz.elem35 Tryz.app35 Tryz.bld35 Tryz.zeroE35 Tryz.agg37 Tryz.size37 Tryz.zero37 Tryz.underlying37 Tryz.self37 Tryz.places37 Tryz.field37_0 Tryz.field37_1 Tryz.field37_2 Tryz.agg41 Tryz.size41 Tryz.zero41 Tryz.underlying41 Tryz.self41 Tryz.places41 Tryz.field41_0 Tryz.field41_1 Tryz.agg53 Tryz.size53 Tryz.zero53 Tryz.underlying53 Tryz.self53 Tryz.mapSS53 Tryz.agg54 Tryz.size54 Tryz.zero54 Tryz.underlying54 Tryz.self54 Tryz.agg56 Tryz.size56 Tryz.zero56 Tryz.underlying56 Tryz.self56 Tryz.places56 Tryz.field56_0 Tryz.field56_1 Tryz.agg59 Tryz.size59 Tryz.zero59 Tryz.underlying59 Tryz.self59 Tryz.row59 Tryz.elem59 Tryz.app59 Tryz.bld59 Tryz.zeroE59 Tryz.agg76 Tryz.size76 Tryz.zero76 Tryz.underlying76 Tryz.self76 Tryz.agg95 Tryz.size95 Tryz.zero95 Tryz.underlying95 Tryz.self95 Tryz.agg125 Tryz.size125 Tryz.zero125 Tryz.underlying125 Tryz.self125 Tryz.row125 Tryz.elem125 Tryz.app125 Tryz.bld125 Tryz.zeroE125
end Go.Proofs

/- Each function of the translation can be called (laid by program). -/
namespace Go.Proofs
open Go.Ab
theorem mixed : Tryz.prog.follows .mixedOrders = true := by kernel_rfl
theorem call3 : Callable Tryz.prog 3 := fun a w => by kernel_rfl
theorem call4 : Callable Tryz.prog 4 := fun a w => by kernel_rfl
theorem call5 : Callable Tryz.prog 5 := fun a w => by kernel_rfl
theorem call6 : Callable Tryz.prog 6 := fun a w => by kernel_rfl
theorem call7 : Callable Tryz.prog 7 := fun a w => by kernel_rfl
theorem call8 : Callable Tryz.prog 8 := fun a w => by kernel_rfl
theorem call9 : Callable Tryz.prog 9 := fun a w => by kernel_rfl
theorem call10 : Callable Tryz.prog 10 := fun a w => by kernel_rfl
theorem call11 : Callable Tryz.prog 11 := fun a w => by kernel_rfl
theorem call12 : Callable Tryz.prog 12 := fun a w => by kernel_rfl
theorem call13 : Callable Tryz.prog 13 := fun a w => by kernel_rfl
theorem call14 : Callable Tryz.prog 14 := fun a w => by kernel_rfl
theorem call15 : Callable Tryz.prog 15 := fun a w => by kernel_rfl
theorem call16 : Callable Tryz.prog 16 := fun a w => by kernel_rfl
theorem call17 : Callable Tryz.prog 17 := fun a w => by kernel_rfl
theorem call18 : Callable Tryz.prog 18 := fun a w => by kernel_rfl
theorem call19 : Callable Tryz.prog 19 := fun a w => by kernel_rfl
theorem call20 : Callable Tryz.prog 20 := fun a w => by kernel_rfl
theorem call21 : Callable Tryz.prog 21 := fun a w => by kernel_rfl
theorem call22 : Callable Tryz.prog 22 := fun a w => by kernel_rfl
theorem call23 : Callable Tryz.prog 23 := fun a w => by kernel_rfl
theorem call24 : Callable Tryz.prog 24 := fun a w => by kernel_rfl
theorem call25 : Callable Tryz.prog 25 := fun a w => by kernel_rfl
theorem call26 : Callable Tryz.prog 26 := fun a w => by kernel_rfl
theorem call27 : Callable Tryz.prog 27 := fun a w => by kernel_rfl
theorem call28 : Callable Tryz.prog 28 := fun a w => by kernel_rfl
theorem call29 : Callable Tryz.prog 29 := fun a w => by kernel_rfl
theorem call30 : Callable Tryz.prog 30 := fun a w => by kernel_rfl
theorem call31 : Callable Tryz.prog 31 := fun a w => by kernel_rfl
theorem call32 : Callable Tryz.prog 32 := fun a w => by kernel_rfl
theorem call33 : Callable Tryz.prog 33 := fun a w => by kernel_rfl
theorem call34 : Callable Tryz.prog 34 := fun a w => by kernel_rfl
theorem call35 : Callable Tryz.prog 35 := fun a w => by kernel_rfl
theorem call36 : Callable Tryz.prog 36 := fun a w => by kernel_rfl
theorem call37 : Callable Tryz.prog 37 := fun a w => by kernel_rfl
theorem call38 : Callable Tryz.prog 38 := fun a w => by kernel_rfl
theorem call39 : Callable Tryz.prog 39 := fun a w => by kernel_rfl
theorem call40 : Callable Tryz.prog 40 := fun a w => by kernel_rfl
theorem call41 : Callable Tryz.prog 41 := fun a w => by kernel_rfl
theorem call42 : Callable Tryz.prog 42 := fun a w => by kernel_rfl
theorem call43 : Callable Tryz.prog 43 := fun a w => by kernel_rfl
theorem call44 : Callable Tryz.prog 44 := fun a w => by kernel_rfl
theorem call45 : Callable Tryz.prog 45 := fun a w => by kernel_rfl
theorem call46 : Callable Tryz.prog 46 := fun a w => by kernel_rfl
theorem call47 : Callable Tryz.prog 47 := fun a w => by kernel_rfl
theorem call48 : Callable Tryz.prog 48 := fun a w => by kernel_rfl
theorem call49 : Callable Tryz.prog 49 := fun a w => by kernel_rfl
theorem call50 : Callable Tryz.prog 50 := fun a w => by kernel_rfl
theorem call51 : Callable Tryz.prog 51 := fun a w => by kernel_rfl
theorem call52 : Callable Tryz.prog 52 := fun a w => by kernel_rfl
theorem call53 : Callable Tryz.prog 53 := fun a w => by kernel_rfl
theorem call54 : Callable Tryz.prog 54 := fun a w => by kernel_rfl
theorem call55 : Callable Tryz.prog 55 := fun a w => by kernel_rfl
theorem call56 : Callable Tryz.prog 56 := fun a w => by kernel_rfl
theorem call57 : Callable Tryz.prog 57 := fun a w => by kernel_rfl
theorem call58 : Callable Tryz.prog 58 := fun a w => by kernel_rfl
theorem call59 : Callable Tryz.prog 59 := fun a w => by kernel_rfl
theorem call60 : Callable Tryz.prog 60 := fun a w => by kernel_rfl
theorem call61 : Callable Tryz.prog 61 := fun a w => by kernel_rfl
theorem call62 : Callable Tryz.prog 62 := fun a w => by kernel_rfl
theorem call63 : Callable Tryz.prog 63 := fun a w => by kernel_rfl
theorem call64 : Callable Tryz.prog 64 := fun a w => by kernel_rfl
theorem call65 : Callable Tryz.prog 65 := fun a w => by kernel_rfl
theorem call66 : Callable Tryz.prog 66 := fun a w => by kernel_rfl
end Go.Proofs

/- Lists of counts as cells. -/
namespace Go.Ab
open Go.Cnt
def entV (e : Ent) : List V := [.str e.1.1, .str e.1.2, .int .i64 e.2]
theorem entV_inj {x y : Ent} (h : entV x = entV y) : x = y := by
  obtain ⟨⟨a, b⟩, n⟩ := x
  obtain ⟨⟨c, d⟩, m⟩ := y
  simp [entV] at h
  obtain ⟨rfl, rfl, rfl⟩ := h
  rfl
def cnts (l : List Ent) : List V := l.flatMap entV
def nthE (l : List Ent) (i : Nat) : Ent := l.getD i (([], []), 0)
theorem cnts_nil : cnts [] = [] := rfl
theorem cnts_cons (e : Ent) (l : List Ent) : cnts (e :: l) = .str e.1.1 :: .str e.1.2 :: .int .i64 e.2 :: cnts l := rfl
theorem cnts_append (l r : List Ent) : cnts (l ++ r) = cnts l ++ cnts r := by simp [cnts]
theorem len_cnts : ∀ l : List Ent, (cnts l).length = l.length * 3
  | [] => rfl
  | e :: l => by rw [cnts_cons]; simp only [List.length_cons]; rw [len_cnts l]; omega
theorem cnts_drop : ∀ (l : List Ent) (i : Nat), (cnts l).drop (i * 3) = cnts (l.drop i)
  | l, 0 => by simp
  | [], i + 1 => by simp [cnts_nil]
  | e :: l, i + 1 => by
    rw [cnts_cons, show (i + 1) * 3 = i * 3 + 1 + 1 + 1 by omega]
    simp only [List.drop_succ_cons]
    exact cnts_drop l i
theorem drop_nthE : ∀ (l : List Ent) (i : Nat), i < l.length → l.drop i = nthE l i :: l.drop (i + 1)
  | [], _, h => by simp at h
  | e :: l, 0, _ => rfl
  | e :: l, i + 1, h => by
    have := drop_nthE l i (by simpa using h)
    simpa [nthE] using this
theorem cnts_at (l : List Ent) (i : Nat) (h : i < l.length) : (cnts l).drop (i * 3) = .str (nthE l i).1.1 :: .str (nthE l i).1.2 :: .int .i64 (nthE l i).2 :: cnts (l.drop (i + 1)) := by
  rw [cnts_drop, drop_nthE l i h, cnts_cons]
theorem pure_cnts : ∀ l : List Ent, ∀ x ∈ cnts l, Pure x
  | [], _, h => by cases h
  | e :: l, x, h => by
    rw [cnts_cons] at h
    simp only [List.mem_cons] at h
    rcases h with rfl | rfl | rfl | h
    · exact .str _
    · exact .str _
    · exact .int _ _
    · exact pure_cnts l x h
theorem pure_cntsP (l : List Ent) : (∀ x ∈ cnts l, Pure x) ↔ True := ⟨fun _ => trivial, fun _ => pure_cnts l⟩
theorem one_cnts : ∀ l : List Ent, (cnts l).all V.one = true
  | [] => rfl
  | e :: l => by rw [cnts_cons]; simp [V.one, one_cnts l]
theorem cnts_inj : ∀ {l r : List Ent}, cnts l = cnts r → l = r
  | [], [], _ => rfl
  | [], e :: r, h => by rw [cnts_cons] at h; cases h
  | e :: l, [], h => by rw [cnts_cons] at h; cases h
  | e :: l, e' :: r, h => by
    rw [cnts_cons, cnts_cons] at h
    simp only [List.cons.injEq, V.str.injEq, V.int.injEq, true_and] at h
    obtain ⟨h1, h2, h3, h4⟩ := h
    rw [cnts_inj h4]
    congr 1
    exact Prod.ext (Prod.ext h1 h2) h3
attribute [go_sem] pure_cntsP len_cnts
theorem lrel_cnts {π : Nat → Nat} {N : Nat → Prop} (l : List Ent) : LRel (Rn π N) (cnts l) (cnts l) ↔ True := ⟨fun _ => trivial, fun _ => lrel_same (pure_cnts l)⟩
attribute [go_sem] lrel_cnts
attribute [go_sem] List.map_cons List.map_nil List.all_cons List.all_nil
end Go.Ab

/- Names, comparisons of keys: what the program's functions give. -/
namespace Go.Proofs
open Go.Ab Go.Cnt
def nameB (s : Str) : Bool := !(s == []) && decide (s.length ≤ 40)
def nameE (s : Str) : Bool := s == [] || nameB s
theorem isName_ok (s : Str) : PCall Tryz.prog 22 [.str s] (.ret (.bool (nameB s))) := by
  refine PCall.walk (rs := [.tmp 2]) [0, 2] [] mixed (noΓ_ok) (noΔ_ok) call22 Tryz.func22 rfl Tryz.ntmps22 rfl (by kernel_rfl) (by simp) (by simp [pure_bool, pure_int, pure_str, pure_fs, pure_fp, pure_fn, pure_agg, pure_tup, pure_nilS, pure_nilP, pure_natsP, pure_intsP, pure_strsP, pure_list, pure_cntsP]) ?_
  simp only [go_sem, Nat.reduceBEq, Nat.reduceSub, Nat.reduceAdd, Nat.reduceMul, Nat.reduceLT, Nat.reduceLeDiff, Nat.reduceEqDiff, Int.reduceToNat, Int.reduceAdd, Int.reduceSub, Int.reduceMul, Int.reduceLT, Int.reduceLE, Int.reduceEq]
  have e : decide ((s.length : Int) ≤ 40) = decide (s.length ≤ 40) := decide_eq_decide.2 (by omega)
  unfold nameB
  rw [e]
  cases s <;> simp
noncomputable def cName : List V → Option PR := conOf (fun a : Str => [.str a]) (fun _ => True) fun a => .ret (.bool (nameB a))
theorem cName_eq (a : Str) : cName [.str a] = some (.ret (.bool (nameB a))) := conOf_eq (pat := fun a : Str => [.str a]) (fun x y h => by simpa using h) a trivial
theorem cName_ok : ∀ args r, cName args = some r → PCall Tryz.prog 22 args r := conOf_ok fun a _ => isName_ok a
attribute [go_sem] cName_eq
theorem isNameE_ok (s : Str) : PCall Tryz.prog 29 [.str s] (.ret (.bool (nameE s))) := by
  refine PCall.walk (rs := [.tmp 2]) [0, 2] [] mixed (extΓ_ok cName_ok noΓ_ok) (noΔ_ok) call29 Tryz.func29 rfl Tryz.ntmps29 rfl (by kernel_rfl) (by simp) (by simp [pure_bool, pure_int, pure_str, pure_fs, pure_fp, pure_fn, pure_agg, pure_tup, pure_nilS, pure_nilP, pure_natsP, pure_intsP, pure_strsP, pure_list, pure_cntsP]) ?_
  simp only [go_sem, Nat.reduceBEq, Nat.reduceSub, Nat.reduceAdd, Nat.reduceMul, Nat.reduceLT, Nat.reduceLeDiff, Nat.reduceEqDiff, Int.reduceToNat, Int.reduceAdd, Int.reduceSub, Int.reduceMul, Int.reduceLT, Int.reduceLE, Int.reduceEq]
  by_cases h : s = [] <;> simp [nameE, h]
noncomputable def cNameE : List V → Option PR := conOf (fun a : Str => [.str a]) (fun _ => True) fun a => .ret (.bool (nameE a))
theorem cNameE_eq (a : Str) : cNameE [.str a] = some (.ret (.bool (nameE a))) := conOf_eq (pat := fun a : Str => [.str a]) (fun x y h => by simpa using h) a trivial
theorem cNameE_ok : ∀ args r, cNameE args = some r → PCall Tryz.prog 29 args r := conOf_ok fun a _ => isNameE_ok a
attribute [go_sem] cNameE_eq
theorem isNaN_ok (s : Str) : PCall Tryz.prog 60 [.str s] (.ret (.bool false)) := by
  refine PCall.walk (rs := [.tmp 2]) [0, 2] [] mixed (noΓ_ok) (noΔ_ok) call60 Tryz.func60 rfl Tryz.ntmps60 rfl (by kernel_rfl) (by simp) (by simp [pure_bool, pure_int, pure_str, pure_fs, pure_fp, pure_fn, pure_agg, pure_tup, pure_nilS, pure_nilP, pure_natsP, pure_intsP, pure_strsP, pure_list, pure_cntsP]) ?_
  simp only [go_sem, Nat.reduceBEq, Nat.reduceSub, Nat.reduceAdd, Nat.reduceMul, Nat.reduceLT, Nat.reduceLeDiff, Nat.reduceEqDiff, Int.reduceToNat, Int.reduceAdd, Int.reduceSub, Int.reduceMul, Int.reduceLT, Int.reduceLE, Int.reduceEq]
noncomputable def cIsNaN : List V → Option PR := conOf (fun a : Str => [.str a]) (fun _ => True) fun _ => .ret (.bool false)
theorem cIsNaN_eq (a : Str) : cIsNaN [.str a] = some (.ret (.bool false)) := conOf_eq (pat := fun a : Str => [.str a]) (fun x y h => by simpa using h) a trivial
theorem cIsNaN_ok : ∀ args r, cIsNaN args = some r → PCall Tryz.prog 60 args r := conOf_ok fun a _ => isNaN_ok a
attribute [go_sem] cIsNaN_eq
theorem cmpS_ok (a b : Str) : PCall Tryz.prog 38 [.str a, .str b] (.ret (.int .i64 (cmpS a b))) := by
  refine PCall.walk (rs := [.tmp 4]) [0, 1, 4, 5, 6, 11, 12, 13, 16, 19] [] mixed (extΓ_ok cIsNaN_ok noΓ_ok) (noΔ_ok) call38 Tryz.func38 rfl Tryz.ntmps38 rfl (by kernel_rfl) (by simp) (by simp [pure_bool, pure_int, pure_str, pure_fs, pure_fp, pure_fn, pure_agg, pure_tup, pure_nilS, pure_nilP, pure_natsP, pure_intsP, pure_strsP, pure_list, pure_cntsP]) ?_
  simp only [go_sem, Nat.reduceBEq, Nat.reduceSub, Nat.reduceAdd, Nat.reduceMul, Nat.reduceLT, Nat.reduceLeDiff, Nat.reduceEqDiff, Int.reduceToNat, Int.reduceAdd, Int.reduceSub, Int.reduceMul, Int.reduceLT, Int.reduceLE, Int.reduceEq]
  rcases cmpS_cases a b with ⟨h, e⟩ | ⟨h, e⟩ | ⟨h, h', e⟩
  · have h1 : ltS a b = true := h
    simp only [go_sem, h1, e, Nat.reduceBEq, Nat.reduceSub, Nat.reduceAdd, Nat.reduceMul, Nat.reduceLT, Nat.reduceLeDiff, Nat.reduceEqDiff, Int.reduceToNat, Int.reduceAdd, Int.reduceSub, Int.reduceMul, Int.reduceLT, Int.reduceLE, Int.reduceEq]
  · subst h
    have h1 : ltS a a = false := bl_irrefl a
    simp only [go_sem, h1, e, Nat.reduceBEq, Nat.reduceSub, Nat.reduceAdd, Nat.reduceMul, Nat.reduceLT, Nat.reduceLeDiff, Nat.reduceEqDiff, Int.reduceToNat, Int.reduceAdd, Int.reduceSub, Int.reduceMul, Int.reduceLT, Int.reduceLE, Int.reduceEq]
  · have h1 : ltS a b = false := h'
    have h2 : ¬ a = b := fun he => by subst he; rw [bl_irrefl] at h; cases h
    simp only [go_sem, h1, h2, decide_false, e, Nat.reduceBEq, Nat.reduceSub, Nat.reduceAdd, Nat.reduceMul, Nat.reduceLT, Nat.reduceLeDiff, Nat.reduceEqDiff, Int.reduceToNat, Int.reduceAdd, Int.reduceSub, Int.reduceMul, Int.reduceLT, Int.reduceLE, Int.reduceEq]
noncomputable def cCmpS : List V → Option PR := conOf (fun p : Str × Str => [.str p.1, .str p.2]) (fun _ => True) fun p => .ret (.int .i64 (cmpS p.1 p.2))
theorem cCmpS_eq (a b : Str) : cCmpS [.str a, .str b] = some (.ret (.int .i64 (cmpS a b))) := conOf_eq (pat := fun p : Str × Str => [.str p.1, .str p.2]) (fun x y h => by simp at h; exact Prod.ext h.1 h.2) (a, b) trivial
theorem cCmpS_ok : ∀ args r, cCmpS args = some r → PCall Tryz.prog 38 args r := conOf_ok fun p _ => cmpS_ok p.1 p.2
attribute [go_sem] cCmpS_eq
def orI (x y : Int) : Int := if x ≠ 0 then x else y
theorem or_ok (x y : Int) : PCall Tryz.prog 64 [.fs [.int .i64 x, .int .i64 y] 2] (.ret (.int .i64 (orI x y))) := by
  refine PCall.walk (rs := [.tmp 2]) [0, 2, 3, 5, 6, 7, 8, 9, 14] [] mixed (noΓ_ok) (noΔ_ok) call64 Tryz.func64 rfl Tryz.ntmps64 rfl (by kernel_rfl) (by simp) (by simp [pure_bool, pure_int, pure_str, pure_fs, pure_fp, pure_fn, pure_agg, pure_tup, pure_nilS, pure_nilP, pure_natsP, pure_intsP, pure_strsP, pure_list, pure_cntsP]) ?_
  simp only [go_sem, Nat.reduceBEq, Nat.reduceSub, Nat.reduceAdd, Nat.reduceMul, Nat.reduceLT, Nat.reduceLeDiff, Nat.reduceEqDiff, Int.reduceToNat, Int.reduceAdd, Int.reduceSub, Int.reduceMul, Int.reduceLT, Int.reduceLE, Int.reduceEq]
  refine AXs.rounds mixed noΓ_ok noΔ_ok [(), ()] (by kernel_rfl) ?_
  simp only [go_sem, Nat.reduceBEq, Nat.reduceSub, Nat.reduceAdd, Nat.reduceMul, Nat.reduceLT, Nat.reduceLeDiff, Nat.reduceEqDiff, Int.reduceToNat, Int.reduceAdd, Int.reduceSub, Int.reduceMul, Int.reduceLT, Int.reduceLE, Int.reduceEq]
  by_cases hx : x = 0
  · subst hx
    simp only [go_sem, Nat.reduceBEq, Nat.reduceSub, Nat.reduceAdd, Nat.reduceMul, Nat.reduceLT, Nat.reduceLeDiff, Nat.reduceEqDiff, Int.reduceToNat, Int.reduceAdd, Int.reduceSub, Int.reduceMul, Int.reduceLT, Int.reduceLE, Int.reduceEq]
    by_cases hy : y = 0
    · subst hy
      simp only [go_sem, Nat.reduceBEq, Nat.reduceSub, Nat.reduceAdd, Nat.reduceMul, Nat.reduceLT, Nat.reduceLeDiff, Nat.reduceEqDiff, Int.reduceToNat, Int.reduceAdd, Int.reduceSub, Int.reduceMul, Int.reduceLT, Int.reduceLE, Int.reduceEq]
      refine AXa.go mixed (noΓ_ok) (noΔ_ok) (by kernel_rfl) ?_
      simp only [go_sem, orI, Nat.reduceBEq, Nat.reduceSub, Nat.reduceAdd, Nat.reduceMul, Nat.reduceLT, Nat.reduceLeDiff, Nat.reduceEqDiff, Int.reduceToNat, Int.reduceAdd, Int.reduceSub, Int.reduceMul, Int.reduceLT, Int.reduceLE, Int.reduceEq]
    · simp only [go_sem, hy, orI, Nat.reduceBEq, Nat.reduceSub, Nat.reduceAdd, Nat.reduceMul, Nat.reduceLT, Nat.reduceLeDiff, Nat.reduceEqDiff, Int.reduceToNat, Int.reduceAdd, Int.reduceSub, Int.reduceMul, Int.reduceLT, Int.reduceLE, Int.reduceEq]
  · simp only [go_sem, hx, orI, Nat.reduceBEq, Nat.reduceSub, Nat.reduceAdd, Nat.reduceMul, Nat.reduceLT, Nat.reduceLeDiff, Nat.reduceEqDiff, Int.reduceToNat, Int.reduceAdd, Int.reduceSub, Int.reduceMul, Int.reduceLT, Int.reduceLE, Int.reduceEq]
noncomputable def cOr : List V → Option PR := conOf (fun p : Int × Int => [.fs [.int .i64 p.1, .int .i64 p.2] 2]) (fun _ => True) fun p => .ret (.int .i64 (orI p.1 p.2))
theorem cOr_eq (x y : Int) : cOr [.fs [.int .i64 x, .int .i64 y] 2] = some (.ret (.int .i64 (orI x y))) := conOf_eq (pat := fun p : Int × Int => [.fs [.int .i64 p.1, .int .i64 p.2] 2]) (fun x y h => by simp at h; exact Prod.ext h.1 h.2) (x, y) trivial
theorem cOr_ok : ∀ args r, cOr args = some r → PCall Tryz.prog 64 args r := conOf_ok fun p _ => or_ok p.1 p.2
attribute [go_sem] cOr_eq
theorem cmpK_ok (a b c d : Str) (n m : Int) : PCall Tryz.prog 42 [.agg [.str a, .str b, .int .i64 n], .agg [.str c, .str d, .int .i64 m]] (.ret (.int .i64 (cmpK (a, b) (c, d)))) := by
  refine PCall.walk (rs := [.tmp 4]) [0, 1, 2, 3, 4] [] mixed (extΓ_ok cCmpS_ok (extΓ_ok cOr_ok noΓ_ok)) (noΔ_ok) call42 Tryz.func42 rfl Tryz.ntmps42 rfl (by kernel_rfl) (by simp) (by simp [pure_bool, pure_int, pure_str, pure_fs, pure_fp, pure_fn, pure_agg, pure_tup, pure_nilS, pure_nilP, pure_natsP, pure_intsP, pure_strsP, pure_list, pure_cntsP]) ?_
  simp only [go_sem, Nat.reduceBEq, Nat.reduceSub, Nat.reduceAdd, Nat.reduceMul, Nat.reduceLT, Nat.reduceLeDiff, Nat.reduceEqDiff, Int.reduceToNat, Int.reduceAdd, Int.reduceSub, Int.reduceMul, Int.reduceLT, Int.reduceLE, Int.reduceEq]
  refine AXk.intro (by kernel_rfl) ?_
  simp only [go_sem, Nat.reduceBEq, Nat.reduceSub, Nat.reduceAdd, Nat.reduceMul, Nat.reduceLT, Nat.reduceLeDiff, Nat.reduceEqDiff, Int.reduceToNat, Int.reduceAdd, Int.reduceSub, Int.reduceMul, Int.reduceLT, Int.reduceLE, Int.reduceEq]
  simp only [orI, cmpK]
noncomputable def cCmpK : List V → Option PR := conOf (fun p : Ent × Ent => [.agg (entV p.1), .agg (entV p.2)]) (fun _ => True) fun p => .ret (.int .i64 (cmpK p.1.1 p.2.1))
theorem cCmpK_eq (a b c d : Str) (n m : Int) : cCmpK [.agg [.str a, .str b, .int .i64 n], .agg [.str c, .str d, .int .i64 m]] = some (.ret (.int .i64 (cmpK (a, b) (c, d)))) :=
  conOf_eq (pat := fun p : Ent × Ent => [.agg (entV p.1), .agg (entV p.2)]) (fun x y h => by simp only [List.cons.injEq, V.agg.injEq, and_true] at h; exact Prod.ext (entV_inj h.1) (entV_inj h.2)) (((a, b), n), ((c, d), m)) trivial
theorem cCmpK_ok : ∀ args r, cCmpK args = some r → PCall Tryz.prog 42 args r := conOf_ok fun p _ => cmpK_ok p.1.1.1 p.1.1.2 p.2.1.1 p.2.1.2 p.1.2 p.2.2
attribute [go_sem] cCmpK_eq
end Go.Proofs
