/- The types of this seat's translation: closed facts (laid by program). -/
import Derived.Test.YthbimeikbkjnkaaGreatDoorChecked
import Derived.Test.YthbimeikbkjnkaaGreatDoorCAbRules
import Derived.KernelRfl
import Derived.ProofKit
import Derived.Lib.SmallJoins
import Derived.Deep.Slices
import Derived.Deep.Strs
import Derived.Handed
set_option linter.all false
set_option maxHeartbeats 16000000
set_option maxRecDepth 100000
namespace Go.Proofs
open Go.Ab
theorem Tryz.agg3:aggT Tryz.prog 3=some false:=by kernel_rfl
theorem Tryz.size3:zL Tryz.prog 3=some 1:=by kernel_rfl
theorem Tryz.agg4:aggT Tryz.prog 4=some false:=by kernel_rfl
theorem Tryz.size4:zL Tryz.prog 4=some 1:=by kernel_rfl
theorem Tryz.agg5:aggT Tryz.prog 5=some false:=by kernel_rfl
theorem Tryz.size5:zL Tryz.prog 5=some 1:=by kernel_rfl
theorem Tryz.agg9:aggT Tryz.prog 9=some false:=by kernel_rfl
theorem Tryz.size9:zL Tryz.prog 9=some 1:=by kernel_rfl
theorem Tryz.zero9:zaU Tryz.prog 9=some (.string ⟨([]:List UInt8).toArray⟩):=by kernel_rfl
theorem Tryz.agg22:aggT Tryz.prog 22=some false:=by kernel_rfl
theorem Tryz.size22:zL Tryz.prog 22=some 1:=by kernel_rfl
theorem Tryz.row22:rowE Tryz.prog 22=(false,9):=by kernel_rfl
theorem Tryz.elem22:zbf Tryz.prog 22=some 1:=by kernel_rfl
theorem Tryz.app22:appT Tryz.prog 22=some (1,16,true):=by kernel_rfl
theorem Tryz.bld22:zcj Tryz.prog 22=some (1,(.string ⟨([]:List UInt8).toArray⟩)):=by kernel_rfl
theorem Tryz.agg23:aggT Tryz.prog 23=some false:=by kernel_rfl
theorem Tryz.size23:zL Tryz.prog 23=some 1:=by kernel_rfl
theorem Tryz.elem23:zbf Tryz.prog 23=some 1:=by kernel_rfl
theorem Tryz.bld23:zcj Tryz.prog 23=some (1,(.slice none 0 0)):=by kernel_rfl
theorem Tryz.agg25:aggT Tryz.prog 25=some true:=by kernel_rfl
theorem Tryz.size25:zL Tryz.prog 25=some 4:=by kernel_rfl
theorem Tryz.field25_0:zbE Tryz.prog 25 0=some (0,false,1):=by kernel_rfl
theorem Tryz.field25_1:zbE Tryz.prog 25 1=some (1,false,1):=by kernel_rfl
theorem Tryz.field25_2:zbE Tryz.prog 25 2=some (2,false,1):=by kernel_rfl
theorem Tryz.field25_3:zbE Tryz.prog 25 3=some (3,false,1):=by kernel_rfl
theorem Tryz.agg27:aggT Tryz.prog 27=some false:=by kernel_rfl
theorem Tryz.size27:zL Tryz.prog 27=some 1:=by kernel_rfl
theorem Tryz.agg38:aggT Tryz.prog 38=some false:=by kernel_rfl
theorem Tryz.size38:zL Tryz.prog 38=some 1:=by kernel_rfl
theorem Tryz.row38:rowE Tryz.prog 38=(false,3):=by kernel_rfl
theorem Tryz.elem38:zbf Tryz.prog 38=some 1:=by kernel_rfl
theorem Tryz.app38:appT Tryz.prog 38=some (1,8,true):=by kernel_rfl
theorem Tryz.bld38:zcj Tryz.prog 38=some (1,(.int .i64 0)):=by kernel_rfl
theorem Tryz.zeroE38:zeroE Tryz.prog 38=some (.int .i64 0):=by kernel_rfl
theorem Tryz.agg59:aggT Tryz.prog 59=some false:=by kernel_rfl
theorem Tryz.size59:zL Tryz.prog 59=some 1:=by kernel_rfl
theorem Tryz.zero59:zaU Tryz.prog 59=some (.pointer none):=by kernel_rfl
theorem Tryz.self59:zlT Tryz.prog 59=false:=by kernel_rfl
theorem Tryz.zero65:zaU Tryz.prog 65=some (.agg ([(.slice none 0 0),(.slice none 0 0),(.slice none 0 0),(.slice none 0 0),(.slice none 0 0),(.int .i64 0)]:List Value).toArray):=by kernel_rfl
theorem Tryz.places65:zdS Tryz.prog 65=some [(0,4),(4,1),(5,1)]:=by kernel_rfl
theorem Tryz.field65_0:zbE Tryz.prog 65 0=some (0,true,4):=by kernel_rfl
theorem Tryz.field65_1:zbE Tryz.prog 65 1=some (4,false,1):=by kernel_rfl
theorem Tryz.field65_2:zbE Tryz.prog 65 2=some (5,false,1):=by kernel_rfl
theorem Tryz.agg67:aggT Tryz.prog 67=some true:=by kernel_rfl
theorem Tryz.size67:zL Tryz.prog 67=some 2:=by kernel_rfl
theorem Tryz.zero67:zaU Tryz.prog 67=some (.agg ([(.string ⟨([]:List UInt8).toArray⟩),(.slice none 0 0)]:List Value).toArray):=by kernel_rfl
theorem Tryz.self67:zlT Tryz.prog 67=false:=by kernel_rfl
theorem Tryz.places67:zdS Tryz.prog 67=some [(0,1),(1,1)]:=by kernel_rfl
theorem Tryz.field67_0:zbE Tryz.prog 67 0=some (0,false,1):=by kernel_rfl
theorem Tryz.field67_1:zbE Tryz.prog 67 1=some (1,false,1):=by kernel_rfl
theorem Tryz.elem75:zbf Tryz.prog 75=some 1:=by kernel_rfl
theorem Tryz.bld75:zcj Tryz.prog 75=some (1,(.slice none 0 0)):=by kernel_rfl
theorem Tryz.agg150:aggT Tryz.prog 150=some true:=by kernel_rfl
theorem Tryz.size150:zL Tryz.prog 150=some 3:=by kernel_rfl
theorem Tryz.zero150:zaU Tryz.prog 150=some (.agg ([(.bool false),(.string ⟨([]:List UInt8).toArray⟩),(.string ⟨([]:List UInt8).toArray⟩)]:List Value).toArray):=by kernel_rfl
theorem Tryz.self150:zlT Tryz.prog 150=false:=by kernel_rfl
theorem Tryz.places150:zdS Tryz.prog 150=some [(0,1),(1,1),(2,1)]:=by kernel_rfl
theorem Tryz.field150_0:zbE Tryz.prog 150 0=some (0,false,1):=by kernel_rfl
theorem Tryz.field150_1:zbE Tryz.prog 150 1=some (1,false,1):=by kernel_rfl
theorem Tryz.field150_2:zbE Tryz.prog 150 2=some (2,false,1):=by kernel_rfl
theorem Tryz.agg152:aggT Tryz.prog 152=some false:=by kernel_rfl
theorem Tryz.size152:zL Tryz.prog 152=some 1:=by kernel_rfl
theorem Tryz.zero182:zaU Tryz.prog 182=some (.agg ([]:List Value).toArray):=by kernel_rfl
theorem Tryz.places182:zdS Tryz.prog 182=some []:=by kernel_rfl
theorem Tryz.row183:rowE Tryz.prog 183=(false,185):=by kernel_rfl
theorem Tryz.elem183:zbf Tryz.prog 183=some 1:=by kernel_rfl
theorem Tryz.app183:appT Tryz.prog 183=some (1,8,true):=by kernel_rfl
theorem Tryz.bld183:zcj Tryz.prog 183=some (1,(.int .u64 0)):=by kernel_rfl
theorem Tryz.zeroE183:zeroE Tryz.prog 183=some (.int .u64 0):=by kernel_rfl
theorem Tryz.agg185:aggT Tryz.prog 185=some false:=by kernel_rfl
theorem Tryz.size185:zL Tryz.prog 185=some 1:=by kernel_rfl
theorem Tryz.agg197:aggT Tryz.prog 197=some false:=by kernel_rfl
theorem Tryz.size197:zL Tryz.prog 197=some 1:=by kernel_rfl
theorem Tryz.row197:rowE Tryz.prog 197=(true,5):=by kernel_rfl
theorem Tryz.elem197:zbf Tryz.prog 197=some 1:=by kernel_rfl
theorem Tryz.app197:appT Tryz.prog 197=some (1,1,true):=by kernel_rfl
theorem Tryz.bld197:zcj Tryz.prog 197=some (1,(.int .u8 0)):=by kernel_rfl
theorem Tryz.agg222:aggT Tryz.prog 222=some false:=by kernel_rfl
theorem Tryz.size222:zL Tryz.prog 222=some 1:=by kernel_rfl
theorem Tryz.zero224:zaU Tryz.prog 224=some (.agg ([(.pointer none),(.slice none 0 0)]:List Value).toArray):=by kernel_rfl
theorem Tryz.self224:zlT Tryz.prog 224=true:=by kernel_rfl
theorem Tryz.field224_0:zbE Tryz.prog 224 0=some (0,false,1):=by kernel_rfl
theorem Tryz.field224_1:zbE Tryz.prog 224 1=some (1,false,1):=by kernel_rfl
attribute [go_sem] Tryz.agg3 Tryz.size3 Tryz.underlying3 Tryz.agg4 Tryz.size4 Tryz.underlying4 Tryz.agg5 Tryz.size5 Tryz.underlying5 Tryz.agg9 Tryz.size9 Tryz.zero9 Tryz.underlying9 Tryz.underlying20 Tryz.agg22 Tryz.size22 Tryz.underlying22 Tryz.row22 Tryz.elem22 Tryz.app22 Tryz.bld22 Tryz.agg23 Tryz.size23 Tryz.underlying23 Tryz.elem23 Tryz.bld23 Tryz.agg25 Tryz.size25 Tryz.underlying25 Tryz.field25_0 Tryz.field25_1 Tryz.field25_2 Tryz.field25_3 Tryz.agg27 Tryz.size27 Tryz.underlying27 Tryz.agg38 Tryz.size38 Tryz.underlying38 Tryz.row38 Tryz.elem38 Tryz.app38 Tryz.bld38 Tryz.zeroE38 Tryz.underlying40 Tryz.underlying42 Tryz.underlying51 Tryz.agg59 Tryz.size59 Tryz.zero59 Tryz.underlying59 Tryz.self59 Tryz.underlying63 Tryz.zero65 Tryz.underlying65 Tryz.places65 Tryz.field65_0 Tryz.field65_1 Tryz.field65_2 Tryz.agg67 Tryz.size67 Tryz.zero67 Tryz.underlying67 Tryz.self67 Tryz.places67 Tryz.field67_0 Tryz.field67_1 Tryz.underlying69 Tryz.underlying71 Tryz.underlying73 Tryz.underlying75 Tryz.elem75 Tryz.bld75 Tryz.underlying76 Tryz.underlying79 Tryz.underlying80 Tryz.underlying82 Tryz.underlying85 Tryz.underlying102 Tryz.underlying108 Tryz.underlying111 Tryz.underlying146 Tryz.agg150 Tryz.size150 Tryz.zero150 Tryz.underlying150 Tryz.self150 Tryz.places150 Tryz.field150_0 Tryz.field150_1 Tryz.field150_2 Tryz.agg152 Tryz.size152 Tryz.underlying152 Tryz.underlying180 Tryz.zero182 Tryz.underlying182 Tryz.places182 Tryz.underlying183 Tryz.row183 Tryz.elem183 Tryz.app183 Tryz.bld183 Tryz.zeroE183 Tryz.agg185 Tryz.size185 Tryz.underlying185 Tryz.agg197 Tryz.size197 Tryz.underlying197 Tryz.row197 Tryz.elem197 Tryz.app197 Tryz.bld197 Tryz.underlying218 Tryz.agg222 Tryz.size222 Tryz.underlying222 Tryz.zero224 Tryz.underlying224 Tryz.self224 Tryz.field224_0 Tryz.field224_1 Tryz.underlying227 Tryz.underlying232 Tryz.underlying235 Tryz.underlying244 Tryz.underlying248 Tryz.underlying251 Tryz.underlying255 Tryz.underlying262 Tryz.underlying263 Tryz.underlying265 Tryz.underlying266
end Go.Proofs

namespace Go.Ab
open Go.Cnt
def entV(e:Ent):List V:=[.str e.1.1,.str e.1.2,.int .i64 e.2]
def cnts(l:List Ent):List V:=l.flatMap entV
def nthE(l:List Ent)(i:Nat):Ent:=l.getD i (([],[]),0)
theorem zyG(e:Ent)(l:List Ent):cnts (e::l)=.str e.1.1::.str e.1.2::.int .i64 e.2::cnts l:=rfl
theorem zma:∀ l:List Ent,∀ x∈cnts l,Pure x
 |[],_,h=>by cases h
 |e::l,x,h=>by
  rw [zyG]at h;simp only [List.mem_cons]at h;rcases h with rfl|rfl|rfl|h
  ·exact .str _
  ·exact .str _
  ·exact .int _ _
  ·exact zma l x h
theorem zi2(l:List Ent):(∀ x∈cnts l,Pure x)↔True:=⟨fun _=>trivial,fun _=>zma l⟩
attribute [go_sem] zi2
attribute [go_sem] List.map_cons List.map_nil List.all_cons List.all_nil
attribute [push_cast] zi2
end Go.Ab

namespace Go.Proofs
open Go.Ab
theorem mixed:Tryz.prog.follows .mixedOrders=true:=by kernel_rfl
theorem call8:zi Tryz.prog 8:=fun a w=>by kernel_rfl
theorem call12:zi Tryz.prog 12:=fun a w=>by kernel_rfl
theorem call13:zi Tryz.prog 13:=fun a w=>by kernel_rfl
theorem call14:zi Tryz.prog 14:=fun a w=>by kernel_rfl
theorem call16:zi Tryz.prog 16:=fun a w=>by kernel_rfl
theorem call30:zi Tryz.prog 30:=fun a w=>by kernel_rfl
theorem call33:zi Tryz.prog 33:=fun a w=>by kernel_rfl
theorem call34:zi Tryz.prog 34:=fun a w=>by kernel_rfl
theorem call35:zi Tryz.prog 35:=fun a w=>by kernel_rfl
theorem call36:zi Tryz.prog 36:=fun a w=>by kernel_rfl
theorem call37:zi Tryz.prog 37:=fun a w=>by kernel_rfl
theorem call38:zi Tryz.prog 38:=fun a w=>by kernel_rfl
theorem call39:zi Tryz.prog 39:=fun a w=>by kernel_rfl
theorem call40:zi Tryz.prog 40:=fun a w=>by kernel_rfl
theorem call41:zi Tryz.prog 41:=fun a w=>by kernel_rfl
theorem call42:zi Tryz.prog 42:=fun a w=>by kernel_rfl
theorem call43:zi Tryz.prog 43:=fun a w=>by kernel_rfl
theorem call54:zi Tryz.prog 54:=fun a w=>by kernel_rfl
theorem call55:zi Tryz.prog 55:=fun a w=>by kernel_rfl
theorem call56:zi Tryz.prog 56:=fun a w=>by kernel_rfl
theorem call64:zi Tryz.prog 64:=fun a w=>by kernel_rfl
theorem call65:zi Tryz.prog 65:=fun a w=>by kernel_rfl
theorem call66:zi Tryz.prog 66:=fun a w=>by kernel_rfl
theorem call67:zi Tryz.prog 67:=fun a w=>by kernel_rfl
theorem call68:zi Tryz.prog 68:=fun a w=>by kernel_rfl
theorem call69:zi Tryz.prog 69:=fun a w=>by kernel_rfl
theorem call70:zi Tryz.prog 70:=fun a w=>by kernel_rfl
theorem call71:zi Tryz.prog 71:=fun a w=>by kernel_rfl
theorem call72:zi Tryz.prog 72:=fun a w=>by kernel_rfl
theorem call83:zi Tryz.prog 83:=fun a w=>by kernel_rfl
theorem call84:zi Tryz.prog 84:=fun a w=>by kernel_rfl
theorem call85:zi Tryz.prog 85:=fun a w=>by kernel_rfl
theorem call86:zi Tryz.prog 86:=fun a w=>by kernel_rfl
theorem call87:zi Tryz.prog 87:=fun a w=>by kernel_rfl
theorem call88:zi Tryz.prog 88:=fun a w=>by kernel_rfl
theorem call89:zi Tryz.prog 89:=fun a w=>by kernel_rfl
theorem call103:zi Tryz.prog 103:=fun a w=>by kernel_rfl
theorem call104:zi Tryz.prog 104:=fun a w=>by kernel_rfl
theorem call106:zi Tryz.prog 106:=fun a w=>by kernel_rfl
theorem call107:zi Tryz.prog 107:=fun a w=>by kernel_rfl
theorem call108:zi Tryz.prog 108:=fun a w=>by kernel_rfl
theorem call109:zi Tryz.prog 109:=fun a w=>by kernel_rfl
theorem call110:zi Tryz.prog 110:=fun a w=>by kernel_rfl
theorem zza:zi Tryz.prog 111:=fun a w=>by kernel_rfl
theorem call112:zi Tryz.prog 112:=fun a w=>by kernel_rfl
theorem zy9:zi Tryz.prog 113:=fun a w=>by kernel_rfl
theorem call114:zi Tryz.prog 114:=fun a w=>by kernel_rfl
theorem call115:zi Tryz.prog 115:=fun a w=>by kernel_rfl
theorem call116:zi Tryz.prog 116:=fun a w=>by kernel_rfl
theorem call117:zi Tryz.prog 117:=fun a w=>by kernel_rfl
theorem zy8:zi Tryz.prog 118:=fun a w=>by kernel_rfl
theorem call119:zi Tryz.prog 119:=fun a w=>by kernel_rfl
theorem call128:zi Tryz.prog 128:=fun a w=>by kernel_rfl
theorem call129:zi Tryz.prog 129:=fun a w=>by kernel_rfl
theorem call130:zi Tryz.prog 130:=fun a w=>by kernel_rfl
theorem call131:zi Tryz.prog 131:=fun a w=>by kernel_rfl
theorem call132:zi Tryz.prog 132:=fun a w=>by kernel_rfl
theorem call133:zi Tryz.prog 133:=fun a w=>by kernel_rfl
theorem call134:zi Tryz.prog 134:=fun a w=>by kernel_rfl
theorem call135:zi Tryz.prog 135:=fun a w=>by kernel_rfl
theorem call143:zi Tryz.prog 143:=fun a w=>by kernel_rfl
theorem call145:zi Tryz.prog 145:=fun a w=>by kernel_rfl
theorem zy6:zi Tryz.prog 147:=fun a w=>by kernel_rfl
theorem call148:zi Tryz.prog 148:=fun a w=>by kernel_rfl
theorem call149:zi Tryz.prog 149:=fun a w=>by kernel_rfl
theorem call150:zi Tryz.prog 150:=fun a w=>by kernel_rfl
theorem call151:zi Tryz.prog 151:=fun a w=>by kernel_rfl
theorem call152:zi Tryz.prog 152:=fun a w=>by kernel_rfl
theorem zy5:zi Tryz.prog 153:=fun a w=>by kernel_rfl
theorem call154:zi Tryz.prog 154:=fun a w=>by kernel_rfl
theorem call155:zi Tryz.prog 155:=fun a w=>by kernel_rfl
theorem call156:zi Tryz.prog 156:=fun a w=>by kernel_rfl
theorem call157:zi Tryz.prog 157:=fun a w=>by kernel_rfl
theorem call158:zi Tryz.prog 158:=fun a w=>by kernel_rfl
theorem zy4:zi Tryz.prog 159:=fun a w=>by kernel_rfl
theorem call178:zi Tryz.prog 178:=fun a w=>by kernel_rfl
theorem call179:zi Tryz.prog 179:=fun a w=>by kernel_rfl
theorem call180:zi Tryz.prog 180:=fun a w=>by kernel_rfl
theorem call181:zi Tryz.prog 181:=fun a w=>by kernel_rfl
theorem call182:zi Tryz.prog 182:=fun a w=>by kernel_rfl
theorem call183:zi Tryz.prog 183:=fun a w=>by kernel_rfl
theorem call184:zi Tryz.prog 184:=fun a w=>by kernel_rfl
theorem call185:zi Tryz.prog 185:=fun a w=>by kernel_rfl
theorem call186:zi Tryz.prog 186:=fun a w=>by kernel_rfl
theorem call207:zi Tryz.prog 207:=fun a w=>by kernel_rfl
theorem call208:zi Tryz.prog 208:=fun a w=>by kernel_rfl
theorem call209:zi Tryz.prog 209:=fun a w=>by kernel_rfl
theorem zpx:zi Tryz.prog 210:=fun a w=>by kernel_rfl
theorem zdC:zi Tryz.prog 211:=fun a w=>by kernel_rfl
theorem call212:zi Tryz.prog 212:=fun a w=>by kernel_rfl
theorem call213:zi Tryz.prog 213:=fun a w=>by kernel_rfl
theorem call214:zi Tryz.prog 214:=fun a w=>by kernel_rfl
theorem zy3:zi Tryz.prog 215:=fun a w=>by kernel_rfl
theorem call216:zi Tryz.prog 216:=fun a w=>by kernel_rfl
theorem call217:zi Tryz.prog 217:=fun a w=>by kernel_rfl
theorem call218:zi Tryz.prog 218:=fun a w=>by kernel_rfl
theorem call228:zi Tryz.prog 228:=fun a w=>by kernel_rfl
theorem call229:zi Tryz.prog 229:=fun a w=>by kernel_rfl
theorem zy2:zi Tryz.prog 230:=fun a w=>by kernel_rfl
theorem call232:zi Tryz.prog 232:=fun a w=>by kernel_rfl
theorem call235:zi Tryz.prog 235:=fun a w=>by kernel_rfl
theorem call239:zi Tryz.prog 239:=fun a w=>by kernel_rfl
end Go.Proofs

namespace Go.Ab
structure Row(α:Type) where
 enc:α→List V
 n:Nat
 dflt:α
 len:∀ a,(enc a).length=n
 pos:0<n
 pure:∀ a,∀ x∈enc a,Pure x
 one:∀ a,(enc a).all V.one=true
 inj:∀ a b,enc a=enc b→a=b
namespace Row
variable {α:Type}(R:Row α)
def cells(l:List α):List V:=l.flatMap R.enc
def nth(l:List α)(i:Nat):α:=l.getD i R.dflt
theorem zyQ:R.cells []=[]:=rfl
theorem cells_cons(e:α)(l:List α):R.cells (e::l)=R.enc e++R.cells l:=rfl
theorem len_cells:∀ l:List α,(R.cells l).length=l.length*R.n
 |[]=>by simp [cells]
 |e::l=>by rw [cells_cons,List.length_append,R.len,len_cells l,List.length_cons,Nat.add_mul,Nat.one_mul,Nat.add_comm]
theorem zjt:∀(l:List α) (i:Nat),(R.cells l).drop (i*R.n)=R.cells (l.drop i)
 |l,0=>by simp
 |[],i+1=>by simp [zyQ]
 |e::l,i+1=>by rw [cells_cons,Nat.add_mul,Nat.one_mul,Nat.add_comm, ←List.drop_drop,show R.n=(R.enc e).length by rw [R.len],List.drop_left,R.len];exact zjt l i
theorem drop_nth:∀(l:List α) (i:Nat),i<l.length→l.drop i=R.nth l i::l.drop (i+1)
 |[],_,h=>by simp at h
 |e::l,0,_=>rfl
 |e::l,i+1,h=>by have:=drop_nth l i (by simpa using h);simpa [nth] using this
theorem nth_mem {l:List α}{i:Nat}(h:i<l.length):R.nth l i∈l:=by unfold nth;rw [List.getD_eq_getElem?_getD,List.getElem?_eq_getElem h];exact List.getElem_mem h
theorem at_(l:List α)(i:Nat)(h:i<l.length):(R.cells l).drop (i*R.n)=R.enc (R.nth l i)++R.cells (l.drop (i+1)):=by rw [zjt,R.drop_nth l i h,cells_cons]
theorem pure_cells(l:List α):∀ x∈R.cells l,Pure x:=fun x h=>by obtain⟨a,_,h⟩:=List.mem_flatMap.1 h;exact R.pure a x h
theorem pure_cellsP(l:List α):(∀ x∈R.cells l,Pure x)↔True:=⟨fun _=>trivial,fun _=>R.pure_cells l⟩
theorem one_cells(l:List α):(R.cells l).all V.one=true:=List.all_eq_true.2 fun x h=>by obtain⟨a,_,h⟩:=List.mem_flatMap.1 h;exact List.all_eq_true.1 (R.one a) x h
theorem cells_inj:∀ {l r:List α},R.cells l=R.cells r→l=r
 |[],[],_=>rfl
 |[],e::r,h=>by have:=congrArg List.length h;rw [len_cells,len_cells,List.length_cons,Nat.add_mul]at this;have:=R.pos;simp at *; omega
 |e::l,[],h=>by have:=congrArg List.length h;rw [len_cells,len_cells,List.length_cons,Nat.add_mul]at this;have:=R.pos;simp at *; omega
 |e::l,e'::r,h=>by rw [cells_cons,cells_cons]at h;obtain⟨h1,h2⟩:=List.append_inj h (by rw [R.len,R.len]);rw [R.inj _ _ h1,cells_inj h2]
theorem lrel_cells {π:Nat→Nat}{N:Nat→Prop}(l:List α):LRel (Rn π N) (R.cells l) (R.cells l)↔True:=⟨fun _=>trivial,fun _=>zA (R.pure_cells l)⟩
theorem all_t {p:α→Bool}{l:List α}(h:∀ i,i<l.length→p (R.nth l i)=true):l.all p=true:=by refine List.all_eq_true.2 fun x hx=>?_;obtain⟨i,hi,rfl⟩:=List.mem_iff_getElem.1 hx;have:=h i hi;unfold nth at this;rwa [List.getD_eq_getElem?_getD,List.getElem?_eq_getElem hi]at this
theorem all_f {p:α→Bool}{l:List α}{i:Nat}(hi:i<l.length)(h:p (R.nth l i)=false):l.all p=false:=by
 cases e:l.all p with
 |false=>rfl
 |true=>rw [List.all_eq_true.1 e _ (R.nth_mem hi)]at h;cases h
end Row
end Go.Ab

namespace Go.Ab
def gW(W:World):G:=⟨fun _=>none,fun c=>match W.heap[c]? with|some (.cells arr _ _)=>some arr|_=>none⟩
theorem gW_of {W:World}{c:Nat}{arr:Array Value}{t:TypeId}{fr:Nat×Nat}(h:W.heap[c]? =some (.cells arr t fr)):(gW W).phi c=some arr:=by simp only [gW,h]
theorem gW_frz {W:World}:∀ c arr,(gW W).phi c=some arr→∃ t fr,W.heap[c]? =some (.cells arr t fr):=by
 intro c arr e;simp only [gW]at e;split at e
 ·rename_i a t fr h;cases e;exact⟨t,fr,h⟩
 ·cases e
theorem zyV {W:World}{a:Addr}{v:Value}(h:W.cell? a=some v):a.spot=none∧∃ arr t fr,W.heap[a.block]? =some (.cells arr t fr)∧arr[a.off]? =some v:=by
 unfold World.cell? at h;split at h
 ·rename_i arr t fr hb;split at h
  ·cases h
  ·rename_i hs;refine⟨?_,arr,t,fr,hb,h⟩;cases e:a.spot with
   |none=>rfl
   |some x=>rw [e]at hs;simp at hs
 ·cases h
def strR:Row (List UInt8) where
 enc s:=[.str s]
 n:=1
 dflt:=[]
 len _:=rfl
 pos:=by decide
 pure a x h:=by simp only [List.mem_cons,List.not_mem_nil,or_false]at h;subst h;exact .str _
 one _:=rfl
 inj a b h:=by simpa using h
def intR(k:IntKind):Row Int where
 enc s:=[.int k s]
 n:=1
 dflt:=0
 len _:=rfl
 pos:=by decide
 pure a x h:=by simp only [List.mem_cons,List.not_mem_nil,or_false]at h;subst h;exact .int _ _
 one _:=rfl
 inj a b h:=by simpa using h
def boolR:Row Bool where
 enc s:=[.bool s]
 n:=1
 dflt:=false
 len _:=rfl
 pos:=by decide
 pure a x h:=by simp only [List.mem_cons,List.not_mem_nil,or_false]at h;subst h;exact .bool _
 one _:=rfl
 inj a b h:=by simpa using h
def slR {α:Type}(R:Row α):Row (List α) where
 enc l:=[.fs (R.cells l) l.length]
 n:=1
 dflt:=[]
 len _:=rfl
 pos:=by decide
 pure a x h:=by simp only [List.mem_cons,List.not_mem_nil,or_false]at h;subst h;exact .fs (R.pure_cells a)
 one _:=rfl
 inj a b h:=by simp only [List.cons.injEq,V.fs.injEq,and_true]at h;exact R.cells_inj h.1
def zkk {α β:Type}(R:Row α)(S:Row β):Row (α×β) where
 enc p:=R.enc p.1++S.enc p.2
 n:=R.n+S.n
 dflt:=(R.dflt,S.dflt)
 len a:=by rw [List.length_append,R.len,S.len]
 pos:=by have:=R.pos;omega
 pure a x h:=(List.mem_append.1 h).elim (R.pure _ x) (S.pure _ x)
 one a:=by rw [List.all_append,R.one,S.one];rfl
 inj a b h:=by obtain⟨h1,h2⟩:=List.append_inj h (by rw [R.len,R.len]);exact Prod.ext (R.inj _ _ h1) (S.inj _ _ h2)
def CR(W:World)(l:List V)(cs:List Value):Prop:=cs.length=l.length∧∀(k:Nat) (y:V),l[k]? =some y→∃ v,cs[k]? =some v∧VRel (gW W) y v
theorem CR.one {W:World}{y:V}{v:Value}(h:VRel (gW W) y v):CR W [y] [v]:=⟨rfl,fun k x e=>by
 match k with
 |0=>cases e;exact⟨v,rfl,h⟩
 |k+1=>simp at e⟩
theorem CR.app {W:World}{l r:List V}{cs:List Value}{n m:Nat}(hl:l.length=n)(hr:r.length=m)(hc:cs.length=n+m)(h:CR W l ((cs.drop 0).take n))(k:CR W r ((cs.drop n).take m)):CR W (l++r) cs:=by
 refine⟨by rw [List.length_append];omega,fun i y e=>?_⟩;by_cases hi:i<l.length
 ·rw [List.getElem?_append_left hi]at e;obtain⟨v,h1,h2⟩:=h.2 i y e;rw [List.drop_zero,List.getElem?_take,if_pos (by omega)]at h1;exact⟨v,h1,h2⟩
 ·rw [List.getElem?_append_right (by omega)]at e;obtain⟨v,h1,h2⟩:=k.2 _ y e;have hlt:=(List.getElem?_eq_some_iff.1 h1).1;rw [List.length_take]at hlt;rw [List.getElem?_take,if_pos (by omega),List.getElem?_drop]at h1;rw [show n+(i - l.length)=i by omega]at h1;exact⟨v,h1,h2⟩
structure Dec(P:Program)(t:TypeId){α:Type}(R:Row α)(ok:α→Prop):Prop where
 n:P.cellsOf t=R.n
 dec:∀ {H:Type} {enc:TypeId×Value→H} {W:World} {base:Nat} {held:Bool} {fuel:Nat} {cs:List Value} {x:DataW H×List MemPlace},
  DataW.trod enc P W base (fun _=>true) held fuel t cs=some x→(∀ n∈x.1.weights P t,n≤reachBytes)→∃ a,ok a∧CR W (R.enc a) cs
variable {P:Program}
theorem Dec.str {t:TypeId}(ht:P.underlying t=some .string)(hc:P.cellsOf t=1):Dec P t strR (fun s=>s.length≤reachBytes):=⟨hc,fun h hw=>by obtain⟨s,e,ex,_⟩:=DataW.trod_string ht h;subst e;rw [ex]at hw;refine⟨s.data.toList,hw _ ?_,CR.one (.str rfl)⟩;simp [DataW.weights]⟩
theorem Dec.int {t:TypeId}{k:IntKind}(ht:P.underlying t=some (.int k))(hc:P.cellsOf t=1):Dec P t (intR k) (fun n=>(Lit.int k n).wf=true):=⟨hc,fun h _=>by obtain⟨n,e,ex,hw⟩:=DataW.trod_int ht h;subst e;exact⟨n,hw,CR.one (.int _ _)⟩⟩
theorem Dec.bool {t:TypeId}(ht:P.underlying t=some .bool)(hc:P.cellsOf t=1):Dec P t boolR (fun _=>True):=⟨hc,fun h _=>by obtain⟨n,e,ex⟩:=DataW.trod_bool ht h;subst e;exact⟨n,trivial,CR.one (.bool _)⟩⟩
theorem weightsAll_mem {H:Type}{e:TypeId}:∀ {l:List (DataW H)} {d:DataW H},d∈l→∀ n∈d.weights P e,n∈DataW.weightsAll P e l
 |[],_,h,_,_=>by cases h
 |x::l,d,h,n,hn=>by
  rw [DataW.weightsAll];rcases List.mem_cons.1 h with rfl|h
  ·exact List.mem_append_left _ hn
  ·exact List.mem_append_right _ (weightsAll_mem h n hn)
theorem Dec.slice {t e:TypeId}{α:Type}{R:Row α}{ok:α→Prop}(d:Dec P e R ok)(ht:P.underlying t=some (.slice e))(hc:P.cellsOf t=1)(hb:0<P.bytesOf e):
 Dec P t (slR R) (fun l=>l.length≤reachBytes∧∀ a∈l,ok a):=⟨hc,fun {H enc W base held fuel cs x} h hw=>by
 rcases Go.Deep.open_slice ht h with⟨hv,hx⟩|⟨a,len,cap,m,k,D,Pl,hv,_,hl,_,hm,hx,hel⟩
 ·subst hv
  exact⟨[],⟨by simp,fun a ha=>by cases ha⟩,CR.one (.fs0 fun _=>rfl)⟩
 subst hv
 have hm':m=cap:=by rw [hm];rfl
 subst hm'
 clear hm
 rw [hx]at hw
 simp only [DataW.weights,ht]at hw
 have hlen:len≤reachBytes:=by have:=hw ((((List.range len).map D).length+((List.range (m - len)).map fun j=>D (len+j)).length)*P.bytesOf e) (List.mem_cons_self ..);simp only [List.length_map,List.length_range]at this;have h2:len*1≤(len+(m - len))*P.bytesOf e:=Nat.mul_le_mul (by omega) hb;omega
 have hD:∀ i,i<len→∀ n∈(D i).weights P e,n≤reachBytes:=fun i hi n hn=>
  hw n (List.mem_cons_of_mem _ (List.mem_append_left _ (weightsAll_mem (List.mem_map.2 ⟨i,List.mem_range.2 hi,rfl⟩) n hn)))
 by_cases h0:len=0
 ·subst h0
  exact⟨[],⟨by simp,fun a ha=>by cases ha⟩,CR.one (.fs0 fun h=>by cases h)⟩
 rw [d.n]at hel
 have hell:∀ i,i<len→∃(x:α) (cs':List Value),ok x∧W.cells? base (a.add (i*R.n)) R.n=some cs'∧CR W (R.enc x) cs':=fun i hi=>by obtain⟨cs',h1,h2⟩:=hel i (by omega);obtain⟨x,h3,h4⟩:=d.dec h2 (hD i hi);exact⟨x,cs',h3,h1,h4⟩
 obtain⟨x0,cs0,_,hc0,hr0⟩:=hell 0 (by omega)
 have hn0:=R.pos
 have hc00:=(World.cells?_some hc0).2.2 0 hn0
 have ha0:(a.add (0*R.n)).add 0=a:=by rw [Nat.zero_mul];rfl
 rw [ha0]at hc00
 have hsome:∃ v,cs0[0]? =some v:=by have:=hr0.1;rw [R.len]at this;exact⟨cs0[0],List.getElem?_eq_getElem (by omega)⟩
 obtain⟨v0,hv0⟩:=hsome
 rw [hv0]at hc00
 obtain⟨hsp,arr,ty,fr,hb',_⟩:=zyV hc00
 obtain⟨b,off,sp⟩:=a
 simp only at hsp hb'
 subst hsp
 have hat:∀ o i,((⟨b,o,none⟩:Addr).add i)=⟨b,o+i,none⟩:=fun o i=>by
  unfold Addr.add;split
  ·rename_i h;rw [h];rfl
  ·rfl
 have hget:∀ i,i<len→∃ x:α,ok x∧∀(j:Nat) (y:V),(R.enc x)[j]? =some y→∃ v,arr[off+(i*R.n+j)]? =some v∧VRel (gW W) y v:=fun i hi=>by
  obtain⟨x,cs',h1,h2,h3⟩:=hell i hi;refine⟨x,h1,fun j y hy=>?_⟩;obtain⟨v,h4,h5⟩:=h3.2 j y hy;have hj:j<R.n:=by have:=(List.getElem?_eq_some_iff.1 hy).1;rwa [R.len]at this
  have:=(World.cells?_some h2).2.2 j hj;rw [hat,hat]at this;unfold World.cell? at this;rw [hb']at this;refine⟨v,?_,h5⟩;rw [←Nat.add_assoc];have h6:arr[off+i*R.n+j]? =cs'[j]? :=this;rw [h6,h4]
 let f:Nat→α:=fun i=>if h:i<len then Classical.choose (hget i h)else R.dflt
 have hf:∀ i,i<len→ok (f i)∧∀(j:Nat) (y:V),(R.enc (f i))[j]? =some y→∃ v,arr[off+(i*R.n+j)]? =some v∧VRel (gW W) y v:=fun i hi=>by have e:f i=Classical.choose (hget i hi):=dif_pos hi;rw [e];exact Classical.choose_spec (hget i hi)
 have hll:((List.range len).map f).length=len:=by simp
 refine⟨(List.range len).map f,⟨by rw [hll];exact hlen,fun x hx=>?_⟩,CR.one ?_⟩
 ·obtain⟨i,hi,rfl⟩:=List.mem_map.1 hx
  exact(hf i (List.mem_range.1 hi)).1
 rw [hll]
 refine VRel.mk_fs (gW_of hb') hl fun i x hx=>?_
 have hi:i<len*R.n:=by have:=(List.getElem?_eq_some_iff.1 hx).1;rwa [R.len_cells,hll]at this
 have hq:i / R.n<len:=(Nat.div_lt_iff_lt_mul hn0).2 hi
 have hr:=Nat.mod_lt i hn0
 have he:i=i / R.n*R.n+i % R.n:=by have:=Nat.div_add_mod i R.n;rw [Nat.mul_comm]at this;omega
 have hcell:(R.enc (f (i / R.n)))[i % R.n]? =some x:=by
  have h1:=R.at_ ((List.range len).map f) (i / R.n) (by rw [hll];exact hq);have h2:R.nth ((List.range len).map f) (i / R.n)=f (i / R.n):=by unfold Row.nth;rw [List.getD_eq_getElem?_getD,List.getElem?_map,List.getElem?_range hq];rfl
  rw [h2]at h1;have h3:((R.cells ((List.range len).map f)).drop (i / R.n*R.n))[i % R.n]? =some x:=by rw [List.getElem?_drop, ←he];exact hx
  rwa [h1,List.getElem?_append_left (by rw [R.len];exact hr)]at h3
 obtain⟨v,h1,h2⟩:=(hf _ hq).2 _ x hcell
 exact⟨v,by rw [←he]at h1;exact h1,h2⟩⟩
theorem weightsEach_cons {H:Type}(t:TypeId)(ts:List TypeId)(d:DataW H)(r:List (DataW H)):DataW.weightsEach P (t::ts) (d::r)=d.weights P t++DataW.weightsEach P ts r:=by rw [DataW.weightsEach]
theorem Dec.two {t:TypeId}{f0 f1:Field}{α β:Type}{R:Row α}{S:Row β}{ok:α→Prop}{ok':β→Prop}(ht:P.underlying t=some (.struct #[f0,f1]))(d0:Dec P f0.type R ok)(d1:Dec P f1.type S ok')
 (o0:f0.offset=0) (o1:f1.offset=R.n) (hc:P.cellsOf t=R.n+S.n):Dec P t (zkk R S) (fun a=>ok a.1∧ok' a.2):=⟨hc,fun {H enc W base held fuel cs x} h hw=>by
 obtain⟨y0,y1,m,hx,hl,h0,h1⟩:=Go.ChangeShapes.trod_struct2 ht h
 rw [hx]at hw
 simp only [DataW.weights,ht,List.map_cons,List.map_nil,weightsEach_cons]at hw
 obtain⟨a,k0,r0⟩:=d0.dec h0 fun n hn=>hw n (List.mem_append_left _ hn)
 obtain⟨b,k1,r1⟩:=d1.dec h1 fun n hn=>hw n (List.mem_append_right _ (List.mem_append_left _ hn))
 rw [o0,d0.n]at r0
 rw [o1,d1.n]at r1
 exact⟨(a,b),⟨k0,k1⟩,CR.app (R.len a) (S.len b) (by omega) r0 r1⟩⟩
theorem zcW {α:Type}(l:List α)(n m:Nat)(h:n≤m):(((l.drop 0).take m).drop 0).take n=(l.drop 0).take n:=by rw [List.drop_zero,List.drop_zero,List.take_take,Nat.min_eq_left h]
theorem Dec.three {t:TypeId}{f0 f1 f2:Field}{α β γ:Type}{R:Row α}{S:Row β}{T:Row γ}{ok:α→Prop}{ok':β→Prop}{ok'':γ→Prop}
 (ht:P.underlying t=some (.struct #[f0,f1,f2])) (d0:Dec P f0.type R ok) (d1:Dec P f1.type S ok') (d2:Dec P f2.type T ok'') (o0:f0.offset=0) (o1:f1.offset=R.n) (o2:f2.offset=R.n+S.n) (hc:P.cellsOf t=R.n+S.n+T.n):Dec P t (zkk (zkk R S) T) (fun a=>(ok a.1.1∧ok' a.1.2)∧ok'' a.2):=⟨hc,fun {H enc W base held fuel cs x} h hw=>by
 obtain⟨y0,y1,y2,m,hx,hl,h0,h1,h2⟩:=Go.Deep.trod_struct3 ht h
 rw [hx]at hw
 simp only [DataW.weights,ht,List.map_cons,List.map_nil,weightsEach_cons]at hw
 obtain⟨a,k0,r0⟩:=d0.dec h0 fun n hn=>hw n (List.mem_append_left _ hn)
 obtain⟨b,k1,r1⟩:=d1.dec h1 fun n hn=>hw n (List.mem_append_right _ (List.mem_append_left _ hn))
 obtain⟨c,k2,r2⟩:=d2.dec h2 fun n hn=>hw n (List.mem_append_right _ (List.mem_append_right _ (List.mem_append_left _ hn)))
 rw [o0,d0.n]at r0
 rw [o1,d1.n]at r1
 rw [o2,d2.n]at r2
 refine⟨((a,b),c),⟨⟨k0,k1⟩,k2⟩,CR.app (n:=R.n+S.n) (m:=T.n) (by show (R.enc a++S.enc b).length=_;rw [List.length_append,R.len,S.len]) (T.len c) (by omega) ?_ r2⟩
 refine CR.app (R.len a) (S.len b) (by rw [List.drop_zero,List.length_take];omega) ?_ ?_
 ·rw [zcW _ _ _ (by omega)];exact r0
 ·rw [List.drop_zero,List.drop_take,Nat.add_sub_cancel_left,List.take_take,Nat.min_self];exact r1⟩
theorem Dec.four {t:TypeId}{f0 f1 f2 f3:Field}{α β γ δ:Type}{R:Row α}{S:Row β}{T:Row γ}{U:Row δ}{ok:α→Prop}{ok':β→Prop}{ok'':γ→Prop}{ok3:δ→Prop}
 (ht:P.underlying t=some (.struct #[f0,f1,f2,f3])) (d0:Dec P f0.type R ok) (d1:Dec P f1.type S ok') (d2:Dec P f2.type T ok'') (d3:Dec P f3.type U ok3) (o0:f0.offset=0) (o1:f1.offset=R.n) (o2:f2.offset=R.n+S.n) (o3:f3.offset=R.n+S.n+T.n) (hc:P.cellsOf t=R.n+S.n+T.n+U.n):
 Dec P t (zkk (zkk (zkk R S) T) U) (fun a=>((ok a.1.1.1∧ok' a.1.1.2)∧ok'' a.1.2)∧ok3 a.2):=⟨hc,fun {H enc W base held fuel cs x} h hw=>by
 obtain⟨y0,y1,y2,y3,m,hx,hl,h0,h1,h2,h3⟩:=Go.Joins.trod_struct4 ht h
 rw [hx]at hw
 simp only [DataW.weights,ht,List.map_cons,List.map_nil,weightsEach_cons]at hw
 obtain⟨a,k0,r0⟩:=d0.dec h0 fun n hn=>hw n (List.mem_append_left _ hn)
 obtain⟨b,k1,r1⟩:=d1.dec h1 fun n hn=>hw n (List.mem_append_right _ (List.mem_append_left _ hn))
 obtain⟨c,k2,r2⟩:=d2.dec h2 fun n hn=>hw n (List.mem_append_right _ (List.mem_append_right _ (List.mem_append_left _ hn)))
 obtain⟨d,k3,r3⟩:=d3.dec h3 fun n hn=>hw n (List.mem_append_right _ (List.mem_append_right _ (List.mem_append_right _ (List.mem_append_left _ hn))))
 rw [o0,d0.n]at r0
 rw [o1,d1.n]at r1
 rw [o2,d2.n]at r2
 rw [o3,d3.n]at r3
 refine⟨(((a,b),c),d),⟨⟨⟨k0,k1⟩,k2⟩,k3⟩,CR.app (n:=R.n+S.n+T.n) (m:=U.n) (by show (R.enc a++S.enc b++T.enc c).length=_;rw [List.length_append,List.length_append,R.len,S.len,T.len]) (U.len d) (by omega) ?_ r3⟩
 refine CR.app (n:=R.n+S.n) (m:=T.n) (by show (R.enc a++S.enc b).length=_;rw [List.length_append,R.len,S.len]) (T.len c) (by rw [List.drop_zero,List.length_take];omega) ?_ ?_
 ·rw [zcW _ _ _ (by omega)]
  refine CR.app (R.len a) (S.len b) (by rw [List.drop_zero,List.length_take];omega) ?_ ?_
  ·rw [zcW _ _ _ (by omega)];exact r0
  ·rw [List.drop_zero,List.drop_take,Nat.add_sub_cancel_left,List.take_take,Nat.min_self];exact r1
 ·rw [List.drop_zero,List.drop_take,Nat.add_sub_cancel_left,List.take_take,Nat.min_self];exact r2⟩
theorem Dec.cast {t:TypeId}{α β:Type}{R:Row α}{S:Row β}{ok:α→Prop}{ok':β→Prop}(d:Dec P t R ok)(f:α→β)(hn:R.n=S.n)(h:∀ a,S.enc (f a)=R.enc a)(hok:∀ a,ok a→ok' (f a)):Dec P t S ok':=
 ⟨d.n.trans hn,fun e hw=>by obtain⟨a,h1,h2⟩:=d.dec e hw;exact⟨f a,hok a h1,by rw [h];exact h2⟩⟩
theorem Dec.arg1 {t:TypeId}{α:Type}{R:Row α}{ok:α→Prop}(d:Dec P t R ok){H:Type}{enc:TypeId×Value→H}{W:World}{base:Nat}{held:Bool}{v:Value}{x:DataW H}{p:List MemPlace}(h:DataW.Trod enc P W base (fun _=>true) held t v x p)
 (hv:v.cells=#[v]) (hw:∀ n∈x.weights P t,n≤reachBytes):∃ a,ok a∧∀ y,R.enc a=[y]→VRel (gW W) y v:=by
 obtain⟨fuel,h⟩:=h
 obtain⟨a,h1,h2⟩:=d.dec h hw
 refine⟨a,h1,fun y hy=>?_⟩
 rw [hy,hv]at h2
 obtain⟨v',e,r⟩:=h2.2 0 y rfl
 cases e
 exact r
theorem Dec.argS {t:TypeId}{α:Type}{R:Row α}{ok:α→Prop}(d:Dec P t R ok){H:Type}{enc:TypeId×Value→H}{W:World}{base:Nat}{held:Bool}{v:Value}{x:DataW H}{p:List MemPlace}(h:DataW.Trod enc P W base (fun _=>true) held t v x p)
 (hv:∃ cs,v=.agg cs) (hw:∀ n∈x.weights P t,n≤reachBytes):∃ a,ok a∧VRel (gW W) (.agg (R.enc a)) v:=by
 obtain⟨fuel,h⟩:=h
 obtain⟨a,h1,h2⟩:=d.dec h hw
 obtain⟨cs,rfl⟩:=hv
 exact⟨a,h1,VRel.mk_agg (by have:=h2.1;simp only [Value.cells,Array.length_toList]at this;exact this) fun i x hx=>by obtain⟨v,e,r⟩:=h2.2 i x hx;exact⟨v,by simpa [Value.cells] using e,r⟩⟩
end Go.Ab
