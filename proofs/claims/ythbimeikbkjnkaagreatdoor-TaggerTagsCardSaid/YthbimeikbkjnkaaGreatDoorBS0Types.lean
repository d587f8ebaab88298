/- The types of this seat's translation: closed facts (laid by program). -/
import Derived.Test.YthbimeikbkjnkaaGreatDoorChecked
import Derived.Test.YthbimeikbkjnkaaGreatDoorBAbRules
import Derived.KernelRfl
set_option linter.all false
namespace Go.Proofs
open Go.Ab
theorem Tryz.agg3:aggT Tryz.prog 3=some false:=by kernel_rfl
theorem Tryz.size3:zK Tryz.prog 3=some 1:=by kernel_rfl
theorem Tryz.agg4:aggT Tryz.prog 4=some false:=by kernel_rfl
theorem Tryz.size4:zK Tryz.prog 4=some 1:=by kernel_rfl
theorem Tryz.agg5:aggT Tryz.prog 5=some false:=by kernel_rfl
theorem Tryz.size5:zK Tryz.prog 5=some 1:=by kernel_rfl
theorem Tryz.agg9:aggT Tryz.prog 9=some false:=by kernel_rfl
theorem Tryz.size9:zK Tryz.prog 9=some 1:=by kernel_rfl
theorem Tryz.zero9:zaV Tryz.prog 9=some (.string ⟨([]:List UInt8).toArray⟩):=by kernel_rfl
theorem Tryz.agg22:aggT Tryz.prog 22=some false:=by kernel_rfl
theorem Tryz.size22:zK Tryz.prog 22=some 1:=by kernel_rfl
theorem Tryz.row22:rowE Tryz.prog 22=(false,9):=by kernel_rfl
theorem Tryz.elem22:za9 Tryz.prog 22=some 1:=by kernel_rfl
theorem Tryz.app22:appT Tryz.prog 22=some (1,16,true):=by kernel_rfl
theorem Tryz.bld22:zb8 Tryz.prog 22=some (1,(.string ⟨([]:List UInt8).toArray⟩)):=by kernel_rfl
theorem Tryz.agg23:aggT Tryz.prog 23=some false:=by kernel_rfl
theorem Tryz.size23:zK Tryz.prog 23=some 1:=by kernel_rfl
theorem Tryz.elem23:za9 Tryz.prog 23=some 1:=by kernel_rfl
theorem Tryz.bld23:zb8 Tryz.prog 23=some (1,(.slice none 0 0)):=by kernel_rfl
theorem Tryz.agg25:aggT Tryz.prog 25=some true:=by kernel_rfl
theorem Tryz.size25:zK Tryz.prog 25=some 4:=by kernel_rfl
theorem Tryz.field25_0:zbE Tryz.prog 25 0=some (0,false,1):=by kernel_rfl
theorem Tryz.field25_1:zbE Tryz.prog 25 1=some (1,false,1):=by kernel_rfl
theorem Tryz.field25_2:zbE Tryz.prog 25 2=some (2,false,1):=by kernel_rfl
theorem Tryz.field25_3:zbE Tryz.prog 25 3=some (3,false,1):=by kernel_rfl
theorem Tryz.agg27:aggT Tryz.prog 27=some false:=by kernel_rfl
theorem Tryz.size27:zK Tryz.prog 27=some 1:=by kernel_rfl
theorem Tryz.agg38:aggT Tryz.prog 38=some false:=by kernel_rfl
theorem Tryz.size38:zK Tryz.prog 38=some 1:=by kernel_rfl
theorem Tryz.row38:rowE Tryz.prog 38=(false,3):=by kernel_rfl
theorem Tryz.elem38:za9 Tryz.prog 38=some 1:=by kernel_rfl
theorem Tryz.app38:appT Tryz.prog 38=some (1,8,true):=by kernel_rfl
theorem Tryz.bld38:zb8 Tryz.prog 38=some (1,(.int .i64 0)):=by kernel_rfl
theorem Tryz.zeroE38:zeroE Tryz.prog 38=some (.int .i64 0):=by kernel_rfl
theorem Tryz.agg59:aggT Tryz.prog 59=some false:=by kernel_rfl
theorem Tryz.size59:zK Tryz.prog 59=some 1:=by kernel_rfl
theorem Tryz.zero59:zaV Tryz.prog 59=some (.pointer none):=by kernel_rfl
theorem Tryz.self59:zlD Tryz.prog 59=false:=by kernel_rfl
theorem Tryz.zero65:zaV Tryz.prog 65=some (.agg ([(.slice none 0 0),(.slice none 0 0),(.slice none 0 0),(.slice none 0 0),(.slice none 0 0),(.int .i64 0)]:List Value).toArray):=by kernel_rfl
theorem Tryz.places65:zdR Tryz.prog 65=some [(0,4),(4,1),(5,1)]:=by kernel_rfl
theorem Tryz.field65_0:zbE Tryz.prog 65 0=some (0,true,4):=by kernel_rfl
theorem Tryz.field65_1:zbE Tryz.prog 65 1=some (4,false,1):=by kernel_rfl
theorem Tryz.field65_2:zbE Tryz.prog 65 2=some (5,false,1):=by kernel_rfl
theorem Tryz.agg67:aggT Tryz.prog 67=some true:=by kernel_rfl
theorem Tryz.size67:zK Tryz.prog 67=some 2:=by kernel_rfl
theorem Tryz.zero67:zaV Tryz.prog 67=some (.agg ([(.string ⟨([]:List UInt8).toArray⟩),(.slice none 0 0)]:List Value).toArray):=by kernel_rfl
theorem Tryz.self67:zlD Tryz.prog 67=false:=by kernel_rfl
theorem Tryz.places67:zdR Tryz.prog 67=some [(0,1),(1,1)]:=by kernel_rfl
theorem Tryz.field67_0:zbE Tryz.prog 67 0=some (0,false,1):=by kernel_rfl
theorem Tryz.field67_1:zbE Tryz.prog 67 1=some (1,false,1):=by kernel_rfl
theorem Tryz.elem75:za9 Tryz.prog 75=some 1:=by kernel_rfl
theorem Tryz.bld75:zb8 Tryz.prog 75=some (1,(.slice none 0 0)):=by kernel_rfl
theorem Tryz.row76:rowE Tryz.prog 76=(false,38):=by kernel_rfl
theorem Tryz.elem76:za9 Tryz.prog 76=some 1:=by kernel_rfl
theorem Tryz.app76:appT Tryz.prog 76=some (1,24,true):=by kernel_rfl
theorem Tryz.bld76:zb8 Tryz.prog 76=some (1,(.slice none 0 0)):=by kernel_rfl
theorem Tryz.agg150:aggT Tryz.prog 150=some true:=by kernel_rfl
theorem Tryz.size150:zK Tryz.prog 150=some 3:=by kernel_rfl
theorem Tryz.zero150:zaV Tryz.prog 150=some (.agg ([(.bool false),(.string ⟨([]:List UInt8).toArray⟩),(.string ⟨([]:List UInt8).toArray⟩)]:List Value).toArray):=by kernel_rfl
theorem Tryz.self150:zlD Tryz.prog 150=false:=by kernel_rfl
theorem Tryz.places150:zdR Tryz.prog 150=some [(0,1),(1,1),(2,1)]:=by kernel_rfl
theorem Tryz.field150_0:zbE Tryz.prog 150 0=some (0,false,1):=by kernel_rfl
theorem Tryz.field150_1:zbE Tryz.prog 150 1=some (1,false,1):=by kernel_rfl
theorem Tryz.field150_2:zbE Tryz.prog 150 2=some (2,false,1):=by kernel_rfl
theorem Tryz.agg152:aggT Tryz.prog 152=some false:=by kernel_rfl
theorem Tryz.size152:zK Tryz.prog 152=some 1:=by kernel_rfl
theorem Tryz.zero182:zaV Tryz.prog 182=some (.agg ([]:List Value).toArray):=by kernel_rfl
theorem Tryz.places182:zdR Tryz.prog 182=some []:=by kernel_rfl
theorem Tryz.row183:rowE Tryz.prog 183=(false,185):=by kernel_rfl
theorem Tryz.elem183:za9 Tryz.prog 183=some 1:=by kernel_rfl
theorem Tryz.app183:appT Tryz.prog 183=some (1,8,true):=by kernel_rfl
theorem Tryz.bld183:zb8 Tryz.prog 183=some (1,(.int .u64 0)):=by kernel_rfl
theorem Tryz.zeroE183:zeroE Tryz.prog 183=some (.int .u64 0):=by kernel_rfl
theorem Tryz.agg185:aggT Tryz.prog 185=some false:=by kernel_rfl
theorem Tryz.size185:zK Tryz.prog 185=some 1:=by kernel_rfl
theorem Tryz.agg197:aggT Tryz.prog 197=some false:=by kernel_rfl
theorem Tryz.size197:zK Tryz.prog 197=some 1:=by kernel_rfl
theorem Tryz.row197:rowE Tryz.prog 197=(true,5):=by kernel_rfl
theorem Tryz.elem197:za9 Tryz.prog 197=some 1:=by kernel_rfl
theorem Tryz.app197:appT Tryz.prog 197=some (1,1,true):=by kernel_rfl
theorem Tryz.bld197:zb8 Tryz.prog 197=some (1,(.int .u8 0)):=by kernel_rfl
theorem Tryz.agg222:aggT Tryz.prog 222=some false:=by kernel_rfl
theorem Tryz.size222:zK Tryz.prog 222=some 1:=by kernel_rfl
theorem Tryz.zero224:zaV Tryz.prog 224=some (.agg ([(.pointer none),(.slice none 0 0)]:List Value).toArray):=by kernel_rfl
theorem Tryz.self224:zlD Tryz.prog 224=true:=by kernel_rfl
theorem Tryz.field224_0:zbE Tryz.prog 224 0=some (0,false,1):=by kernel_rfl
theorem Tryz.field224_1:zbE Tryz.prog 224 1=some (1,false,1):=by kernel_rfl
attribute [go_sem] Tryz.agg3 Tryz.size3 Tryz.underlying3 Tryz.agg4 Tryz.size4 Tryz.underlying4 Tryz.agg5 Tryz.size5 Tryz.underlying5 Tryz.agg9 Tryz.size9 Tryz.zero9 Tryz.underlying9 Tryz.underlying20 Tryz.agg22 Tryz.size22 Tryz.underlying22 Tryz.row22 Tryz.elem22 Tryz.app22 Tryz.bld22 Tryz.agg23 Tryz.size23 Tryz.underlying23 Tryz.elem23 Tryz.bld23 Tryz.agg25 Tryz.size25 Tryz.underlying25 Tryz.field25_0 Tryz.field25_1 Tryz.field25_2 Tryz.field25_3 Tryz.agg27 Tryz.size27 Tryz.underlying27 Tryz.agg38 Tryz.size38 Tryz.underlying38 Tryz.row38 Tryz.elem38 Tryz.app38 Tryz.bld38 Tryz.zeroE38 Tryz.underlying40 Tryz.underlying42 Tryz.underlying51 Tryz.agg59 Tryz.size59 Tryz.zero59 Tryz.underlying59 Tryz.self59 Tryz.underlying63 Tryz.zero65 Tryz.underlying65 Tryz.places65 Tryz.field65_0 Tryz.field65_1 Tryz.field65_2 Tryz.agg67 Tryz.size67 Tryz.zero67 Tryz.underlying67 Tryz.self67 Tryz.places67 Tryz.field67_0 Tryz.field67_1 Tryz.underlying69 Tryz.underlying71 Tryz.underlying73 Tryz.underlying75 Tryz.elem75 Tryz.bld75 Tryz.underlying76 Tryz.row76 Tryz.elem76 Tryz.app76 Tryz.bld76 Tryz.underlying79 Tryz.underlying80 Tryz.underlying82 Tryz.underlying85 Tryz.underlying102 Tryz.underlying108 Tryz.underlying111 Tryz.underlying146 Tryz.agg150 Tryz.size150 Tryz.zero150 Tryz.underlying150 Tryz.self150 Tryz.places150 Tryz.field150_0 Tryz.field150_1 Tryz.field150_2 Tryz.agg152 Tryz.size152 Tryz.underlying152 Tryz.underlying180 Tryz.zero182 Tryz.underlying182 Tryz.places182 Tryz.underlying183 Tryz.row183 Tryz.elem183 Tryz.app183 Tryz.bld183 Tryz.zeroE183 Tryz.agg185 Tryz.size185 Tryz.underlying185 Tryz.agg197 Tryz.size197 Tryz.underlying197 Tryz.row197 Tryz.elem197 Tryz.app197 Tryz.bld197 Tryz.underlying218 Tryz.agg222 Tryz.size222 Tryz.underlying222 Tryz.zero224 Tryz.underlying224 Tryz.self224 Tryz.field224_0 Tryz.field224_1 Tryz.underlying227 Tryz.underlying232 Tryz.underlying235 Tryz.underlying244 Tryz.underlying248 Tryz.underlying251 Tryz.underlying255 Tryz.underlying262 Tryz.underlying263 Tryz.underlying265 Tryz.underlying266
end Go.Proofs

namespace Go.Ab
open Go.Cnt
def entV(e:Ent):List V:=[.str e.1.1,.str e.1.2,.int .i64 e.2]
def cnts(l:List Ent):List V:=l.flatMap entV
def nthE(l:List Ent)(i:Nat):Ent:=l.getD i (([],[]),0)
theorem zx5(e:Ent)(l:List Ent):cnts (e::l)=.str e.1.1::.str e.1.2::.int .i64 e.2::cnts l:=rfl
theorem zlU:∀ l:List Ent,∀ x∈cnts l,Pure x
 |[],_,h=>by cases h
 |e::l,x,h=>by
  rw [zx5]at h;simp only [List.mem_cons]at h;rcases h with rfl|rfl|rfl|h
  ·exact .str _
  ·exact .str _
  ·exact .int _ _
  ·exact zlU l x h
theorem ziM(l:List Ent):(∀ x∈cnts l,Pure x)↔True:=⟨fun _=>trivial,fun _=>zlU l⟩
attribute [go_sem] ziM
attribute [go_sem] List.map_cons List.map_nil List.all_cons List.all_nil
attribute [push_cast] ziM
end Go.Ab

namespace Go.Proofs
open Go.Ab
theorem mixed:Tryz.prog.follows .mixedOrders=true:=by kernel_rfl
theorem call5:zi Tryz.prog 5:=fun a w=>by kernel_rfl
theorem call13:zi Tryz.prog 13:=fun a w=>by kernel_rfl
theorem call16:zi Tryz.prog 16:=fun a w=>by kernel_rfl
theorem call18:zi Tryz.prog 18:=fun a w=>by kernel_rfl
theorem call19:zi Tryz.prog 19:=fun a w=>by kernel_rfl
theorem call20:zi Tryz.prog 20:=fun a w=>by kernel_rfl
theorem call23:zi Tryz.prog 23:=fun a w=>by kernel_rfl
theorem call24:zi Tryz.prog 24:=fun a w=>by kernel_rfl
theorem call25:zi Tryz.prog 25:=fun a w=>by kernel_rfl
theorem call27:zi Tryz.prog 27:=fun a w=>by kernel_rfl
theorem call30:zi Tryz.prog 30:=fun a w=>by kernel_rfl
theorem call31:zi Tryz.prog 31:=fun a w=>by kernel_rfl
theorem call33:zi Tryz.prog 33:=fun a w=>by kernel_rfl
theorem call34:zi Tryz.prog 34:=fun a w=>by kernel_rfl
theorem call35:zi Tryz.prog 35:=fun a w=>by kernel_rfl
theorem call36:zi Tryz.prog 36:=fun a w=>by kernel_rfl
theorem call37:zi Tryz.prog 37:=fun a w=>by kernel_rfl
theorem call38:zi Tryz.prog 38:=fun a w=>by kernel_rfl
theorem call39:zi Tryz.prog 39:=fun a w=>by kernel_rfl
theorem call40:zi Tryz.prog 40:=fun a w=>by kernel_rfl
theorem call45:zi Tryz.prog 45:=fun a w=>by kernel_rfl
theorem call47:zi Tryz.prog 47:=fun a w=>by kernel_rfl
theorem call48:zi Tryz.prog 48:=fun a w=>by kernel_rfl
theorem call49:zi Tryz.prog 49:=fun a w=>by kernel_rfl
theorem call51:zi Tryz.prog 51:=fun a w=>by kernel_rfl
theorem call54:zi Tryz.prog 54:=fun a w=>by kernel_rfl
theorem call55:zi Tryz.prog 55:=fun a w=>by kernel_rfl
theorem call56:zi Tryz.prog 56:=fun a w=>by kernel_rfl
theorem call64:zi Tryz.prog 64:=fun a w=>by kernel_rfl
theorem call65:zi Tryz.prog 65:=fun a w=>by kernel_rfl
theorem call66:zi Tryz.prog 66:=fun a w=>by kernel_rfl
theorem call67:zi Tryz.prog 67:=fun a w=>by kernel_rfl
theorem call68:zi Tryz.prog 68:=fun a w=>by kernel_rfl
theorem call69:zi Tryz.prog 69:=fun a w=>by kernel_rfl
theorem call70:zi Tryz.prog 70:=fun a w=>by kernel_rfl
theorem call71:zi Tryz.prog 71:=fun a w=>by kernel_rfl
theorem call74:zi Tryz.prog 74:=fun a w=>by kernel_rfl
theorem call75:zi Tryz.prog 75:=fun a w=>by kernel_rfl
theorem call76:zi Tryz.prog 76:=fun a w=>by kernel_rfl
theorem call79:zi Tryz.prog 79:=fun a w=>by kernel_rfl
theorem call82:zi Tryz.prog 82:=fun a w=>by kernel_rfl
theorem call83:zi Tryz.prog 83:=fun a w=>by kernel_rfl
theorem call84:zi Tryz.prog 84:=fun a w=>by kernel_rfl
theorem call85:zi Tryz.prog 85:=fun a w=>by kernel_rfl
theorem call86:zi Tryz.prog 86:=fun a w=>by kernel_rfl
theorem call87:zi Tryz.prog 87:=fun a w=>by kernel_rfl
theorem call88:zi Tryz.prog 88:=fun a w=>by kernel_rfl
theorem call89:zi Tryz.prog 89:=fun a w=>by kernel_rfl
theorem call103:zi Tryz.prog 103:=fun a w=>by kernel_rfl
theorem call104:zi Tryz.prog 104:=fun a w=>by kernel_rfl
theorem call106:zi Tryz.prog 106:=fun a w=>by kernel_rfl
theorem call107:zi Tryz.prog 107:=fun a w=>by kernel_rfl
theorem call108:zi Tryz.prog 108:=fun a w=>by kernel_rfl
theorem call109:zi Tryz.prog 109:=fun a w=>by kernel_rfl
theorem call110:zi Tryz.prog 110:=fun a w=>by kernel_rfl
theorem call111:zi Tryz.prog 111:=fun a w=>by kernel_rfl
theorem call112:zi Tryz.prog 112:=fun a w=>by kernel_rfl
theorem zyB:zi Tryz.prog 113:=fun a w=>by kernel_rfl
theorem call114:zi Tryz.prog 114:=fun a w=>by kernel_rfl
theorem call115:zi Tryz.prog 115:=fun a w=>by kernel_rfl
theorem call116:zi Tryz.prog 116:=fun a w=>by kernel_rfl
theorem call117:zi Tryz.prog 117:=fun a w=>by kernel_rfl
theorem zyA:zi Tryz.prog 118:=fun a w=>by kernel_rfl
theorem call128:zi Tryz.prog 128:=fun a w=>by kernel_rfl
theorem call129:zi Tryz.prog 129:=fun a w=>by kernel_rfl
theorem call130:zi Tryz.prog 130:=fun a w=>by kernel_rfl
theorem call131:zi Tryz.prog 131:=fun a w=>by kernel_rfl
theorem call132:zi Tryz.prog 132:=fun a w=>by kernel_rfl
theorem call133:zi Tryz.prog 133:=fun a w=>by kernel_rfl
theorem call134:zi Tryz.prog 134:=fun a w=>by kernel_rfl
theorem call135:zi Tryz.prog 135:=fun a w=>by kernel_rfl
theorem call143:zi Tryz.prog 143:=fun a w=>by kernel_rfl
theorem call145:zi Tryz.prog 145:=fun a w=>by kernel_rfl
theorem call147:zi Tryz.prog 147:=fun a w=>by kernel_rfl
theorem call148:zi Tryz.prog 148:=fun a w=>by kernel_rfl
theorem call149:zi Tryz.prog 149:=fun a w=>by kernel_rfl
theorem call150:zi Tryz.prog 150:=fun a w=>by kernel_rfl
theorem call151:zi Tryz.prog 151:=fun a w=>by kernel_rfl
theorem call152:zi Tryz.prog 152:=fun a w=>by kernel_rfl
theorem zyy:zi Tryz.prog 153:=fun a w=>by kernel_rfl
theorem call154:zi Tryz.prog 154:=fun a w=>by kernel_rfl
theorem call155:zi Tryz.prog 155:=fun a w=>by kernel_rfl
theorem call156:zi Tryz.prog 156:=fun a w=>by kernel_rfl
theorem call157:zi Tryz.prog 157:=fun a w=>by kernel_rfl
theorem call158:zi Tryz.prog 158:=fun a w=>by kernel_rfl
theorem zyx:zi Tryz.prog 159:=fun a w=>by kernel_rfl
theorem call178:zi Tryz.prog 178:=fun a w=>by kernel_rfl
theorem call179:zi Tryz.prog 179:=fun a w=>by kernel_rfl
theorem call180:zi Tryz.prog 180:=fun a w=>by kernel_rfl
theorem call181:zi Tryz.prog 181:=fun a w=>by kernel_rfl
theorem call182:zi Tryz.prog 182:=fun a w=>by kernel_rfl
theorem call183:zi Tryz.prog 183:=fun a w=>by kernel_rfl
theorem call184:zi Tryz.prog 184:=fun a w=>by kernel_rfl
theorem call185:zi Tryz.prog 185:=fun a w=>by kernel_rfl
theorem call186:zi Tryz.prog 186:=fun a w=>by kernel_rfl
theorem call207:zi Tryz.prog 207:=fun a w=>by kernel_rfl
theorem call208:zi Tryz.prog 208:=fun a w=>by kernel_rfl
theorem call209:zi Tryz.prog 209:=fun a w=>by kernel_rfl
theorem zo7:zi Tryz.prog 210:=fun a w=>by kernel_rfl
theorem zdB:zi Tryz.prog 211:=fun a w=>by kernel_rfl
theorem call212:zi Tryz.prog 212:=fun a w=>by kernel_rfl
theorem call213:zi Tryz.prog 213:=fun a w=>by kernel_rfl
theorem call214:zi Tryz.prog 214:=fun a w=>by kernel_rfl
theorem zyw:zi Tryz.prog 215:=fun a w=>by kernel_rfl
theorem call216:zi Tryz.prog 216:=fun a w=>by kernel_rfl
theorem call217:zi Tryz.prog 217:=fun a w=>by kernel_rfl
theorem call218:zi Tryz.prog 218:=fun a w=>by kernel_rfl
theorem call228:zi Tryz.prog 228:=fun a w=>by kernel_rfl
theorem call229:zi Tryz.prog 229:=fun a w=>by kernel_rfl
theorem zyv:zi Tryz.prog 230:=fun a w=>by kernel_rfl
theorem call232:zi Tryz.prog 232:=fun a w=>by kernel_rfl
theorem call235:zi Tryz.prog 235:=fun a w=>by kernel_rfl
theorem call239:zi Tryz.prog 239:=fun a w=>by kernel_rfl
end Go.Proofs

namespace Go.Ab
structure Row(α:Type) where
 enc:α→List V
 n:Nat
 dflt:α
 len:∀ a,(enc a).length=n
 pos:0<n
 pure:∀ a,∀ x∈enc a,Pure x
 one:∀ a,(enc a).all V.one=true
 inj:∀ a b,enc a=enc b→a=b
namespace Row
variable {α:Type}(R:Row α)
def cells(l:List α):List V:=l.flatMap R.enc
def nth(l:List α)(i:Nat):α:=l.getD i R.dflt
theorem zyj:R.cells []=[]:=rfl
theorem cells_cons(e:α)(l:List α):R.cells (e::l)=R.enc e++R.cells l:=rfl
theorem len_cells:∀ l:List α,(R.cells l).length=l.length*R.n
 |[]=>by simp [cells]
 |e::l=>by rw [cells_cons,List.length_append,R.len,len_cells l,List.length_cons,Nat.add_mul,Nat.one_mul,Nat.add_comm]
theorem zjb:∀(l:List α) (i:Nat),(R.cells l).drop (i*R.n)=R.cells (l.drop i)
 |l,0=>by simp
 |[],i+1=>by simp [zyj]
 |e::l,i+1=>by rw [cells_cons,Nat.add_mul,Nat.one_mul,Nat.add_comm, ←List.drop_drop,show R.n=(R.enc e).length by rw [R.len],List.drop_left,R.len];exact zjb l i
theorem drop_nth:∀(l:List α) (i:Nat),i<l.length→l.drop i=R.nth l i::l.drop (i+1)
 |[],_,h=>by simp at h
 |e::l,0,_=>rfl
 |e::l,i+1,h=>by have:=drop_nth l i (by simpa using h);simpa [nth] using this
theorem nth_mem {l:List α}{i:Nat}(h:i<l.length):R.nth l i∈l:=by unfold nth;rw [List.getD_eq_getElem?_getD,List.getElem?_eq_getElem h];exact List.getElem_mem h
theorem at_(l:List α)(i:Nat)(h:i<l.length):(R.cells l).drop (i*R.n)=R.enc (R.nth l i)++R.cells (l.drop (i+1)):=by rw [zjb,R.drop_nth l i h,cells_cons]
theorem pure_cells(l:List α):∀ x∈R.cells l,Pure x:=fun x h=>by obtain⟨a,_,h⟩:=List.mem_flatMap.1 h;exact R.pure a x h
theorem pure_cellsP(l:List α):(∀ x∈R.cells l,Pure x)↔True:=⟨fun _=>trivial,fun _=>R.pure_cells l⟩
theorem one_cells(l:List α):(R.cells l).all V.one=true:=List.all_eq_true.2 fun x h=>by obtain⟨a,_,h⟩:=List.mem_flatMap.1 h;exact List.all_eq_true.1 (R.one a) x h
theorem cells_inj:∀ {l r:List α},R.cells l=R.cells r→l=r
 |[],[],_=>rfl
 |[],e::r,h=>by have:=congrArg List.length h;rw [len_cells,len_cells,List.length_cons,Nat.add_mul]at this;have:=R.pos;simp at *; omega
 |e::l,[],h=>by have:=congrArg List.length h;rw [len_cells,len_cells,List.length_cons,Nat.add_mul]at this;have:=R.pos;simp at *; omega
 |e::l,e'::r,h=>by rw [cells_cons,cells_cons]at h;obtain⟨h1,h2⟩:=List.append_inj h (by rw [R.len,R.len]);rw [R.inj _ _ h1,cells_inj h2]
theorem lrel_cells {π:Nat→Nat}{N:Nat→Prop}(l:List α):LRel (Rn π N) (R.cells l) (R.cells l)↔True:=⟨fun _=>trivial,fun _=>zt (R.pure_cells l)⟩
theorem all_t {p:α→Bool}{l:List α}(h:∀ i,i<l.length→p (R.nth l i)=true):l.all p=true:=by refine List.all_eq_true.2 fun x hx=>?_;obtain⟨i,hi,rfl⟩:=List.mem_iff_getElem.1 hx;have:=h i hi;unfold nth at this;rwa [List.getD_eq_getElem?_getD,List.getElem?_eq_getElem hi]at this
theorem all_f {p:α→Bool}{l:List α}{i:Nat}(hi:i<l.length)(h:p (R.nth l i)=false):l.all p=false:=by
 cases e:l.all p with
 |false=>rfl
 |true=>rw [List.all_eq_true.1 e _ (R.nth_mem hi)]at h;cases h
end Row
end Go.Ab
