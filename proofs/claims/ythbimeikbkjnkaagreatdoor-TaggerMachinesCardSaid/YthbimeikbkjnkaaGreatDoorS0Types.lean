/- The types of this seat's translation: closed facts (laid by program). -/
import Derived.Test.YthbimeikbkjnkaaGreatDoorChecked
import Derived.Test.YthbimeikbkjnkaaGreatDoorAbRules
import Derived.KernelRfl
set_option linter.all false
set_option maxHeartbeats 16000000
set_option maxRecDepth 100000
namespace Go.Proofs
open Go.Ab
theorem Tryz.agg3:aggT Tryz.prog 3=some false:=by kernel_rfl
theorem Tryz.size3:zJ Tryz.prog 3=some 1:=by kernel_rfl
theorem Tryz.zero3:zaO Tryz.prog 3=some (.int .i64 0):=by kernel_rfl
theorem Tryz.agg4:aggT Tryz.prog 4=some false:=by kernel_rfl
theorem Tryz.size4:zJ Tryz.prog 4=some 1:=by kernel_rfl
theorem Tryz.agg5:aggT Tryz.prog 5=some false:=by kernel_rfl
theorem Tryz.size5:zJ Tryz.prog 5=some 1:=by kernel_rfl
theorem Tryz.agg9:aggT Tryz.prog 9=some false:=by kernel_rfl
theorem Tryz.size9:zJ Tryz.prog 9=some 1:=by kernel_rfl
theorem Tryz.zero9:zaO Tryz.prog 9=some (.string ⟨([]:List UInt8).toArray⟩):=by kernel_rfl
theorem Tryz.agg22:aggT Tryz.prog 22=some false:=by kernel_rfl
theorem Tryz.size22:zJ Tryz.prog 22=some 1:=by kernel_rfl
theorem Tryz.row22:rowE Tryz.prog 22=(false,9):=by kernel_rfl
theorem Tryz.elem22:za9 Tryz.prog 22=some 1:=by kernel_rfl
theorem Tryz.app22:appT Tryz.prog 22=some (1,16,true):=by kernel_rfl
theorem Tryz.bld22:zcs Tryz.prog 22=some (1,(.string ⟨([]:List UInt8).toArray⟩)):=by kernel_rfl
theorem Tryz.zeroE22:zeroE Tryz.prog 22=some (.string ⟨([]:List UInt8).toArray⟩):=by kernel_rfl
theorem Tryz.agg23:aggT Tryz.prog 23=some false:=by kernel_rfl
theorem Tryz.size23:zJ Tryz.prog 23=some 1:=by kernel_rfl
theorem Tryz.elem23:za9 Tryz.prog 23=some 1:=by kernel_rfl
theorem Tryz.app23:appT Tryz.prog 23=some (1,24,true):=by kernel_rfl
theorem Tryz.bld23:zcs Tryz.prog 23=some (1,(.slice none 0 0)):=by kernel_rfl
theorem Tryz.zeroE23:zeroE Tryz.prog 23=some (.slice none 0 0):=by kernel_rfl
theorem Tryz.agg25:aggT Tryz.prog 25=some true:=by kernel_rfl
theorem Tryz.size25:zJ Tryz.prog 25=some 4:=by kernel_rfl
theorem Tryz.field25_0:zaU Tryz.prog 25 0=some (0,false,1):=by kernel_rfl
theorem Tryz.field25_1:zaU Tryz.prog 25 1=some (1,false,1):=by kernel_rfl
theorem Tryz.field25_2:zaU Tryz.prog 25 2=some (2,false,1):=by kernel_rfl
theorem Tryz.field25_3:zaU Tryz.prog 25 3=some (3,false,1):=by kernel_rfl
theorem Tryz.agg27:aggT Tryz.prog 27=some false:=by kernel_rfl
theorem Tryz.size27:zJ Tryz.prog 27=some 1:=by kernel_rfl
theorem Tryz.agg38:aggT Tryz.prog 38=some false:=by kernel_rfl
theorem Tryz.size38:zJ Tryz.prog 38=some 1:=by kernel_rfl
theorem Tryz.row38:rowE Tryz.prog 38=(false,3):=by kernel_rfl
theorem Tryz.elem38:za9 Tryz.prog 38=some 1:=by kernel_rfl
theorem Tryz.app38:appT Tryz.prog 38=some (1,8,true):=by kernel_rfl
theorem Tryz.bld38:zcs Tryz.prog 38=some (1,(.int .i64 0)):=by kernel_rfl
theorem Tryz.zeroE38:zeroE Tryz.prog 38=some (.int .i64 0):=by kernel_rfl
theorem Tryz.agg40:aggT Tryz.prog 40=some false:=by kernel_rfl
theorem Tryz.size40:zJ Tryz.prog 40=some 1:=by kernel_rfl
theorem Tryz.row40:rowE Tryz.prog 40=(false,82):=by kernel_rfl
theorem Tryz.elem40:za9 Tryz.prog 40=some 2:=by kernel_rfl
theorem Tryz.app40:appT Tryz.prog 40=some (2,40,true):=by kernel_rfl
theorem Tryz.bld40:zcs Tryz.prog 40=some (2,(.agg ([(.string ⟨([]:List UInt8).toArray⟩),(.slice none 0 0)]:List Value).toArray)):=by kernel_rfl
theorem Tryz.zeroE40:zeroE Tryz.prog 40=some (.agg ([(.string ⟨([]:List UInt8).toArray⟩),(.slice none 0 0)]:List Value).toArray):=by kernel_rfl
theorem Tryz.agg42:aggT Tryz.prog 42=some true:=by kernel_rfl
theorem Tryz.size42:zJ Tryz.prog 42=some 4:=by kernel_rfl
theorem Tryz.zero42:zaO Tryz.prog 42=some (.agg ([(.int .i64 0),(.int .i64 0),(.string ⟨([]:List UInt8).toArray⟩),(.slice none 0 0)]:List Value).toArray):=by kernel_rfl
theorem Tryz.self42:zku Tryz.prog 42=false:=by kernel_rfl
theorem Tryz.places42:zc8 Tryz.prog 42=some [(0,1),(1,1),(2,1),(3,1)]:=by kernel_rfl
theorem Tryz.field42_0:zaU Tryz.prog 42 0=some (0,false,1):=by kernel_rfl
theorem Tryz.field42_1:zaU Tryz.prog 42 1=some (1,false,1):=by kernel_rfl
theorem Tryz.field42_2:zaU Tryz.prog 42 2=some (2,false,1):=by kernel_rfl
theorem Tryz.field42_3:zaU Tryz.prog 42 3=some (3,false,1):=by kernel_rfl
theorem Tryz.zero65:zaO Tryz.prog 65=some (.agg ([(.slice none 0 0),(.slice none 0 0),(.slice none 0 0),(.slice none 0 0),(.slice none 0 0),(.int .i64 0)]:List Value).toArray):=by kernel_rfl
theorem Tryz.places65:zc8 Tryz.prog 65=some [(0,4),(4,1),(5,1)]:=by kernel_rfl
theorem Tryz.field65_0:zaU Tryz.prog 65 0=some (0,true,4):=by kernel_rfl
theorem Tryz.field65_1:zaU Tryz.prog 65 1=some (4,false,1):=by kernel_rfl
theorem Tryz.field65_2:zaU Tryz.prog 65 2=some (5,false,1):=by kernel_rfl
theorem Tryz.elem75:za9 Tryz.prog 75=some 1:=by kernel_rfl
theorem Tryz.bld75:zcs Tryz.prog 75=some (1,(.slice none 0 0)):=by kernel_rfl
theorem Tryz.agg80:aggT Tryz.prog 80=some false:=by kernel_rfl
theorem Tryz.size80:zJ Tryz.prog 80=some 1:=by kernel_rfl
theorem Tryz.row80:rowE Tryz.prog 80=(false,85):=by kernel_rfl
theorem Tryz.elem80:za9 Tryz.prog 80=some 4:=by kernel_rfl
theorem Tryz.app80:appT Tryz.prog 80=some (4,40,true):=by kernel_rfl
theorem Tryz.bld80:zcs Tryz.prog 80=some (4,(.agg ([(.int .i64 0),(.int .i64 0),(.string ⟨([]:List UInt8).toArray⟩),(.int .i64 0)]:List Value).toArray)):=by kernel_rfl
theorem Tryz.agg82:aggT Tryz.prog 82=some true:=by kernel_rfl
theorem Tryz.size82:zJ Tryz.prog 82=some 2:=by kernel_rfl
theorem Tryz.zero82:zaO Tryz.prog 82=some (.agg ([(.string ⟨([]:List UInt8).toArray⟩),(.slice none 0 0)]:List Value).toArray):=by kernel_rfl
theorem Tryz.self82:zku Tryz.prog 82=false:=by kernel_rfl
theorem Tryz.places82:zc8 Tryz.prog 82=some [(0,1),(1,1)]:=by kernel_rfl
theorem Tryz.field82_0:zaU Tryz.prog 82 0=some (0,false,1):=by kernel_rfl
theorem Tryz.field82_1:zaU Tryz.prog 82 1=some (1,false,1):=by kernel_rfl
theorem Tryz.agg85:aggT Tryz.prog 85=some true:=by kernel_rfl
theorem Tryz.size85:zJ Tryz.prog 85=some 4:=by kernel_rfl
theorem Tryz.zero85:zaO Tryz.prog 85=some (.agg ([(.int .i64 0),(.int .i64 0),(.string ⟨([]:List UInt8).toArray⟩),(.int .i64 0)]:List Value).toArray):=by kernel_rfl
theorem Tryz.self85:zku Tryz.prog 85=false:=by kernel_rfl
theorem Tryz.places85:zc8 Tryz.prog 85=some [(0,1),(1,1),(2,1),(3,1)]:=by kernel_rfl
theorem Tryz.field85_0:zaU Tryz.prog 85 0=some (0,false,1):=by kernel_rfl
theorem Tryz.field85_1:zaU Tryz.prog 85 1=some (1,false,1):=by kernel_rfl
theorem Tryz.field85_2:zaU Tryz.prog 85 2=some (2,false,1):=by kernel_rfl
theorem Tryz.field85_3:zaU Tryz.prog 85 3=some (3,false,1):=by kernel_rfl
theorem Tryz.agg150:aggT Tryz.prog 150=some true:=by kernel_rfl
theorem Tryz.size150:zJ Tryz.prog 150=some 3:=by kernel_rfl
theorem Tryz.zero150:zaO Tryz.prog 150=some (.agg ([(.bool false),(.string ⟨([]:List UInt8).toArray⟩),(.string ⟨([]:List UInt8).toArray⟩)]:List Value).toArray):=by kernel_rfl
theorem Tryz.self150:zku Tryz.prog 150=false:=by kernel_rfl
theorem Tryz.places150:zc8 Tryz.prog 150=some [(0,1),(1,1),(2,1)]:=by kernel_rfl
theorem Tryz.field150_0:zaU Tryz.prog 150 0=some (0,false,1):=by kernel_rfl
theorem Tryz.field150_1:zaU Tryz.prog 150 1=some (1,false,1):=by kernel_rfl
theorem Tryz.field150_2:zaU Tryz.prog 150 2=some (2,false,1):=by kernel_rfl
theorem Tryz.agg152:aggT Tryz.prog 152=some false:=by kernel_rfl
theorem Tryz.size152:zJ Tryz.prog 152=some 1:=by kernel_rfl
theorem Tryz.zero182:zaO Tryz.prog 182=some (.agg ([]:List Value).toArray):=by kernel_rfl
theorem Tryz.places182:zc8 Tryz.prog 182=some []:=by kernel_rfl
theorem Tryz.row183:rowE Tryz.prog 183=(false,185):=by kernel_rfl
theorem Tryz.elem183:za9 Tryz.prog 183=some 1:=by kernel_rfl
theorem Tryz.app183:appT Tryz.prog 183=some (1,8,true):=by kernel_rfl
theorem Tryz.bld183:zcs Tryz.prog 183=some (1,(.int .u64 0)):=by kernel_rfl
theorem Tryz.zeroE183:zeroE Tryz.prog 183=some (.int .u64 0):=by kernel_rfl
theorem Tryz.agg185:aggT Tryz.prog 185=some false:=by kernel_rfl
theorem Tryz.size185:zJ Tryz.prog 185=some 1:=by kernel_rfl
theorem Tryz.agg197:aggT Tryz.prog 197=some false:=by kernel_rfl
theorem Tryz.size197:zJ Tryz.prog 197=some 1:=by kernel_rfl
theorem Tryz.row197:rowE Tryz.prog 197=(true,5):=by kernel_rfl
theorem Tryz.elem197:za9 Tryz.prog 197=some 1:=by kernel_rfl
theorem Tryz.app197:appT Tryz.prog 197=some (1,1,true):=by kernel_rfl
theorem Tryz.bld197:zcs Tryz.prog 197=some (1,(.int .u8 0)):=by kernel_rfl
theorem Tryz.agg222:aggT Tryz.prog 222=some false:=by kernel_rfl
theorem Tryz.size222:zJ Tryz.prog 222=some 1:=by kernel_rfl
theorem Tryz.zero224:zaO Tryz.prog 224=some (.agg ([(.pointer none),(.slice none 0 0)]:List Value).toArray):=by kernel_rfl
theorem Tryz.self224:zku Tryz.prog 224=true:=by kernel_rfl
theorem Tryz.field224_0:zaU Tryz.prog 224 0=some (0,false,1):=by kernel_rfl
theorem Tryz.field224_1:zaU Tryz.prog 224 1=some (1,false,1):=by kernel_rfl
attribute [go_sem] Tryz.agg3 Tryz.size3 Tryz.zero3 Tryz.underlying3 Tryz.agg4 Tryz.size4 Tryz.underlying4 Tryz.agg5 Tryz.size5 Tryz.underlying5 Tryz.agg9 Tryz.size9 Tryz.zero9 Tryz.underlying9 Tryz.underlying20 Tryz.agg22 Tryz.size22 Tryz.underlying22 Tryz.row22 Tryz.elem22 Tryz.app22 Tryz.bld22 Tryz.zeroE22 Tryz.agg23 Tryz.size23 Tryz.underlying23 Tryz.elem23 Tryz.app23 Tryz.bld23 Tryz.zeroE23 Tryz.agg25 Tryz.size25 Tryz.underlying25 Tryz.field25_0 Tryz.field25_1 Tryz.field25_2 Tryz.field25_3 Tryz.agg27 Tryz.size27 Tryz.underlying27 Tryz.agg38 Tryz.size38 Tryz.underlying38 Tryz.row38 Tryz.elem38 Tryz.app38 Tryz.bld38 Tryz.zeroE38 Tryz.agg40 Tryz.size40 Tryz.underlying40 Tryz.row40 Tryz.elem40 Tryz.app40 Tryz.bld40 Tryz.zeroE40 Tryz.agg42 Tryz.size42 Tryz.zero42 Tryz.underlying42 Tryz.self42 Tryz.places42 Tryz.field42_0 Tryz.field42_1 Tryz.field42_2 Tryz.field42_3 Tryz.underlying51 Tryz.underlying59 Tryz.underlying63 Tryz.zero65 Tryz.underlying65 Tryz.places65 Tryz.field65_0 Tryz.field65_1 Tryz.field65_2 Tryz.underlying67 Tryz.underlying69 Tryz.underlying71 Tryz.underlying73 Tryz.underlying75 Tryz.elem75 Tryz.bld75 Tryz.underlying76 Tryz.underlying79 Tryz.agg80 Tryz.size80 Tryz.underlying80 Tryz.row80 Tryz.elem80 Tryz.app80 Tryz.bld80 Tryz.agg82 Tryz.size82 Tryz.zero82 Tryz.underlying82 Tryz.self82 Tryz.places82 Tryz.field82_0 Tryz.field82_1 Tryz.agg85 Tryz.size85 Tryz.zero85 Tryz.underlying85 Tryz.self85 Tryz.places85 Tryz.field85_0 Tryz.field85_1 Tryz.field85_2 Tryz.field85_3 Tryz.underlying102 Tryz.underlying108 Tryz.underlying111 Tryz.underlying146 Tryz.agg150 Tryz.size150 Tryz.zero150 Tryz.underlying150 Tryz.self150 Tryz.places150 Tryz.field150_0 Tryz.field150_1 Tryz.field150_2 Tryz.agg152 Tryz.size152 Tryz.underlying152 Tryz.underlying180 Tryz.zero182 Tryz.underlying182 Tryz.places182 Tryz.underlying183 Tryz.row183 Tryz.elem183 Tryz.app183 Tryz.bld183 Tryz.zeroE183 Tryz.agg185 Tryz.size185 Tryz.underlying185 Tryz.agg197 Tryz.size197 Tryz.underlying197 Tryz.row197 Tryz.elem197 Tryz.app197 Tryz.bld197 Tryz.underlying218 Tryz.agg222 Tryz.size222 Tryz.underlying222 Tryz.zero224 Tryz.underlying224 Tryz.self224 Tryz.field224_0 Tryz.field224_1 Tryz.underlying227 Tryz.underlying232 Tryz.underlying235 Tryz.underlying244 Tryz.underlying248 Tryz.underlying251 Tryz.underlying255 Tryz.underlying262 Tryz.underlying263 Tryz.underlying265 Tryz.underlying266
end Go.Proofs

namespace Go.Ab
open Go.Cnt
def entV(e:Ent):List V:=[.str e.1.1,.str e.1.2,.int .i64 e.2]
def cnts(l:List Ent):List V:=l.flatMap entV
def nthE(l:List Ent)(i:Nat):Ent:=l.getD i (([],[]),0)
theorem zzO(e:Ent)(l:List Ent):cnts (e::l)=.str e.1.1::.str e.1.2::.int .i64 e.2::cnts l:=rfl
theorem zmH:∀ l:List Ent,∀ x∈cnts l,Pure x
 |[],_,h=>by cases h
 |e::l,x,h=>by
  rw [zzO]at h;simp only [YA]at h;rcases h with rfl|rfl|rfl|h
  ·exact .str _
  ·exact .str _
  ·exact .int _ _
  ·exact zmH l x h
theorem zjw(l:List Ent):(∀ x∈cnts l,Pure x)↔True:=⟨fun _=>trivial,fun _=>zmH l⟩
attribute [go_sem] zjw
attribute [go_sem] List.map_cons List.map_nil List.all_cons List.all_nil
attribute [push_cast] zjw
end Go.Ab

namespace Go.Proofs
open Go.Ab
theorem mixed:Tryz.prog.follows .mixedOrders=true:=by kernel_rfl
theorem call6:zk Tryz.prog 6:=fun a w=>by kernel_rfl
theorem call16:zk Tryz.prog 16:=fun a w=>by kernel_rfl
theorem call21:zk Tryz.prog 21:=fun a w=>by kernel_rfl
theorem call22:zk Tryz.prog 22:=fun a w=>by kernel_rfl
theorem call23:zk Tryz.prog 23:=fun a w=>by kernel_rfl
theorem call24:zk Tryz.prog 24:=fun a w=>by kernel_rfl
theorem call25:zk Tryz.prog 25:=fun a w=>by kernel_rfl
theorem call26:zk Tryz.prog 26:=fun a w=>by kernel_rfl
theorem call27:zk Tryz.prog 27:=fun a w=>by kernel_rfl
theorem call28:zk Tryz.prog 28:=fun a w=>by kernel_rfl
theorem call30:zk Tryz.prog 30:=fun a w=>by kernel_rfl
theorem call31:zk Tryz.prog 31:=fun a w=>by kernel_rfl
theorem call33:zk Tryz.prog 33:=fun a w=>by kernel_rfl
theorem call34:zk Tryz.prog 34:=fun a w=>by kernel_rfl
theorem call35:zk Tryz.prog 35:=fun a w=>by kernel_rfl
theorem call36:zk Tryz.prog 36:=fun a w=>by kernel_rfl
theorem call47:zk Tryz.prog 47:=fun a w=>by kernel_rfl
theorem call48:zk Tryz.prog 48:=fun a w=>by kernel_rfl
theorem call49:zk Tryz.prog 49:=fun a w=>by kernel_rfl
theorem call50:zk Tryz.prog 50:=fun a w=>by kernel_rfl
theorem call51:zk Tryz.prog 51:=fun a w=>by kernel_rfl
theorem call53:zk Tryz.prog 53:=fun a w=>by kernel_rfl
theorem call54:zk Tryz.prog 54:=fun a w=>by kernel_rfl
theorem call55:zk Tryz.prog 55:=fun a w=>by kernel_rfl
theorem call56:zk Tryz.prog 56:=fun a w=>by kernel_rfl
theorem call64:zk Tryz.prog 64:=fun a w=>by kernel_rfl
theorem call65:zk Tryz.prog 65:=fun a w=>by kernel_rfl
theorem call66:zk Tryz.prog 66:=fun a w=>by kernel_rfl
theorem call67:zk Tryz.prog 67:=fun a w=>by kernel_rfl
theorem call68:zk Tryz.prog 68:=fun a w=>by kernel_rfl
theorem call69:zk Tryz.prog 69:=fun a w=>by kernel_rfl
theorem call70:zk Tryz.prog 70:=fun a w=>by kernel_rfl
theorem call74:zk Tryz.prog 74:=fun a w=>by kernel_rfl
theorem call75:zk Tryz.prog 75:=fun a w=>by kernel_rfl
theorem call76:zk Tryz.prog 76:=fun a w=>by kernel_rfl
theorem call79:zk Tryz.prog 79:=fun a w=>by kernel_rfl
theorem call82:zk Tryz.prog 82:=fun a w=>by kernel_rfl
theorem call83:zk Tryz.prog 83:=fun a w=>by kernel_rfl
theorem call84:zk Tryz.prog 84:=fun a w=>by kernel_rfl
theorem call85:zk Tryz.prog 85:=fun a w=>by kernel_rfl
theorem call86:zk Tryz.prog 86:=fun a w=>by kernel_rfl
theorem call87:zk Tryz.prog 87:=fun a w=>by kernel_rfl
theorem call88:zk Tryz.prog 88:=fun a w=>by kernel_rfl
theorem call89:zk Tryz.prog 89:=fun a w=>by kernel_rfl
theorem call103:zk Tryz.prog 103:=fun a w=>by kernel_rfl
theorem call104:zk Tryz.prog 104:=fun a w=>by kernel_rfl
theorem call106:zk Tryz.prog 106:=fun a w=>by kernel_rfl
theorem call107:zk Tryz.prog 107:=fun a w=>by kernel_rfl
theorem call108:zk Tryz.prog 108:=fun a w=>by kernel_rfl
theorem call109:zk Tryz.prog 109:=fun a w=>by kernel_rfl
theorem call110:zk Tryz.prog 110:=fun a w=>by kernel_rfl
theorem call111:zk Tryz.prog 111:=fun a w=>by kernel_rfl
theorem call112:zk Tryz.prog 112:=fun a w=>by kernel_rfl
theorem zAb:zk Tryz.prog 113:=fun a w=>by kernel_rfl
theorem call114:zk Tryz.prog 114:=fun a w=>by kernel_rfl
theorem call115:zk Tryz.prog 115:=fun a w=>by kernel_rfl
theorem call116:zk Tryz.prog 116:=fun a w=>by kernel_rfl
theorem call117:zk Tryz.prog 117:=fun a w=>by kernel_rfl
theorem call118:zk Tryz.prog 118:=fun a w=>by kernel_rfl
theorem call128:zk Tryz.prog 128:=fun a w=>by kernel_rfl
theorem call129:zk Tryz.prog 129:=fun a w=>by kernel_rfl
theorem call130:zk Tryz.prog 130:=fun a w=>by kernel_rfl
theorem call131:zk Tryz.prog 131:=fun a w=>by kernel_rfl
theorem call132:zk Tryz.prog 132:=fun a w=>by kernel_rfl
theorem call133:zk Tryz.prog 133:=fun a w=>by kernel_rfl
theorem call134:zk Tryz.prog 134:=fun a w=>by kernel_rfl
theorem call135:zk Tryz.prog 135:=fun a w=>by kernel_rfl
theorem call143:zk Tryz.prog 143:=fun a w=>by kernel_rfl
theorem call145:zk Tryz.prog 145:=fun a w=>by kernel_rfl
theorem call147:zk Tryz.prog 147:=fun a w=>by kernel_rfl
theorem call148:zk Tryz.prog 148:=fun a w=>by kernel_rfl
theorem call149:zk Tryz.prog 149:=fun a w=>by kernel_rfl
theorem call150:zk Tryz.prog 150:=fun a w=>by kernel_rfl
theorem call151:zk Tryz.prog 151:=fun a w=>by kernel_rfl
theorem call152:zk Tryz.prog 152:=fun a w=>by kernel_rfl
theorem zz8:zk Tryz.prog 153:=fun a w=>by kernel_rfl
theorem call154:zk Tryz.prog 154:=fun a w=>by kernel_rfl
theorem call155:zk Tryz.prog 155:=fun a w=>by kernel_rfl
theorem call156:zk Tryz.prog 156:=fun a w=>by kernel_rfl
theorem call157:zk Tryz.prog 157:=fun a w=>by kernel_rfl
theorem call158:zk Tryz.prog 158:=fun a w=>by kernel_rfl
theorem call159:zk Tryz.prog 159:=fun a w=>by kernel_rfl
theorem call178:zk Tryz.prog 178:=fun a w=>by kernel_rfl
theorem call179:zk Tryz.prog 179:=fun a w=>by kernel_rfl
theorem call180:zk Tryz.prog 180:=fun a w=>by kernel_rfl
theorem call181:zk Tryz.prog 181:=fun a w=>by kernel_rfl
theorem call182:zk Tryz.prog 182:=fun a w=>by kernel_rfl
theorem call183:zk Tryz.prog 183:=fun a w=>by kernel_rfl
theorem call184:zk Tryz.prog 184:=fun a w=>by kernel_rfl
theorem call185:zk Tryz.prog 185:=fun a w=>by kernel_rfl
theorem call186:zk Tryz.prog 186:=fun a w=>by kernel_rfl
theorem call207:zk Tryz.prog 207:=fun a w=>by kernel_rfl
theorem call208:zk Tryz.prog 208:=fun a w=>by kernel_rfl
theorem call209:zk Tryz.prog 209:=fun a w=>by kernel_rfl
theorem zqb:zk Tryz.prog 210:=fun a w=>by kernel_rfl
theorem zdP:zk Tryz.prog 211:=fun a w=>by kernel_rfl
theorem call212:zk Tryz.prog 212:=fun a w=>by kernel_rfl
theorem call213:zk Tryz.prog 213:=fun a w=>by kernel_rfl
theorem call214:zk Tryz.prog 214:=fun a w=>by kernel_rfl
theorem zz7:zk Tryz.prog 215:=fun a w=>by kernel_rfl
theorem call216:zk Tryz.prog 216:=fun a w=>by kernel_rfl
theorem call217:zk Tryz.prog 217:=fun a w=>by kernel_rfl
theorem call218:zk Tryz.prog 218:=fun a w=>by kernel_rfl
theorem call228:zk Tryz.prog 228:=fun a w=>by kernel_rfl
theorem call229:zk Tryz.prog 229:=fun a w=>by kernel_rfl
theorem zz6:zk Tryz.prog 230:=fun a w=>by kernel_rfl
theorem call232:zk Tryz.prog 232:=fun a w=>by kernel_rfl
theorem call235:zk Tryz.prog 235:=fun a w=>by kernel_rfl
theorem call239:zk Tryz.prog 239:=fun a w=>by kernel_rfl
end Go.Proofs

namespace Go.Ab
structure Row(α:Type) where
 enc:α→List V
 n:Nat
 dflt:α
 len:∀ a,(enc a).length=n
 pos:0<n
 pure:∀ a,∀ x∈enc a,Pure x
 one:∀ a,(enc a).all V.one=true
 inj:∀ a b,enc a=enc b→a=b
namespace Row
variable {α:Type}(R:Row α)
def cells(l:List α):List V:=l.flatMap R.enc
def nth(l:List α)(i:Nat):α:=l.getD i R.dflt
theorem zzV:R.cells []=[]:=rfl
theorem cells_cons(e:α)(l:List α):R.cells (e::l)=R.enc e++R.cells l:=rfl
theorem cells_append(l r:List α):R.cells (l++r)=R.cells l++R.cells r:=by simp [cells]
theorem len_cells:∀ l:List α,(R.cells l).length=l.length*R.n
 |[]=>by simp [cells]
 |e::l=>by rw [cells_cons,Yi,R.len,len_cells l,Ym,YV,YaI,Nat.add_comm]
theorem zjT:∀(l:List α) (i:Nat),(R.cells l).drop (i*R.n)=R.cells (l.drop i)
 |l,0=>by simp
 |[],i+1=>by simp [zzV]
 |e::l,i+1=>by rw [cells_cons,YV,YaI,Nat.add_comm, ←Ybd,show R.n=(R.enc e).length by rw [R.len],List.drop_left,R.len];exact zjT l i
theorem drop_nth:∀(l:List α) (i:Nat),i<l.length→l.drop i=R.nth l i::l.drop (i+1)
 |[],_,h=>by simp at h
 |e::l,0,_=>rfl
 |e::l,i+1,h=>by have:=drop_nth l i (by simpa using h);simpa [nth] using this
theorem take_nth(l:List α)(i:Nat)(h:i<l.length):l.take (i+1)=l.take i++[R.nth l i]:=by rw [Ya8,nth,Ya,Yb h];rfl
theorem nth_mem {l:List α}{i:Nat}(h:i<l.length):R.nth l i∈l:=by unfold nth;rw [Ya,Yb h];exact YZ h
theorem at_(l:List α)(i:Nat)(h:i<l.length):(R.cells l).drop (i*R.n)=R.enc (R.nth l i)++R.cells (l.drop (i+1)):=by rw [zjT,R.drop_nth l i h,cells_cons]
theorem pure_cells(l:List α):∀ x∈R.cells l,Pure x:=fun x h=>by obtain⟨a,_,h⟩:=Ybv.1 h;exact R.pure a x h
theorem pure_cellsP(l:List α):(∀ x∈R.cells l,Pure x)↔True:=⟨fun _=>trivial,fun _=>R.pure_cells l⟩
theorem one_cells(l:List α):(R.cells l).all V.one=true:=Yg.2 fun x h=>by obtain⟨a,_,h⟩:=Ybv.1 h;exact Yg.1 (R.one a) x h
theorem cells_inj:∀ {l r:List α},R.cells l=R.cells r→l=r
 |[],[],_=>rfl
 |[],e::r,h=>by have:=Ya6 List.length h;rw [len_cells,len_cells,Ym,YV]at this;have:=R.pos;simp at *; omega
 |e::l,[],h=>by have:=Ya6 List.length h;rw [len_cells,len_cells,Ym,YV]at this;have:=R.pos;simp at *; omega
 |e::l,e'::r,h=>by rw [cells_cons,cells_cons]at h;obtain⟨h1,h2⟩:=List.append_inj h (by rw [R.len,R.len]);rw [R.inj _ _ h1,cells_inj h2]
theorem lrel_cells {π:Nat→Nat}{N:Nat→Prop}(l:List α):LRel (Rn π N) (R.cells l) (R.cells l)↔True:=⟨fun _=>trivial,fun _=>zt (R.pure_cells l)⟩
theorem all_t {p:α→Bool}{l:List α}(h:∀ i,i<l.length→p (R.nth l i)=true):l.all p=true:=by refine Yg.2 fun x hx=>?_;obtain⟨i,hi,rfl⟩:=Yaj.1 hx;have:=h i hi;unfold nth at this;rwa [Ya,Yb hi]at this
theorem all_f {p:α→Bool}{l:List α}{i:Nat}(hi:i<l.length)(h:p (R.nth l i)=false):l.all p=false:=by
 cases e:l.all p with
 |false=>rfl
 |true=>rw [Yg.1 e _ (R.nth_mem hi)]at h;cases h
end Row
end Go.Ab
