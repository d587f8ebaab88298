/- The types of this seat's translation: closed facts (laid by program). -/
import Derived.Test.YtbdlfegfepggnaaGreatDoorChecked
import Derived.Test.YtbdlfegfepggnaaGreatDoorAbRules
import Derived.KernelRfl
set_option linter.all false
set_option maxHeartbeats 16000000
set_option maxRecDepth 100000
noncomputable section
namespace Go.Proofs.Tryz
open Go.Ab
def agg3:aggT prog 3=some false:=Zk
def size3:sizeT prog 3=some 1:=Zk
def agg4:aggT prog 4=some false:=Zk
def size4:sizeT prog 4=some 1:=Zk
def agg5:aggT prog 5=some false:=Zk
def size5:sizeT prog 5=some 1:=Zk
def agg9:aggT prog 9=some false:=Zk
def size9:sizeT prog 9=some 1:=Zk
def agg22:aggT prog 22=some false:=Zk
def size22:sizeT prog 22=some 1:=Zk
def elem22:zby prog 22=some 2:=Zk
def bld22:zbX prog 22=some (2,(.agg ([(.string ⟨([]:ZL).toArray⟩),(.slice none 0 0)]:List Value).toArray)):=Zk
def agg24:aggT prog 24=some true:=Zk
def size24:sizeT prog 24=some 4:=Zk
def zero24:zaJ prog 24=some (.agg ([(.int .i64 0),(.int .i64 0),(.string ⟨([]:ZL).toArray⟩),(.slice none 0 0)]:List Value).toArray):=Zk
def self24:zf5 prog 24=false:=Zk
def places24:zb5 prog 24=some [(0,1),(1,1),(2,1),(3,1)]:=Zk
def field24_0:zaD prog 24 0=some (0,false,1):=Zk
def field24_1:zaD prog 24 1=some (1,false,1):=Zk
def field24_2:zaD prog 24 2=some (2,false,1):=Zk
def field24_3:zaD prog 24 3=some (3,false,1):=Zk
def row25:rowE prog 25=(false,9):=Zk
def elem25:zby prog 25=some 1:=Zk
def app25:appT prog 25=some (1,16,true):=Zk
def bld25:zbX prog 25=some (1,(.string ⟨([]:ZL).toArray⟩)):=Zk
def agg28:aggT prog 28=some false:=Zk
def size28:sizeT prog 28=some 1:=Zk
def row28:rowE prog 28=(true,5):=Zk
def elem28:zby prog 28=some 1:=Zk
def app28:appT prog 28=some (1,1,true):=Zk
def bld28:zbX prog 28=some (1,(.int .u8 0)):=Zk
def agg42:aggT prog 42=some false:=Zk
def size42:sizeT prog 42=some 1:=Zk
def elem42:zby prog 42=some 4:=Zk
def bld42:zbX prog 42=some (4,(.agg ([(.int .i64 0),(.int .i64 0),(.string ⟨([]:ZL).toArray⟩),(.int .i64 0)]:List Value).toArray)):=Zk
def agg44:aggT prog 44=some true:=Zk
def size44:sizeT prog 44=some 2:=Zk
def zero44:zaJ prog 44=some (.agg ([(.string ⟨([]:ZL).toArray⟩),(.slice none 0 0)]:List Value).toArray):=Zk
def self44:zf5 prog 44=false:=Zk
def places44:zb5 prog 44=some [(0,1),(1,1)]:=Zk
def field44_0:zaD prog 44 0=some (0,false,1):=Zk
def field44_1:zaD prog 44 1=some (1,false,1):=Zk
def agg46:aggT prog 46=some true:=Zk
def size46:sizeT prog 46=some 4:=Zk
def zero46:zaJ prog 46=some (.agg ([(.int .i64 0),(.int .i64 0),(.string ⟨([]:ZL).toArray⟩),(.int .i64 0)]:List Value).toArray):=Zk
def self46:zf5 prog 46=false:=Zk
def places46:zb5 prog 46=some [(0,1),(1,1),(2,1),(3,1)]:=Zk
def field46_0:zaD prog 46 0=some (0,false,1):=Zk
def field46_1:zaD prog 46 1=some (1,false,1):=Zk
def field46_2:zaD prog 46 2=some (2,false,1):=Zk
def field46_3:zaD prog 46 3=some (3,false,1):=Zk
def agg50:aggT prog 50=some false:=Zk
def size50:sizeT prog 50=some 1:=Zk
def agg52:aggT prog 52=some true:=Zk
def size52:sizeT prog 52=some 5:=Zk
def zero52:zaJ prog 52=some (.agg ([(.int .i64 0),(.int .i64 0),(.int .i64 0),(.int .i64 0),(.map none)]:List Value).toArray):=Zk
def self52:zf5 prog 52=false:=Zk
def places52:zb5 prog 52=some [(0,1),(1,1),(2,1),(3,1),(4,1)]:=Zk
def field52_0:zaD prog 52 0=some (0,false,1):=Zk
def field52_1:zaD prog 52 1=some (1,false,1):=Zk
def field52_2:zaD prog 52 2=some (2,false,1):=Zk
def field52_3:zaD prog 52 3=some (3,false,1):=Zk
def field52_4:zaD prog 52 4=some (4,false,1):=Zk
def field58_0:zaD prog 58 0=some (0,false,1):=Zk
def field58_1:zaD prog 58 1=some (1,false,1):=Zk
def zero60:zaJ prog 60=some (.agg ([(.slice none 0 0),(.int .i64 0),(.int .i8 0),(.int .u8 0),(.int .i64 0)]:List Value).toArray):=Zk
def places60:zb5 prog 60=some [(0,3),(3,1),(4,1)]:=Zk
def field60_0:zaD prog 60 0=some (0,true,3):=Zk
def field60_1:zaD prog 60 1=some (3,false,1):=Zk
def field60_2:zaD prog 60 2=some (4,false,1):=Zk
def zero66:zaJ prog 66=some (.agg ([(.int .i64 0),(.int .i64 0),(.int .i64 0),(.int .i64 0),(.int .i64 0),(.int .i64 0),(.int .i64 0)]:List Value).toArray):=Zk
def row74:rowE prog 74=(false,28):=Zk
def elem74:zby prog 74=some 1:=Zk
def app74:appT prog 74=some (1,24,true):=Zk
def bld74:zbX prog 74=some (1,(.slice none 0 0)):=Zk
def row77:rowE prog 77=(false,3):=Zk
def elem77:zby prog 77=some 1:=Zk
def app77:appT prog 77=some (1,8,true):=Zk
def bld77:zbX prog 77=some (1,(.int .i64 0)):=Zk
def zeroE77:zeroE prog 77=some (.int .i64 0):=Zk
def agg81:aggT prog 81=some false:=Zk
def size81:sizeT prog 81=some 1:=Zk
def agg95:aggT prog 95=some false:=Zk
def size95:sizeT prog 95=some 1:=Zk
def agg104:aggT prog 104=some true:=Zk
def size104:sizeT prog 104=some 256:=Zk
def self104:zf5 prog 104=false:=Zk
def arr104:arrS prog 104=some (256,1):=Zk
def agg121:aggT prog 121=some true:=Zk
def size121:sizeT prog 121=some 8:=Zk
def zero121:zaJ prog 121=some (.agg ([(.string ⟨([]:ZL).toArray⟩),(.string ⟨([]:ZL).toArray⟩),(.bool false),.nilFunc,.nilFunc,.nilFunc,.nilFunc,.nilFunc]:List Value).toArray):=Zk
def self121:zf5 prog 121=false:=Zk
def places121:zb5 prog 121=some [(0,1),(1,1),(2,1),(3,1),(4,1),(5,1),(6,1),(7,1)]:=Zk
def field121_7:zaD prog 121 7=some (7,false,1):=Zk
def agg129:aggT prog 129=some false:=Zk
def size129:sizeT prog 129=some 1:=Zk
def agg130:aggT prog 130=some true:=Zk
def size130:sizeT prog 130=some 32:=Zk
def zero130:zaJ prog 130=some (.agg ([(.string ⟨([]:ZL).toArray⟩),(.string ⟨([]:ZL).toArray⟩),(.bool false),.nilFunc,.nilFunc,.nilFunc,.nilFunc,.nilFunc,(.string ⟨([]:ZL).toArray⟩),(.string ⟨([]:ZL).toArray⟩),(.bool false),.nilFunc,.nilFunc,.nilFunc,.nilFunc,.nilFunc,(.string ⟨([]:ZL).toArray⟩),(.string ⟨([]:ZL).toArray⟩),(.bool false),.nilFunc,.nilFunc,.nilFunc,.nilFunc,.nilFunc,(.string ⟨([]:ZL).toArray⟩),(.string ⟨([]:ZL).toArray⟩),(.bool false),.nilFunc,.nilFunc,.nilFunc,.nilFunc,.nilFunc]:List Value).toArray):=Zk
def self130:zf5 prog 130=false:=Zk
def agg161:aggT prog 161=some true:=Zk
def size161:sizeT prog 161=some 3:=Zk
def zero161:zaJ prog 161=some (.agg ([(.bool false),(.string ⟨([]:ZL).toArray⟩),(.string ⟨([]:ZL).toArray⟩)]:List Value).toArray):=Zk
def self161:zf5 prog 161=false:=Zk
def places161:zb5 prog 161=some [(0,1),(1,1),(2,1)]:=Zk
def field161_0:zaD prog 161 0=some (0,false,1):=Zk
def field161_1:zaD prog 161 1=some (1,false,1):=Zk
def field161_2:zaD prog 161 2=some (2,false,1):=Zk
def row175:rowE prog 175=(false,129):=Zk
def elem175:zby prog 175=some 1:=Zk
def app175:appT prog 175=some (1,8,true):=Zk
def bld175:zbX prog 175=some (1,(.int .u64 0)):=Zk
def zeroE175:zeroE prog 175=some (.int .u64 0):=Zk
def agg204:aggT prog 204=some false:=Zk
def size204:sizeT prog 204=some 1:=Zk
def zero206:zaJ prog 206=some (.agg ([(.pointer none),(.slice none 0 0)]:List Value).toArray):=Zk
def self206:zf5 prog 206=true:=Zk
def field206_0:zaD prog 206 0=some (0,false,1):=Zk
def field206_1:zaD prog 206 1=some (1,false,1):=Zk
attribute [go_sem] agg3 size3 underlying3 agg4 size4 underlying4 agg5 size5 underlying5 underlying8 agg9 size9 underlying9 underlying10 underlying11 underlying14 underlying15 underlying16 underlying17 underlying19 underlying20 underlying21 agg22 size22 underlying22 elem22 bld22 agg24 size24 zero24 underlying24 self24 places24 field24_0 field24_1 field24_2 field24_3 underlying25 row25 elem25 app25 bld25 agg28 size28 underlying28 row28 elem28 app28 bld28 underlying29 agg42 size42 underlying42 elem42 bld42 agg44 size44 zero44 underlying44 self44 places44 field44_0 field44_1 agg46 size46 zero46 underlying46 self46 places46 field46_0 field46_1 field46_2 field46_3 agg50 size50 underlying50 agg52 size52 zero52 underlying52 self52 places52 field52_0 field52_1 field52_2 field52_3 field52_4 underlying54 underlying56 underlying58 field58_0 field58_1 zero60 underlying60 places60 field60_0 field60_1 field60_2 underlying62 zero66 underlying66 underlying74 row74 elem74 app74 bld74 underlying77 row77 elem77 app77 bld77 zeroE77 agg81 size81 underlying81 underlying83 underlying87 underlying89 agg95 size95 underlying95 underlying99 agg104 size104 underlying104 self104 arr104 underlying108 underlying110 underlying112 underlying115 agg121 size121 zero121 underlying121 self121 places121 field121_7 agg129 size129 underlying129 agg130 size130 zero130 underlying130 self130 underlying136 underlying148 agg161 size161 zero161 underlying161 self161 places161 field161_0 field161_1 field161_2 underlying164 underlying169 underlying173 underlying174 underlying175 row175 elem175 app175 bld175 zeroE175 underlying183 underlying185 underlying186 underlying201 agg204 size204 underlying204 zero206 underlying206 self206 field206_0 field206_1 underlying215 underlying217 underlying221 underlying228 underlying229 underlying230 underlying231 underlying232 underlying239 underlying246
end Go.Proofs.Tryz

namespace Go.Ab
open Go.Cnt
def entV(e:Ent):ZA:=[.str e.1.1,.str e.1.2,.int .i64 e.2]
def cnts(l:List Ent):ZA:=l.flatMap entV
def nthE(l:List Ent)(i:Nat):Ent:=l.getD i (([],[]),0)
theorem zzq(e:Ent)(l:List Ent):cnts (e::l)=.str e.1.1::.str e.1.2::.int .i64 e.2::cnts l:=rfl
def zmO:∀l:List Ent,∀x∈cnts l,Pure x
 |[],_,h=>by cases h
 |e::l,x,h=>by
  rw[zzq]at h;simp only[Yy]at h;rcases h with rfl|rfl|rfl|h
  ·exact .str _
  ·exact .str _
  ·exact .int _ _
  exact zmO l x h
def zjs(l:List Ent):(∀x∈cnts l,Pure x)↔True:=⟨fun _=>trivial,fun _=>zmO l⟩
attribute [go_sem] zjs
attribute [go_sem] List.map_cons List.map_nil List.all_cons List.all_nil
attribute [push_cast] zjs
end Go.Ab

namespace Go.Proofs
open Go.Ab
abbrev ZC(c:ZV)(n:Nat):Prop:=∀args r,c args=some r→PCall Tryz.prog n args r
def mixed:Tryz.prog.follows .mixedOrders=true:=Zk
def call3:zk Tryz.prog 3:=ZF
def call6:zk Tryz.prog 6:=ZF
def call7:zk Tryz.prog 7:=ZF
def call8:zk Tryz.prog 8:=ZF
def call9:zk Tryz.prog 9:=ZF
def call10:zk Tryz.prog 10:=ZF
def call11:zk Tryz.prog 11:=ZF
def call13:zk Tryz.prog 13:=ZF
def call16:zk Tryz.prog 16:=ZF
def call17:zk Tryz.prog 17:=ZF
def call18:zk Tryz.prog 18:=ZF
def call19:zk Tryz.prog 19:=ZF
def call20:zk Tryz.prog 20:=ZF
def call21:zk Tryz.prog 21:=ZF
def call22:zk Tryz.prog 22:=ZF
def call23:zk Tryz.prog 23:=ZF
def zzH:zk Tryz.prog 24:=ZF
def call25:zk Tryz.prog 25:=ZF
def call26:zk Tryz.prog 26:=ZF
def call27:zk Tryz.prog 27:=ZF
def call28:zk Tryz.prog 28:=ZF
def call29:zk Tryz.prog 29:=ZF
def call30:zk Tryz.prog 30:=ZF
def call31:zk Tryz.prog 31:=ZF
def call32:zk Tryz.prog 32:=ZF
def call33:zk Tryz.prog 33:=ZF
def call34:zk Tryz.prog 34:=ZF
def call35:zk Tryz.prog 35:=ZF
def call36:zk Tryz.prog 36:=ZF
def call37:zk Tryz.prog 37:=ZF
def call38:zk Tryz.prog 38:=ZF
def call39:zk Tryz.prog 39:=ZF
def call40:zk Tryz.prog 40:=ZF
def call41:zk Tryz.prog 41:=ZF
def call42:zk Tryz.prog 42:=ZF
def call43:zk Tryz.prog 43:=ZF
def call44:zk Tryz.prog 44:=ZF
def call45:zk Tryz.prog 45:=ZF
def call46:zk Tryz.prog 46:=ZF
def call52:zk Tryz.prog 52:=ZF
def call53:zk Tryz.prog 53:=ZF
def call54:zk Tryz.prog 54:=ZF
def call55:zk Tryz.prog 55:=ZF
def call56:zk Tryz.prog 56:=ZF
def call57:zk Tryz.prog 57:=ZF
def call58:zk Tryz.prog 58:=ZF
def call63:zk Tryz.prog 63:=ZF
def call64:zk Tryz.prog 64:=ZF
def call65:zk Tryz.prog 65:=ZF
def call66:zk Tryz.prog 66:=ZF
def call67:zk Tryz.prog 67:=ZF
def call68:zk Tryz.prog 68:=ZF
def zr4:zk Tryz.prog 77:=ZF
def call78:zk Tryz.prog 78:=ZF
def call79:zk Tryz.prog 79:=ZF
def call86:zk Tryz.prog 86:=ZF
def call88:zk Tryz.prog 88:=ZF
def call89:zk Tryz.prog 89:=ZF
def call90:zk Tryz.prog 90:=ZF
def call91:zk Tryz.prog 91:=ZF
def call102:zk Tryz.prog 102:=ZF
def call103:zk Tryz.prog 103:=ZF
def call107:zk Tryz.prog 107:=ZF
def call112:zk Tryz.prog 112:=ZF
def call114:zk Tryz.prog 114:=ZF
def call115:zk Tryz.prog 115:=ZF
def call122:zk Tryz.prog 122:=ZF
def call123:zk Tryz.prog 123:=ZF
def call124:zk Tryz.prog 124:=ZF
def call128:zk Tryz.prog 128:=ZF
def call129:zk Tryz.prog 129:=ZF
def call130:zk Tryz.prog 130:=ZF
def call132:zk Tryz.prog 132:=ZF
def call136:zk Tryz.prog 136:=ZF
def call137:zk Tryz.prog 137:=ZF
def call138:zk Tryz.prog 138:=ZF
def call141:zk Tryz.prog 141:=ZF
def call142:zk Tryz.prog 142:=ZF
def call143:zk Tryz.prog 143:=ZF
def call144:zk Tryz.prog 144:=ZF
def call145:zk Tryz.prog 145:=ZF
def call146:zk Tryz.prog 146:=ZF
def call147:zk Tryz.prog 147:=ZF
def call150:zk Tryz.prog 150:=ZF
def call151:zk Tryz.prog 151:=ZF
def call152:zk Tryz.prog 152:=ZF
def call153:zk Tryz.prog 153:=ZF
def call154:zk Tryz.prog 154:=ZF
def call155:zk Tryz.prog 155:=ZF
def zzK:zk Tryz.prog 156:=ZF
def call157:zk Tryz.prog 157:=ZF
def call159:zk Tryz.prog 159:=ZF
def call160:zk Tryz.prog 160:=ZF
def call163:zk Tryz.prog 163:=ZF
def call164:zk Tryz.prog 164:=ZF
def call165:zk Tryz.prog 165:=ZF
def call166:zk Tryz.prog 166:=ZF
def call167:zk Tryz.prog 167:=ZF
def call168:zk Tryz.prog 168:=ZF
def call169:zk Tryz.prog 169:=ZF
def call170:zk Tryz.prog 170:=ZF
def call173:zk Tryz.prog 173:=ZF
def call174:zk Tryz.prog 174:=ZF
def call175:zk Tryz.prog 175:=ZF
def call176:zk Tryz.prog 176:=ZF
def call177:zk Tryz.prog 177:=ZF
def call179:zk Tryz.prog 179:=ZF
def call180:zk Tryz.prog 180:=ZF
def zzJ:zk Tryz.prog 181:=ZF
def call182:zk Tryz.prog 182:=ZF
def call183:zk Tryz.prog 183:=ZF
def call184:zk Tryz.prog 184:=ZF
def call185:zk Tryz.prog 185:=ZF
def zp7:zk Tryz.prog 186:=ZF
def zdT:zk Tryz.prog 187:=ZF
def call188:zk Tryz.prog 188:=ZF
def call189:zk Tryz.prog 189:=ZF
def call190:zk Tryz.prog 190:=ZF
def call191:zk Tryz.prog 191:=ZF
def call192:zk Tryz.prog 192:=ZF
def call193:zk Tryz.prog 193:=ZF
def call194:zk Tryz.prog 194:=ZF
def call195:zk Tryz.prog 195:=ZF
def call196:zk Tryz.prog 196:=ZF
def zzI:zk Tryz.prog 197:=ZF
def call199:zk Tryz.prog 199:=ZF
def call202:zk Tryz.prog 202:=ZF
def call203:zk Tryz.prog 203:=ZF
end Go.Proofs

namespace Go.Pl
def zaT(c:UInt8):Bool:=decide (48≤c.toNat)&&decide (c.toNat≤57)
def valD(a:ZL):Nat:=a.foldl (fun n c=>10*n+(c.toNat-48)) 0
def zH(a:ZL):Bool:= !decide (a=[])&&decide (a.length≤1000)&&(decide (a.length≤1)|| !decide ((a.getD 0 0).toNat=48))&&a.all zaT
def all_getD {p:UInt8→Bool}{a:ZL}:a.all p=true↔∀i,i<a.length→p (a.getD i 0)=true:=by
 simp only[Yo];constructor
 ·intro h i hi;rw[Ya,Yb hi];exact h _ (Y6 _)
 intro h x hx;obtain⟨i,hi,rfl⟩:=Yaw.1 hx;have:=h i hi;rwa [Ya,Yb hi]at this
def valL:ZN→Nat
 |[]=>0
 |d::l=>d+1000000000*valL l
def okL(l:ZN):Prop:=∀d∈l,d<1000000000
def zaw:ZN→ZN
 |[]=>[]
 |d::l=>if d=0∧zaw l=[]then []else d::zaw l
def zci:Nat→Nat→ZN
 |0,_=>[]
 |f+1,n=>if n=0 then []else n%1000000000::zci f (n/1000000000)
def limbs(n:Nat):ZN:=zci n n
def zeh:∀(f g n:Nat),n≤f→n≤g→zci f n=zci g n
 |0,g,n,h,_=>by have:n=0:=Zo;subst this;cases g<;>simp[zci]
 |f+1,0,n,_,h=>by have:n=0:=Zo;subst this;simp[zci]
 |f+1,g+1,n,h,h'=>by
  simp only[zci];split
  ·rfl
  rw[zeh f g (n/1000000000) Zo Zo]
theorem zaL:limbs 0=[]:=rfl
def zaU {n:Nat}(h:n≠0):limbs n=n%1000000000::limbs (n/1000000000):=by unfold limbs;obtain⟨m,rfl⟩:∃m,n=m+1:=⟨n-1,Zo⟩;rw[zci,Yh h,zeh m ((m+1)/1000000000) ((m+1)/1000000000) Zo (Yc _)]
def limbs_nil {n:Nat}:limbs n=[]↔n=0:=by
 constructor
 ·intro h;by_cases h0:n=0
  ·exact h0
  rw[zaU h0]at h;cases h
 rintro rfl;rfl
def zG(n:Nat):valL (limbs n)=n:=by
 induction n using Nat.strongRecOn with
 |_ n ih=>
  by_cases h:n=0
  ·subst h;rfl
  rw[zaU h,valL,ih (n/1000000000) Zo];omega
def zI(n:Nat):okL (limbs n):=by
 induction n using Nat.strongRecOn with
 |_ n ih=>
  by_cases h:n=0
  ·subst h;intro d hd;cases hd
  rw[zaU h];intro d hd;rcases Yy.1 hd with rfl|hd
  ·omega
  exact ih (n/1000000000) Zo d hd
def okL_cons {d:Nat}{l:ZN}:okL (d::l)↔d<1000000000∧okL l:=by simp[okL]
def okL_append {l r:ZN}:okL (l++r)↔okL l∧okL r:=by simp only[okL,Yar];exact⟨fun h=>⟨fun d hd=>h d (.inl hd),fun d hd=>h d (.inr hd)⟩,fun h d hd=>hd.elim (h.1 d) (h.2 d)⟩
def za0 {l:ZN}(h:okL l):zaw l=limbs (valL l):=by
 induction l with
 |nil=>rfl
 |cons d l ih=>
  rw[okL_cons]at h;rw[zaw,ih h.2,valL];have hd:=h.1;by_cases h0:d+1000000000*valL l=0
  ·rw[h0,zaL,Yi ⟨Zo,limbs_nil.2 Zo⟩]
  rw[zaU h0,Yh (by rw[limbs_nil];omega)];congr 1
  ·omega
  congr 1;omega
def zaG(l r:ZN):valL (l++r)=valL l+1000000000^l.length*valL r:=by
 induction l with
 |nil=>simp[valL]
 |cons d l ih=>simp only[Ya4,valL,ih,Yn,YM,YP,←Yad];rw[Yav (1000000000^l.length) 1000000000];omega
def valL_lt {l:ZN}(h:okL l):valL l<1000000000^l.length:=by
 induction l with
 |nil=>simp[valL]
 |cons d l ih=>
  rw[okL_cons]at h;have:=ih h.2;simp only[valL,Yn,YM];have h1:=h.1;have:1000000000*valL l+1000000000≤1000000000*1000000000^l.length:=by rw[←Nat.mul_succ];exact Y8 _ this
  omega
def zdc {l:ZN}{n:Nat}(hn:n≤l.length)(h:∀j,n≤j→l.getD j 0=0)(h2:n=0∨l.getD (n-1) 0≠0):zaw l=l.take n:=by
 induction l generalizing n with
 |nil=>simp[zaw]
 |cons d l ih=>
  cases n with
  |zero=>
   have hd:=h 0 (Yc _);have hl:zaw l=[]:=by rw[ih (n:=0) (Yk _) (fun j _=>h (j+1) (Yk _)) (.inl rfl)];simp
   simp at hd;simp[zaw,hd,hl]
  |succ n=>
   have hl:=ih (n:=n) (by simpa using hn) (fun j hj=>by have:=h (j+1) Zo;simpa using this) (by
    cases n with
    |zero=>exact .inl rfl
    |succ n=>right;rcases h2 with h2|h2;omega;simpa using h2)
   rw[zaw,hl,Ycb,Yh];rintro⟨hd,hnil⟩;rcases h2 with h2|h2
   ·omega
   cases n with
   |zero=>simp at h2;exact h2 hd
   |succ n=>
    have:l.length=0:=by have:=YaZ List.length hnil;simp at this;simp[this]
    simp at hn;omega
def zcB {n:Nat}(h:n≠0):(limbs n).getD ((limbs n).length-1) 0≠0:=by
 induction n using Nat.strongRecOn with
 |_ n ih=>
  rw[zaU h];by_cases h1:n/1000000000=0
  ·rw[h1,zaL];simp;omega
  have:=ih (n/1000000000) Zo h1;have hne:limbs (n/1000000000)≠[]:=by rw[ne_eq,limbs_nil];exact h1
  obtain⟨d,r,hdr⟩:=List.exists_cons_of_ne_nil hne;rw[hdr]at this ⊢;simpa using this
def zaO {n k:Nat}(h:n<1000000000^k):(limbs n).length≤k:=by
 induction k generalizing n with
 |zero=>
  have:n=0:=by simpa using h
  subst this;simp[zaL]
 |succ k ih=>
  by_cases h0:n=0
  ·subst h0;simp[zaL]
  rw[zaU h0,Yn];have:n/1000000000<1000000000^k:=by rw[YaQ Zo];rw[YM]at h;exact h
  have:=ih this;omega
def getD_drop {α:Type}(l:List α)(a b:Nat)(d:α):(l.drop a).getD b d=l.getD (a+b) d:=by simp[Ya]
def getD_take {α:Type}(l:List α)(n i:Nat)(d:α)(h:i<n):(l.take n).getD i d=l.getD i d:=by simp[Ya,h]
def za2 {α:Type}(l:List α)(i:Nat)(d:α)(h:l.length≤i):l.getD i d=d:=by simp[Ya,h]
def zcb {α:Type}(l:List α)(n:Nat)(d:α)(h:n<l.length):l.take (n+1)=l.take n++[l.getD n d]:=by rw[YbL h,Ya,Yb h];rfl
theorem zcT:valD []=0:=rfl
def foldD(a:ZL)(n:Nat):a.foldl (fun n c=>10*n+(c.toNat-48)) n=10^a.length*n+valD a:=by
 induction a generalizing n with
 |nil=>simp[valD]
 |cons c a ih=>
  simp only[YbJ,Yn,valD];rw[ih,ih (10*0+(c.toNat-48)),YP,YM,Y9,Yan];have:10^a.length*(10*n)=10^a.length*10*n:=by rw[Yad]
  omega
def zbS(c:UInt8)(a:ZL):valD (c::a)=10^a.length*(c.toNat-48)+valD a:=by rw[valD,YbJ,foldD];simp
def zb3(a b:ZL):valD (a++b)=10^b.length*valD a+valD b:=by rw[valD,List.foldl_append,foldD];rfl
def zbR(a:ZL)(c:UInt8):valD (a++[c])=10*valD a+(c.toNat-48):=by rw[zb3];simp[zbS,zcT]
def zbG {c:UInt8}(h:zaT c=true):48≤c.toNat∧c.toNat≤57:=by simpa[zaT]using h
def zhi {a:ZL}(h:a.all zaT=true):valD a<10^a.length:=by
 induction a with
 |nil=>simp[valD]
 |cons c a ih=>simp only[Ybs,Yg]at h;have h1:=zbG h.1;have h2:=ih h.2;rw[zbS,Yn,YM];have:10^a.length*(c.toNat-48)≤10^a.length*9:=Y8 _ Zo;omega
def zru {l:ZN}{a:ZL}{p:Nat}(ho:okL l)(hv:valL l+p*valD (a.take 0)=valD a):limbs (valD a)=zaw l:=by rw[za0 ho,←hv,YbE,zcT,Y9,Y3]
def decF:Nat→Nat→ZL
 |0,_=>[]
 |f+1,n=>if n<10 then [UInt8.ofNat (48+n)]else decF f (n/10)++[UInt8.ofNat (48+n%10)]
def dec(n:Nat):ZL:=decF (n+1) n
def zze:∀(f g n:Nat),n<f→n<g→decF f n=decF g n
 |0,_,n,h,_=>Zo
 |_,0,n,_,h=>Zo
 |f+1,g+1,n,h,h'=>by
  simp only[decF];split
  ·rfl
  rw[zze f g (n/10) Zo Zo]
def zbF {n:Nat}(h:n<10):dec n=[UInt8.ofNat (48+n)]:=by rw[dec,decF,Yi h]
def zdS {n:Nat}(h:10≤n):dec n=dec (n/10)++[UInt8.ofNat (48+n%10)]:=by rw[dec,decF,Yh Zo,zze n (n/10+1) (n/10) Zo Zo];rfl
def zbA {n:Nat}(h:n<10):(UInt8.ofNat (48+n)).toNat=48+n:=by simp only[UInt8.toNat_ofNat'];omega
def zcO(n:Nat):(dec n).all zaT=true:=by
 induction n using Nat.strongRecOn with
 |_ n ih=>
  by_cases h:n<10
  ·rw[zbF h];simp[zaT,zbA h];omega
  rw[zdS Zo,YbY,ih (n/10) Zo];have:n%10<10:=Zo;simp[zaT,zbA this];omega
def zan(n:Nat):valD (dec n)=n:=by
 induction n using Nat.strongRecOn with
 |_ n ih=>
  by_cases h:n<10
  ·rw[zbF h,zbS,zbA h];simp[zcT]
  rw[zdS Zo,zbR,ih (n/10) Zo,zbA Zo];omega
def zjO(n:Nat):dec n≠[]:=by
 by_cases h:n<10
 ·rw[zbF h];simp
 rw[zdS Zo];simp
def zdR(n:Nat):0<(dec n).length:=Ybx.2 (zjO n)
def zrY {n:Nat}(h:10≤n):((dec n).getD 0 0).toNat≠48:=by
 induction n using Nat.strongRecOn with
 |_ n ih=>
  rw[zdS h];have e:((dec (n/10)++[UInt8.ofNat (48+n%10)]).getD 0 0)=(dec (n/10)).getD 0 0:=by rw[Ya,Ya,YQ (zdR _)]
  rw[e];by_cases h1:n/10<10
  ·rw[zbF h1];simp[zbA h1];omega
  exact ih (n/10) Zo Zo
def dec_len_one {n:Nat}:(dec n).length≤1↔n<10:=by
 constructor
 ·intro h;by_cases h1:n<10
  ·exact h1
  rw[zdS Zo,Yd]at h;have:=zdR (n/10);rw[YZ]at h;omega
 intro h;rw[zbF h];simp
def zfX {n:Nat}:zH (dec n)=decide ((dec n).length≤1000):=by
 simp only[zH,zcO,YaC];have h1:decide (dec n=[])=false:=by simp[zjO]
 by_cases h:n<10
 ·have:=dec_len_one.2 h;simp[h1,this]
 have h2:=zrY (n:=n) Zo;have:¬(dec n).length≤1:=by rw[dec_len_one];exact h
 simp only[Ya]at h2;simp[h1,h2]
def zg4 {a:ZL}(hd:a.all zaT=true)(hne:a≠[])(hz:a.length≤1∨(a.getD 0 0).toNat≠48):dec (valD a)=a:=by
 induction h:a.length generalizing a with
 |zero=>exact absurd (List.length_eq_zero_iff.1 h) hne
 |succ k ih=>
  rcases List.eq_nil_or_concat a with rfl|⟨b,c,rfl⟩
  ·exact absurd rfl hne
  rw[List.concat_eq_append]at*;have hdc:zaT c=true:=by rw[YbY,Yg]at hd;simpa using hd.2
  have hdb:b.all zaT=true:=by rw[YbY,Yg]at hd;exact hd.1
  have hc:=zbG hdc;by_cases hb:b=[]
  ·subst hb;simp only[YaK,zbS,YY,Nat.pow_zero,YbS,zcT,Y3];rw[zbF Zo,show 48+(c.toNat-48)=c.toNat by omega];simp
  have hbl:0<b.length:=Ybx.2 hb;have hz':(b.getD 0 0).toNat≠48:=by
   rcases hz with hz|hz
   ·rw[Yd,YZ]at hz;omega
   have e:(b++[c]).getD 0 0=b.getD 0 0:=by rw[Ya,Ya,YQ hbl]
   rwa [e]at hz
  have hb2:=ih hdb hb (.inr hz') (by simpa using h);rw[zbR];have hpos:0<valD b:=by
   cases b with
   |nil=>exact absurd rfl hb
   |cons x b=>rw[zbS];have hx:=zbG (c:=x) (by simp at hdb;exact hdb.1);simp at hz';have:0<10^b.length*(x.toNat-48):=Yb5 (YcF Zo) Zo;omega
  rw[zdS Zo,show (10*valD b+(c.toNat-48))/10=valD b by omega,hb2,show 48+(10*valD b+(c.toNat-48))%10=c.toNat by omega];simp
def validN_iff {a:ZL}:zH a=true↔(dec (valD a)=a∧a.length≤1000)∧a.all zaT=true:=by
 constructor
 ·intro h;simp only[zH,Yg,Yao,Yam,Yay,Yq]at h;obtain⟨⟨⟨h1,h2⟩,h3⟩,h4⟩:=h;exact⟨⟨zg4 h4 h1 h3,h2⟩,h4⟩
 rintro⟨⟨h1,h2⟩,_⟩;rw[←h1,zfX,h1];simpa using h2
def zav {m n:Nat}(h:dec m=dec n):m=n:=by rw[←zan m,h,zan]
def zcD {n k:Nat}(h:n<10^k)(hk:0<k):(dec n).length≤k:=by
 induction k generalizing n with
 |zero=>omega
 |succ k ih=>
  by_cases h1:n<10
  ·rw[zbF h1];simp
  rw[zdS Zo,Yd];have hk0:0<k:=by
   cases k with
   |zero=>simp at h;omega
   |succ k=>omega
  have:=ih (n:=n/10) (by rw[YaQ Zo];rw[YM]at h;exact h) hk0;simp;omega
def zbP {n k:Nat}(h:(dec n).length≤k):n<10^k:=by have:=zhi (zcO n);rw[zan]at this;exact Yu this (YL Zo h)
def bk_next {a:ZL}{l:ZN}{i:Nat}(hi:i≤a.length)(hv:valL l+1000000000^l.length*valD (a.take i)=valD a):valL (l++[valD ((a.take i).drop (i-9))])+1000000000^(l++[valD ((a.take i).drop (i-9))]).length*valD (a.take (i-9))=valD a:=by
 generalize hP:(1000000000:Nat)^l.length=p at*;have e1:1000000000^(l++[valD ((a.take i).drop (i-9))]).length=p*1000000000:=by rw[Yd,YZ,YM,hP]
 rw[e1,zaG,hP,←hv];simp only[valL,Y9,Y3];have hsplit:valD (a.take i)=1000000000*valD (a.take (i-9))+valD ((a.take i).drop (i-9)):=by
  by_cases h9:i<9
  ·have:i-9=0:=Zo;rw[this,YbE,Y1,zcT,Y9,Yan]
  have e2:a.take i=(a.take i).take (i-9)++(a.take i).drop (i-9):=(Yae _ _).symm;have e3:((a.take i).drop (i-9)).length=9:=by simp;omega
  have e4:(a.take i).take (i-9)=a.take (i-9):=by rw[Ybu,Ya0 Zo]
  have:=YaZ valD e2;rw[zb3,e3,e4]at this;exact this
 rw[hsplit,Yad,YP];omega
end Go.Pl
