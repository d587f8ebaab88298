/- The types of this seat's translation: closed facts (laid by program). -/
import Derived.Test.YtbdlfegfepggnaaGreatDoorChecked
import Derived.Test.YtbdlfegfepggnaaGreatDoorAbRules
import Derived.KernelRfl
set_option linter.all false
set_option maxHeartbeats 16000000
set_option maxRecDepth 100000
noncomputable section
namespace Go.Proofs.Tryz
open Go.Ab
def agg3:aggT prog 3=some false:=Zk
def size3:zF prog 3=some 1:=Zk
def zero3:zaw prog 3=some (.int .i64 0):=Zk
def self3:zeP prog 3=false:=Zk
def agg4:aggT prog 4=some false:=Zk
def size4:zF prog 4=some 1:=Zk
def agg5:aggT prog 5=some false:=Zk
def size5:zF prog 5=some 1:=Zk
def agg9:aggT prog 9=some false:=Zk
def size9:zF prog 9=some 1:=Zk
def agg22:aggT prog 22=some false:=Zk
def size22:zF prog 22=some 1:=Zk
def row22:rowE prog 22=(false,44):=Zk
def elem22:zbz prog 22=some 2:=Zk
def app22:appT prog 22=some (2,40,true):=Zk
def bld22:zcj prog 22=some (2,(.agg ([(.string ⟨([]:ZL).toArray⟩),(.slice none 0 0)]:List Value).toArray)):=Zk
def agg24:aggT prog 24=some true:=Zk
def size24:zF prog 24=some 4:=Zk
def zero24:zaw prog 24=some (.agg ([(.int .i64 0),(.int .i64 0),(.string ⟨([]:ZL).toArray⟩),(.slice none 0 0)]:List Value).toArray):=Zk
def self24:zeP prog 24=false:=Zk
def places24:zbx prog 24=some [(0,1),(1,1),(2,1),(3,1)]:=Zk
def field24_0:zar prog 24 0=some (0,false,1):=Zk
def field24_1:zar prog 24 1=some (1,false,1):=Zk
def field24_2:zar prog 24 2=some (2,false,1):=Zk
def field24_3:zar prog 24 3=some (3,false,1):=Zk
def agg25:aggT prog 25=some false:=Zk
def size25:zF prog 25=some 1:=Zk
def row25:rowE prog 25=(false,9):=Zk
def elem25:zbz prog 25=some 1:=Zk
def app25:appT prog 25=some (1,16,true):=Zk
def bld25:zcj prog 25=some (1,(.string ⟨([]:ZL).toArray⟩)):=Zk
def agg28:aggT prog 28=some false:=Zk
def size28:zF prog 28=some 1:=Zk
def row28:rowE prog 28=(true,5):=Zk
def elem28:zbz prog 28=some 1:=Zk
def app28:appT prog 28=some (1,1,true):=Zk
def bld28:zcj prog 28=some (1,(.int .u8 0)):=Zk
def agg42:aggT prog 42=some false:=Zk
def size42:zF prog 42=some 1:=Zk
def row42:rowE prog 42=(false,46):=Zk
def elem42:zbz prog 42=some 4:=Zk
def app42:appT prog 42=some (4,40,true):=Zk
def bld42:zcj prog 42=some (4,(.agg ([(.int .i64 0),(.int .i64 0),(.string ⟨([]:ZL).toArray⟩),(.int .i64 0)]:List Value).toArray)):=Zk
def agg44:aggT prog 44=some true:=Zk
def size44:zF prog 44=some 2:=Zk
def zero44:zaw prog 44=some (.agg ([(.string ⟨([]:ZL).toArray⟩),(.slice none 0 0)]:List Value).toArray):=Zk
def self44:zeP prog 44=false:=Zk
def places44:zbx prog 44=some [(0,1),(1,1)]:=Zk
def field44_0:zar prog 44 0=some (0,false,1):=Zk
def field44_1:zar prog 44 1=some (1,false,1):=Zk
def agg46:aggT prog 46=some true:=Zk
def size46:zF prog 46=some 4:=Zk
def zero46:zaw prog 46=some (.agg ([(.int .i64 0),(.int .i64 0),(.string ⟨([]:ZL).toArray⟩),(.int .i64 0)]:List Value).toArray):=Zk
def self46:zeP prog 46=false:=Zk
def places46:zbx prog 46=some [(0,1),(1,1),(2,1),(3,1)]:=Zk
def field46_0:zar prog 46 0=some (0,false,1):=Zk
def field46_1:zar prog 46 1=some (1,false,1):=Zk
def field46_2:zar prog 46 2=some (2,false,1):=Zk
def field46_3:zar prog 46 3=some (3,false,1):=Zk
def agg50:aggT prog 50=some false:=Zk
def size50:zF prog 50=some 1:=Zk
def agg52:aggT prog 52=some true:=Zk
def size52:zF prog 52=some 5:=Zk
def zero52:zaw prog 52=some (.agg ([(.int .i64 0),(.int .i64 0),(.int .i64 0),(.int .i64 0),(.map none)]:List Value).toArray):=Zk
def self52:zeP prog 52=false:=Zk
def places52:zbx prog 52=some [(0,1),(1,1),(2,1),(3,1),(4,1)]:=Zk
def field52_0:zar prog 52 0=some (0,false,1):=Zk
def field52_1:zar prog 52 1=some (1,false,1):=Zk
def field52_2:zar prog 52 2=some (2,false,1):=Zk
def field52_3:zar prog 52 3=some (3,false,1):=Zk
def field52_4:zar prog 52 4=some (4,false,1):=Zk
def field58_0:zar prog 58 0=some (0,false,1):=Zk
def field58_1:zar prog 58 1=some (1,false,1):=Zk
def zero60:zaw prog 60=some (.agg ([(.slice none 0 0),(.int .i64 0),(.int .i8 0),(.int .u8 0),(.int .i64 0)]:List Value).toArray):=Zk
def places60:zbx prog 60=some [(0,3),(3,1),(4,1)]:=Zk
def field60_0:zar prog 60 0=some (0,true,3):=Zk
def field60_1:zar prog 60 1=some (3,false,1):=Zk
def field60_2:zar prog 60 2=some (4,false,1):=Zk
def zero66:zaw prog 66=some (.agg ([(.int .i64 0),(.int .i64 0),(.int .i64 0),(.int .i64 0),(.int .i64 0),(.int .i64 0),(.int .i64 0)]:List Value).toArray):=Zk
def agg81:aggT prog 81=some false:=Zk
def size81:zF prog 81=some 1:=Zk
def agg95:aggT prog 95=some false:=Zk
def size95:zF prog 95=some 1:=Zk
def agg104:aggT prog 104=some true:=Zk
def size104:zF prog 104=some 256:=Zk
def self104:zeP prog 104=false:=Zk
def arr104:arrS prog 104=some (256,1):=Zk
def zero112:zaw prog 112=some (.agg ([(.slice none 0 0),(.int .i64 0)]:List Value).toArray):=Zk
def places112:zbx prog 112=some [(0,1),(1,1)]:=Zk
def field112_0:zar prog 112 0=some (0,false,1):=Zk
def field112_1:zar prog 112 1=some (1,false,1):=Zk
def agg121:aggT prog 121=some true:=Zk
def size121:zF prog 121=some 8:=Zk
def zero121:zaw prog 121=some (.agg ([(.string ⟨([]:ZL).toArray⟩),(.string ⟨([]:ZL).toArray⟩),(.bool false),.nilFunc,.nilFunc,.nilFunc,.nilFunc,.nilFunc]:List Value).toArray):=Zk
def self121:zeP prog 121=false:=Zk
def places121:zbx prog 121=some [(0,1),(1,1),(2,1),(3,1),(4,1),(5,1),(6,1),(7,1)]:=Zk
def field121_7:zar prog 121 7=some (7,false,1):=Zk
def agg129:aggT prog 129=some false:=Zk
def size129:zF prog 129=some 1:=Zk
def agg130:aggT prog 130=some true:=Zk
def size130:zF prog 130=some 32:=Zk
def zero130:zaw prog 130=some (.agg ([(.string ⟨([]:ZL).toArray⟩),(.string ⟨([]:ZL).toArray⟩),(.bool false),.nilFunc,.nilFunc,.nilFunc,.nilFunc,.nilFunc,(.string ⟨([]:ZL).toArray⟩),(.string ⟨([]:ZL).toArray⟩),(.bool false),.nilFunc,.nilFunc,.nilFunc,.nilFunc,.nilFunc,(.string ⟨([]:ZL).toArray⟩),(.string ⟨([]:ZL).toArray⟩),(.bool false),.nilFunc,.nilFunc,.nilFunc,.nilFunc,.nilFunc,(.string ⟨([]:ZL).toArray⟩),(.string ⟨([]:ZL).toArray⟩),(.bool false),.nilFunc,.nilFunc,.nilFunc,.nilFunc,.nilFunc]:List Value).toArray):=Zk
def self130:zeP prog 130=false:=Zk
def agg161:aggT prog 161=some true:=Zk
def size161:zF prog 161=some 3:=Zk
def zero161:zaw prog 161=some (.agg ([(.bool false),(.string ⟨([]:ZL).toArray⟩),(.string ⟨([]:ZL).toArray⟩)]:List Value).toArray):=Zk
def self161:zeP prog 161=false:=Zk
def places161:zbx prog 161=some [(0,1),(1,1),(2,1)]:=Zk
def field161_0:zar prog 161 0=some (0,false,1):=Zk
def field161_1:zar prog 161 1=some (1,false,1):=Zk
def field161_2:zar prog 161 2=some (2,false,1):=Zk
def row175:rowE prog 175=(false,129):=Zk
def elem175:zbz prog 175=some 1:=Zk
def app175:appT prog 175=some (1,8,true):=Zk
def bld175:zcj prog 175=some (1,(.int .u64 0)):=Zk
def zeroE175:zeroE prog 175=some (.int .u64 0):=Zk
def agg204:aggT prog 204=some false:=Zk
def size204:zF prog 204=some 1:=Zk
def zero206:zaw prog 206=some (.agg ([(.pointer none),(.slice none 0 0)]:List Value).toArray):=Zk
def self206:zeP prog 206=true:=Zk
def field206_0:zar prog 206 0=some (0,false,1):=Zk
def field206_1:zar prog 206 1=some (1,false,1):=Zk
attribute [go_sem] agg3 size3 zero3 underlying3 self3 agg4 size4 underlying4 agg5 size5 underlying5 underlying8 agg9 size9 underlying9 underlying10 underlying11 underlying14 underlying15 underlying16 underlying17 underlying19 underlying20 underlying21 agg22 size22 underlying22 row22 elem22 app22 bld22 agg24 size24 zero24 underlying24 self24 places24 field24_0 field24_1 field24_2 field24_3 agg25 size25 underlying25 row25 elem25 app25 bld25 agg28 size28 underlying28 row28 elem28 app28 bld28 underlying29 agg42 size42 underlying42 row42 elem42 app42 bld42 agg44 size44 zero44 underlying44 self44 places44 field44_0 field44_1 agg46 size46 zero46 underlying46 self46 places46 field46_0 field46_1 field46_2 field46_3 agg50 size50 underlying50 agg52 size52 zero52 underlying52 self52 places52 field52_0 field52_1 field52_2 field52_3 field52_4 underlying54 underlying56 underlying58 field58_0 field58_1 zero60 underlying60 places60 field60_0 field60_1 field60_2 underlying62 zero66 underlying66 underlying74 underlying77 agg81 size81 underlying81 underlying83 underlying87 underlying89 agg95 size95 underlying95 underlying99 agg104 size104 underlying104 self104 arr104 underlying108 underlying110 zero112 underlying112 places112 field112_0 field112_1 underlying115 agg121 size121 zero121 underlying121 self121 places121 field121_7 agg129 size129 underlying129 agg130 size130 zero130 underlying130 self130 underlying136 underlying148 agg161 size161 zero161 underlying161 self161 places161 field161_0 field161_1 field161_2 underlying164 underlying169 underlying173 underlying174 underlying175 row175 elem175 app175 bld175 zeroE175 underlying183 underlying185 underlying186 underlying201 agg204 size204 underlying204 zero206 underlying206 self206 field206_0 field206_1 underlying215 underlying217 underlying221 underlying228 underlying229 underlying230 underlying231 underlying232 underlying239 underlying246
end Go.Proofs.Tryz

namespace Go.Ab
open Go.Cnt
def entV(e:Ent):ZA:=[.str e.1.1,.str e.1.2,.int .i64 e.2]
def cnts(l:List Ent):ZA:=l.flatMap entV
def nthE(l:List Ent)(i:Nat):Ent:=l.getD i (([],[]),0)
theorem zwV(e:Ent)(l:List Ent):cnts (e::l)=.str e.1.1::.str e.1.2::.int .i64 e.2::cnts l:=rfl
def zlz:∀l:List Ent,∀x∈cnts l,Pure x
 |[],_,h=>by cases h
 |e::l,x,h=>by
  rw[zwV]at h;simp only[Yy]at h;rcases h with rfl|rfl|rfl|h
  ·exact .str _
  ·exact .str _
  ·exact .int _ _
  exact zlz l x h
def zix(l:List Ent):(∀x∈cnts l,Pure x)↔True:=⟨fun _=>trivial,fun _=>zlz l⟩
attribute [go_sem] zix
attribute [go_sem] List.map_cons List.map_nil List.all_cons List.all_nil
attribute [push_cast] zix
end Go.Ab

namespace Go.Proofs
open Go.Ab
abbrev ZC(c:ZV)(n:Nat):Prop:=∀args r,c args=some r→PCall Tryz.prog n args r
def mixed:Tryz.prog.follows .mixedOrders=true:=Zk
def call5:zk Tryz.prog 5:=ZF
def call6:zk Tryz.prog 6:=ZF
def call7:zk Tryz.prog 7:=ZF
def call8:zk Tryz.prog 8:=ZF
def call10:zk Tryz.prog 10:=ZF
def call11:zk Tryz.prog 11:=ZF
def call13:zk Tryz.prog 13:=ZF
def call14:zk Tryz.prog 14:=ZF
def call15:zk Tryz.prog 15:=ZF
def call16:zk Tryz.prog 16:=ZF
def call17:zk Tryz.prog 17:=ZF
def call18:zk Tryz.prog 18:=ZF
def call19:zk Tryz.prog 19:=ZF
def call20:zk Tryz.prog 20:=ZF
def call21:zk Tryz.prog 21:=ZF
def call22:zk Tryz.prog 22:=ZF
def call23:zk Tryz.prog 23:=ZF
def zxe:zk Tryz.prog 24:=ZF
def call25:zk Tryz.prog 25:=ZF
def call26:zk Tryz.prog 26:=ZF
def call27:zk Tryz.prog 27:=ZF
def call28:zk Tryz.prog 28:=ZF
def call29:zk Tryz.prog 29:=ZF
def call30:zk Tryz.prog 30:=ZF
def call31:zk Tryz.prog 31:=ZF
def call32:zk Tryz.prog 32:=ZF
def call33:zk Tryz.prog 33:=ZF
def call34:zk Tryz.prog 34:=ZF
def call44:zk Tryz.prog 44:=ZF
def call45:zk Tryz.prog 45:=ZF
def call46:zk Tryz.prog 46:=ZF
def call52:zk Tryz.prog 52:=ZF
def call53:zk Tryz.prog 53:=ZF
def call54:zk Tryz.prog 54:=ZF
def call55:zk Tryz.prog 55:=ZF
def call56:zk Tryz.prog 56:=ZF
def call57:zk Tryz.prog 57:=ZF
def call58:zk Tryz.prog 58:=ZF
def call63:zk Tryz.prog 63:=ZF
def call64:zk Tryz.prog 64:=ZF
def call65:zk Tryz.prog 65:=ZF
def call70:zk Tryz.prog 70:=ZF
def call71:zk Tryz.prog 71:=ZF
def call72:zk Tryz.prog 72:=ZF
def call73:zk Tryz.prog 73:=ZF
def call74:zk Tryz.prog 74:=ZF
def call75:zk Tryz.prog 75:=ZF
def zqd:zk Tryz.prog 77:=ZF
def call78:zk Tryz.prog 78:=ZF
def call79:zk Tryz.prog 79:=ZF
def call87:zk Tryz.prog 87:=ZF
def call88:zk Tryz.prog 88:=ZF
def call89:zk Tryz.prog 89:=ZF
def call90:zk Tryz.prog 90:=ZF
def call91:zk Tryz.prog 91:=ZF
def call107:zk Tryz.prog 107:=ZF
def call112:zk Tryz.prog 112:=ZF
def call114:zk Tryz.prog 114:=ZF
def call115:zk Tryz.prog 115:=ZF
def call128:zk Tryz.prog 128:=ZF
def call129:zk Tryz.prog 129:=ZF
def call130:zk Tryz.prog 130:=ZF
def call132:zk Tryz.prog 132:=ZF
def call136:zk Tryz.prog 136:=ZF
def call137:zk Tryz.prog 137:=ZF
def call138:zk Tryz.prog 138:=ZF
def call150:zk Tryz.prog 150:=ZF
def call151:zk Tryz.prog 151:=ZF
def call152:zk Tryz.prog 152:=ZF
def call153:zk Tryz.prog 153:=ZF
def call154:zk Tryz.prog 154:=ZF
def call155:zk Tryz.prog 155:=ZF
def zxh:zk Tryz.prog 156:=ZF
def call157:zk Tryz.prog 157:=ZF
def call159:zk Tryz.prog 159:=ZF
def call160:zk Tryz.prog 160:=ZF
def call173:zk Tryz.prog 173:=ZF
def call174:zk Tryz.prog 174:=ZF
def call175:zk Tryz.prog 175:=ZF
def call176:zk Tryz.prog 176:=ZF
def call177:zk Tryz.prog 177:=ZF
def call179:zk Tryz.prog 179:=ZF
def call180:zk Tryz.prog 180:=ZF
def zxg:zk Tryz.prog 181:=ZF
def call182:zk Tryz.prog 182:=ZF
def call183:zk Tryz.prog 183:=ZF
def call184:zk Tryz.prog 184:=ZF
def call185:zk Tryz.prog 185:=ZF
def zos:zk Tryz.prog 186:=ZF
def zdh:zk Tryz.prog 187:=ZF
def call188:zk Tryz.prog 188:=ZF
def call189:zk Tryz.prog 189:=ZF
def call190:zk Tryz.prog 190:=ZF
def call191:zk Tryz.prog 191:=ZF
def call192:zk Tryz.prog 192:=ZF
def call193:zk Tryz.prog 193:=ZF
def call194:zk Tryz.prog 194:=ZF
def call195:zk Tryz.prog 195:=ZF
def call196:zk Tryz.prog 196:=ZF
def zxf:zk Tryz.prog 197:=ZF
def call199:zk Tryz.prog 199:=ZF
def call202:zk Tryz.prog 202:=ZF
def call203:zk Tryz.prog 203:=ZF
end Go.Proofs

namespace Go.Pl
def zcl(c:UInt8):Bool:=decide (48≤c.toNat)&&decide (c.toNat≤57)
def valD(a:ZL):Nat:=a.foldl (fun n c=>10*n+(c.toNat-48)) 0
def zX(a:ZL):Bool:= !decide (a=[])&&decide (a.length≤1000)&&(decide (a.length≤1)|| !decide ((a.getD 0 0).toNat=48))&&a.all zcl
def all_getD {p:UInt8→Bool}{a:ZL}:a.all p=true↔∀i,i<a.length→p (a.getD i 0)=true:=by
 simp only[Yl];constructor
 ·intro h i hi;rw[Ya,Yb hi];exact h _ (Y1 _)
 intro h x hx;obtain⟨i,hi,rfl⟩:=YaB.1 hx;have:=h i hi;rwa [Ya,Yb hi]at this
def valL:ZN→Nat
 |[]=>0
 |d::l=>d+1000000000*valL l
def okL(l:ZN):Prop:=∀d∈l,d<1000000000
def zao:ZN→ZN
 |[]=>[]
 |d::l=>if d=0∧zao l=[]then []else d::zao l
def zbX:Nat→Nat→ZN
 |0,_=>[]
 |f+1,n=>if n=0 then []else n%1000000000::zbX f (n/1000000000)
def limbs(n:Nat):ZN:=zbX n n
def zdH:∀(f g n:Nat),n≤f→n≤g→zbX f n=zbX g n
 |0,g,n,h,_=>by have:n=0:=Zo;subst this;cases g<;>simp[zbX]
 |f+1,0,n,_,h=>by have:n=0:=Zo;subst this;simp[zbX]
 |f+1,g+1,n,h,h'=>by
  simp only[zbX];split
  ·rfl
  rw[zdH f g (n/1000000000) Zo Zo]
theorem zaA:limbs 0=[]:=rfl
def zaH {n:Nat}(h:n≠0):limbs n=n%1000000000::limbs (n/1000000000):=by unfold limbs;obtain⟨m,rfl⟩:∃m,n=m+1:=⟨n-1,Zo⟩;rw[zbX,Ye h,zdH m ((m+1)/1000000000) ((m+1)/1000000000) Zo (Yc _)]
def limbs_nil {n:Nat}:limbs n=[]↔n=0:=by
 constructor
 ·intro h;by_cases h0:n=0
  ·exact h0
  rw[zaH h0]at h;cases h
 rintro rfl;rfl
def zD(n:Nat):valL (limbs n)=n:=by
 induction n using Nat.strongRecOn with
 |_ n ih=>
  by_cases h:n=0
  ·subst h;rfl
  rw[zaH h,valL,ih (n/1000000000) Zo];omega
def zI(n:Nat):okL (limbs n):=by
 induction n using Nat.strongRecOn with
 |_ n ih=>
  by_cases h:n=0
  ·subst h;intro d hd;cases hd
  rw[zaH h];intro d hd;rcases Yy.1 hd with rfl|hd
  ·omega
  exact ih (n/1000000000) Zo d hd
def okL_cons {d:Nat}{l:ZN}:okL (d::l)↔d<1000000000∧okL l:=by simp[okL]
def okL_append {l r:ZN}:okL (l++r)↔okL l∧okL r:=by simp only[okL,Yam];exact⟨fun h=>⟨fun d hd=>h d (.inl hd),fun d hd=>h d (.inr hd)⟩,fun h d hd=>hd.elim (h.1 d) (h.2 d)⟩
def zaM {l:ZN}(h:okL l):zao l=limbs (valL l):=by
 induction l with
 |nil=>rfl
 |cons d l ih=>
  rw[okL_cons]at h;rw[zao,ih h.2,valL];have hd:=h.1;by_cases h0:d+1000000000*valL l=0
  ·rw[h0,zaA,Yi ⟨Zo,limbs_nil.2 Zo⟩]
  rw[zaH h0,Ye (by rw[limbs_nil];omega)];congr 1
  ·omega
  congr 1;omega
def zax(l r:ZN):valL (l++r)=valL l+1000000000^l.length*valL r:=by
 induction l with
 |nil=>simp[valL]
 |cons d l ih=>simp only[Ya2,valL,ih,Yv,YG,YM,←YY];rw[Yac (1000000000^l.length) 1000000000];omega
def zY {l:ZN}(h:okL l):valL l<1000000000^l.length:=by
 induction l with
 |nil=>simp[valL]
 |cons d l ih=>
  rw[okL_cons]at h;have:=ih h.2;simp only[valL,Yv,YG];have h1:=h.1;have:1000000000*valL l+1000000000≤1000000000*1000000000^l.length:=by rw[←Nat.mul_succ];exact Y9 _ this
  omega
def zcD {l:ZN}{n:Nat}(hn:n≤l.length)(h:∀j,n≤j→l.getD j 0=0)(h2:n=0∨l.getD (n-1) 0≠0):zao l=l.take n:=by
 induction l generalizing n with
 |nil=>simp[zao]
 |cons d l ih=>
  cases n with
  |zero=>
   have hd:=h 0 (Yc _);have hl:zao l=[]:=by rw[ih (n:=0) (Yk _) (fun j _=>h (j+1) (Yk _)) (.inl rfl)];simp
   simp at hd;simp[zao,hd,hl]
  |succ n=>
   have hl:=ih (n:=n) (by simpa using hn) (fun j hj=>by have:=h (j+1) Zo;simpa using this) (by
    cases n with
    |zero=>exact .inl rfl
    |succ n=>right;rcases h2 with h2|h2;omega;simpa using h2)
   rw[zao,hl,List.take_succ_cons,Ye];rintro⟨hd,hnil⟩;rcases h2 with h2|h2
   ·omega
   cases n with
   |zero=>simp at h2;exact h2 hd
   |succ n=>
    have:l.length=0:=by have:=Ya1 List.length hnil;simp at this;simp[this]
    simp at hn;omega
def zcc {n:Nat}(h:n≠0):(limbs n).getD ((limbs n).length-1) 0≠0:=by
 induction n using Nat.strongRecOn with
 |_ n ih=>
  rw[zaH h];by_cases h1:n/1000000000=0
  ·rw[h1,zaA];simp;omega
  have:=ih (n/1000000000) Zo h1;have hne:limbs (n/1000000000)≠[]:=by rw[ne_eq,limbs_nil];exact h1
  obtain⟨d,r,hdr⟩:=List.exists_cons_of_ne_nil hne;rw[hdr]at this ⊢;simpa using this
def zaC {n k:Nat}(h:n<1000000000^k):(limbs n).length≤k:=by
 induction k generalizing n with
 |zero=>
  have:n=0:=by simpa using h
  subst this;simp[zaA]
 |succ k ih=>
  by_cases h0:n=0
  ·subst h0;simp[zaA]
  rw[zaH h0,Yv];have:n/1000000000<1000000000^k:=by rw[YaQ Zo];rw[YG]at h;exact h
  have:=ih this;omega
def getD_drop {α:Type}(l:List α)(a b:Nat)(d:α):(l.drop a).getD b d=l.getD (a+b) d:=by simp[Ya]
def getD_take {α:Type}(l:List α)(n i:Nat)(d:α)(h:i<n):(l.take n).getD i d=l.getD i d:=by simp[Ya,h]
def zbi {α:Type}(l:List α)(i:Nat)(d:α)(h:l.length≤i):l.getD i d=d:=by simp[Ya,h]
def zbO {α:Type}(l:List α)(n:Nat)(d:α)(h:n<l.length):l.take (n+1)=l.take n++[l.getD n d]:=by rw[YbX h,Ya,Yb h];rfl
theorem zeI:valD []=0:=rfl
def foldD(a:ZL)(n:Nat):a.foldl (fun n c=>10*n+(c.toNat-48)) n=10^a.length*n+valD a:=by
 induction a generalizing n with
 |nil=>simp[valD]
 |cons c a ih=>
  simp only[YbC,Yv,valD];rw[ih,ih (10*0+(c.toNat-48)),YM,YG,Y4,Yae];have:10^a.length*(10*n)=10^a.length*10*n:=by rw[YY]
  omega
def zcB(c:UInt8)(a:ZL):valD (c::a)=10^a.length*(c.toNat-48)+valD a:=by rw[valD,YbC,foldD];simp
def zc6(a b:ZL):valD (a++b)=10^b.length*valD a+valD b:=by rw[valD,List.foldl_append,foldD];rfl
def zgt(a:ZL)(c:UInt8):valD (a++[c])=10*valD a+(c.toNat-48):=by rw[zc6];simp[zcB,zeI]
def zd5 {c:UInt8}(h:zcl c=true):48≤c.toNat∧c.toNat≤57:=by simpa[zcl]using h
def zje {a:ZL}(h:a.all zcl=true):valD a<10^a.length:=by
 induction a with
 |nil=>simp[valD]
 |cons c a ih=>simp only[Ybg,Yj]at h;have h1:=zd5 h.1;have h2:=ih h.2;rw[zcB,Yv,YG];have:10^a.length*(c.toNat-48)≤10^a.length*9:=Y9 _ Zo;omega
def zpH {l:ZN}{a:ZL}{p:Nat}(ho:okL l)(hv:valL l+p*valD (a.take 0)=valD a):limbs (valD a)=zao l:=by rw[zaM ho,←hv,YbS,zeI,Y4,YS]
def decF:Nat→Nat→ZL
 |0,_=>[]
 |f+1,n=>if n<10 then [UInt8.ofNat (48+n)]else decF f (n/10)++[UInt8.ofNat (48+n%10)]
def dec(n:Nat):ZL:=decF (n+1) n
def zwJ:∀(f g n:Nat),n<f→n<g→decF f n=decF g n
 |0,_,n,h,_=>Zo
 |_,0,n,_,h=>Zo
 |f+1,g+1,n,h,h'=>by
  simp only[decF];split
  ·rfl
  rw[zwJ f g (n/10) Zo Zo]
def zbA {n:Nat}(h:n<10):dec n=[UInt8.ofNat (48+n)]:=by rw[dec,decF,Yi h]
def zdM {n:Nat}(h:10≤n):dec n=dec (n/10)++[UInt8.ofNat (48+n%10)]:=by rw[dec,decF,Ye Zo,zwJ n (n/10+1) (n/10) Zo Zo];rfl
def zcE {n:Nat}(h:n<10):(UInt8.ofNat (48+n)).toNat=48+n:=by simp only[UInt8.toNat_ofNat'];omega
def zfF(n:Nat):(dec n).all zcl=true:=by
 induction n using Nat.strongRecOn with
 |_ n ih=>
  by_cases h:n<10
  ·rw[zbA h];simp[zcl,zcE h];omega
  rw[zdM Zo,YbD,ih (n/10) Zo];have:n%10<10:=Zo;simp[zcl,zcE this];omega
def zaL(n:Nat):valD (dec n)=n:=by
 induction n using Nat.strongRecOn with
 |_ n ih=>
  by_cases h:n<10
  ·rw[zbA h,zcB,zcE h];simp[zeI]
  rw[zdM Zo,zgt,ih (n/10) Zo,zcE Zo];omega
def zmh(n:Nat):dec n≠[]:=by
 by_cases h:n<10
 ·rw[zbA h];simp
 rw[zdM Zo];simp
def zdL(n:Nat):0<(dec n).length:=Ybr.2 (zmh n)
def zp7 {n:Nat}(h:10≤n):((dec n).getD 0 0).toNat≠48:=by
 induction n using Nat.strongRecOn with
 |_ n ih=>
  rw[zdM h];have e:((dec (n/10)++[UInt8.ofNat (48+n%10)]).getD 0 0)=(dec (n/10)).getD 0 0:=by rw[Ya,Ya,YP (zdL _)]
  rw[e];by_cases h1:n/10<10
  ·rw[zbA h1];simp[zcE h1];omega
  exact ih (n/10) Zo Zo
def dec_len_one {n:Nat}:(dec n).length≤1↔n<10:=by
 constructor
 ·intro h;by_cases h1:n<10
  ·exact h1
  rw[zdM Zo,Yg]at h;have:=zdL (n/10);rw[YQ]at h;omega
 intro h;rw[zbA h];simp
def zfl {n:Nat}:zX (dec n)=decide ((dec n).length≤1000):=by
 simp only[zX,zfF,Yav];have h1:decide (dec n=[])=false:=by simp[zmh]
 by_cases h:n<10
 ·have:=dec_len_one.2 h;simp[h1,this]
 have h2:=zp7 (n:=n) Zo;have:¬(dec n).length≤1:=by rw[dec_len_one];exact h
 simp only[Ya]at h2;simp[h1,h2]
def zp6 {a:ZL}(hd:a.all zcl=true)(hne:a≠[])(hz:a.length≤1∨(a.getD 0 0).toNat≠48):dec (valD a)=a:=by
 induction h:a.length generalizing a with
 |zero=>exact absurd (List.length_eq_zero_iff.1 h) hne
 |succ k ih=>
  rcases List.eq_nil_or_concat a with rfl|⟨b,c,rfl⟩
  ·exact absurd rfl hne
  rw[List.concat_eq_append]at*;have hdc:zcl c=true:=by rw[YbD,Yj]at hd;simpa using hd.2
  have hdb:b.all zcl=true:=by rw[YbD,Yj]at hd;exact hd.1
  have hc:=zd5 hdc;by_cases hb:b=[]
  ·subst hb;simp only[YaY,zcB,Ya8,Nat.pow_zero,YbH,zeI,YS];rw[zbA Zo,show 48+(c.toNat-48)=c.toNat by omega];simp
  have hbl:0<b.length:=Ybr.2 hb;have hz':(b.getD 0 0).toNat≠48:=by
   rcases hz with hz|hz
   ·rw[Yg,YQ]at hz;omega
   have e:(b++[c]).getD 0 0=b.getD 0 0:=by rw[Ya,Ya,YP hbl]
   rwa [e]at hz
  have hb2:=ih hdb hb (.inr hz') (by simpa using h);rw[zgt];have hpos:0<valD b:=by
   cases b with
   |nil=>exact absurd rfl hb
   |cons x b=>rw[zcB];have hx:=zd5 (c:=x) (by simp at hdb;exact hdb.1);simp at hz';have:0<10^b.length*(x.toNat-48):=YbG (Ycg Zo) Zo;omega
  rw[zdM Zo,show (10*valD b+(c.toNat-48))/10=valD b by omega,hb2,show 48+(10*valD b+(c.toNat-48))%10=c.toNat by omega];simp
def validN_iff {a:ZL}:zX a=true↔(dec (valD a)=a∧a.length≤1000)∧a.all zcl=true:=by
 constructor
 ·intro h;simp only[zX,Yj,Yaj,YaV,Yat,Yn]at h;obtain⟨⟨⟨h1,h2⟩,h3⟩,h4⟩:=h;exact⟨⟨zp6 h4 h1 h3,h2⟩,h4⟩
 rintro⟨⟨h1,h2⟩,_⟩;rw[←h1,zfl,h1];simpa using h2
def zbL {m n:Nat}(h:dec m=dec n):m=n:=by rw[←zaL m,h,zaL]
def zcR {n k:Nat}(h:n<10^k)(hk:0<k):(dec n).length≤k:=by
 induction k generalizing n with
 |zero=>omega
 |succ k ih=>
  by_cases h1:n<10
  ·rw[zbA h1];simp
  rw[zdM Zo,Yg];have hk0:0<k:=by
   cases k with
   |zero=>simp at h;omega
   |succ k=>omega
  have:=ih (n:=n/10) (by rw[YaQ Zo];rw[YG]at h;exact h) hk0;simp;omega
def zbK {n k:Nat}(h:(dec n).length≤k):n<10^k:=by have:=zje (zfF n);rw[zaL]at this;exact Yu this (YL Zo h)
def bk_next {a:ZL}{l:ZN}{i:Nat}(hi:i≤a.length)(hv:valL l+1000000000^l.length*valD (a.take i)=valD a):valL (l++[valD ((a.take i).drop (i-9))])+1000000000^(l++[valD ((a.take i).drop (i-9))]).length*valD (a.take (i-9))=valD a:=by
 generalize hP:(1000000000:Nat)^l.length=p at*;have e1:1000000000^(l++[valD ((a.take i).drop (i-9))]).length=p*1000000000:=by rw[Yg,YQ,YG,hP]
 rw[e1,zax,hP,←hv];simp only[valL,Y4,YS];have hsplit:valD (a.take i)=1000000000*valD (a.take (i-9))+valD ((a.take i).drop (i-9)):=by
  by_cases h9:i<9
  ·have:i-9=0:=Zo;rw[this,YbS,YW,zeI,Y4,Yae]
  have e2:a.take i=(a.take i).take (i-9)++(a.take i).drop (i-9):=(Yaf _ _).symm;have e3:((a.take i).drop (i-9)).length=9:=by simp;omega
  have e4:(a.take i).take (i-9)=a.take (i-9):=by rw[Ybv,YaZ Zo]
  have:=Ya1 valD e2;rw[zc6,e3,e4]at this;exact this
 rw[hsplit,YY,YM];omega
end Go.Pl

namespace Go.Proofs
open Tryz Go.Ab Go.Pl
set_option pp.maxSteps 40000 in
def valid_ok(a:ZL):PCall prog 153 [.str a] (.ret (.bool (zX a))):=by
 refine Xa (rs:=[.tmp 2]) [0,2,3,20,22,23,24,35] [] mixed (zh) (zg) call153 func153 rfl ntmps153 rfl ?_;simp only[go_sem];refine⟨by simp_all;omega,by simp_all,AXc.intro (fun h1=>?_) (fun h1=>?_)⟩
 ·simp only[go_sem];simp only[zX];by_cases h0:a=[]
  ·simp[h0]
  by_cases h2:1000<a.length
  ·simp[Nat.not_le.2 h2]
  simp[h0,h2]at h1;have h3:¬a.length≤1:=Zo;simp[h3,h1];omega
 simp only[go_sem];refine AXs.loop mixed zh zg (fun i:Nat=>[(0,.str a),(2,.bool false),(22,.int .i64 a.length),(23,.int .i64 i)]) (fun _=>⟨[],0⟩) (fun i=>i≤a.length∧∀j,j<i→zcl (a.getD j 0)=true) (fun i=>a.length-i) 0 Zk Zs (Xb [] rfl rfl ?_ ?_) ?_
 ·simp only[go_sem]
 ·simp only[go_sem]
 rintro i ⟨hi,hd⟩;simp only[go_sem];refine Xc (fun h2=>?_) (fun h2=>?_)
 ·have h2':i<a.length:=Zo;have h3:a.length≤1000:=by simp at h1;omega
  simp only[go_sem];refine⟨Zo,by simp;omega,AXc.intro (fun h4=>?_) (fun h4=>?_)⟩
  ·simp only[go_sem];symm;simp only[zX,Ycn];right;rw[Bool.eq_false_iff];intro hall;have:=all_getD.1 hall i h2';simp[zcl]at this h4;omega
  simp(disch:=try exact Zq)only[go_sem];refine zi (i+1) ⟨Zo,fun j hj=>?_⟩ Zo (Xb [] rfl rfl ?_ ?_)
  ·by_cases hji:j=i
   ·subst hji;simp[zcl]at h4 ⊢;omega
   exact hd j Zo
  ·simp only[go_sem];simp
  simp only[go_sem]
 simp only[go_sem];refine AXa.go mixed (zh) (zg) Zk ?_;simp only[go_sem];symm;have hie:i=a.length:=Zo;subst hie;have:=all_getD.2 hd;simp[zX,this];simp at h1;refine⟨⟨h1.1.1,Zo⟩,?_⟩;by_cases h5:a.length≤1
 ·exact .inl h5
 exact .inr Zo
def trim_ok(l:ZN)(hl:l.length≤1000000):PCall prog 156 [.fs (nats .u64 l) l.length] (.ret (.fs (nats .u64 (zao l)) (zao l).length)):=by
 refine Xa (rs:=[.tmp 2]) [0,2,14] [] mixed (zh) (zg) zxh func156 rfl ntmps156 rfl ?_;simp only[go_sem];refine AXs.loop mixed zh zg (fun n:Nat=>[(0,.fs (nats .u64 (l.take n)) n)]) (fun _=>⟨[],0⟩) (fun n=>n≤l.length∧∀j,n≤j→l.getD j 0=0) (fun n=>n) l.length Zk
  ⟨Yc _,fun j hj=>by simp[Ya,Yo hj]⟩ (Xb [] rfl rfl ?_ ?_) ?_
 ·simp only[go_sem];simp
 ·simp only[go_sem]
 rintro n ⟨hn,hz⟩;rcases YR n with rfl|hp
 ·simp only[go_sem];refine AXa.go mixed zh zg Zk ?_;simp only[go_sem];have:=zcD (Yk l.length) hz (.inl rfl);simp[this,nats]
 have hd:decide (0<(n:Int))=true:=by simp;omega
 simp(disch:=try exact Zq)only[go_sem,hd];refine⟨Zo,Zo,Xc (fun h1=>?_) (fun h1=>?_)⟩
 ·simp(disch:=try exact Zq)only[go_sem];refine⟨Zo,zi (n-1) ⟨Zo,fun j hj=>?_⟩ Zo (Xb [] rfl rfl ?_ ?_)⟩
  ·by_cases hjn:j=n-1
   ·subst hjn;omega
   exact hz j Zo
  ·simp only[go_sem];rw[YaZ Zo]
  simp only[go_sem]
 simp only[go_sem];refine AXa.go mixed zh zg Zk ?_;simp only[go_sem];have h2:=zcD hn hz (.inr Zo);rw[h2];simp;omega
def cValid:ZV:=zL (fun a:ZL=>[.str a]) (fun _=>True) fun a=>.ret (.bool (zX a))
def zxi(a:ZL):cValid [.str a]=some (.ret (.bool (zX a))):=zo (pat:=fun a:ZL=>[.str a]) (fun x y h=>by simpa using h) a trivial
def zcS:ZC cValid 153:=zn fun a _=>valid_ok a
def cTrim:ZV:=zL (fun l:ZN=>[.fs (nats .u64 l) l.length]) (fun l=>l.length≤1000000) fun l=>.ret (.fs (nats .u64 (zao l)) (zao l).length)
def zqe(l:ZN)(n:Nat)(hn:n=l.length)(h:l.length≤1000000):cTrim [.fs (nats .u64 l) n]=some (.ret (.fs (nats .u64 (zao l)) (zao l).length)):=by subst hn;exact zo (pat:=fun l:ZN=>[.fs (nats .u64 l) l.length]) (fun x y h=>by simp at h;exact zaY h.1) l h
def zxj:cTrim [.fs [] 0]=some (.ret (.fs [] 0)):=zqe [] 0 rfl Zs
def zbT:ZC cTrim 156:=zn trim_ok
attribute [go_sem] zxi zqe zxj
def okL_snoc {l:ZN}{d:Nat}(h:okL l)(hd:d<1000000000):okL (l++[d]):=okL_append.2 ⟨h,fun x hx=>by simp at hx;omega⟩
def bkV(l:ZN):V:=match l with|[]=>.nilS|_=>.sl 0 0 l.length 1 none
def bkBs(l:ZN):ZH:=match l with|[]=>[]|_=>[(0,.cells (nats .u64 l))]
def bkN(l:ZN):Nat:=match l with|[]=>0|_=>1
def bk_v(l:ZN):Rn (piL []) (· <bkN l) (bkV l) (bkV l):=by cases l<;>simp only[bkV,bkN,go_sem]<;>simp
def bk_h(l:ZN):subH (piL []) (bkN l) (bkBs l) (bkBs l):=by cases l<;>simp only[bkBs,bkN,go_sem]<;>simp
def bk_k(l:ZN):piOK [] 0 (keysB (bkBs l))=true:=by cases l<;>rfl
def zx4(a:ZL)(hd:a.all zcl=true)(hl:a.length≤1000):PCall prog 154 [.str a] (.ret (.fs (nats .u64 (limbs (valD a))) (limbs (valD a)).length)):=by
 refine Xa (rs:=[.tmp 2]) [0,2,3,4,5,6,9,18] [] mixed (zf zbT zh) (zg) call154 func154 rfl ntmps154 rfl ?_;simp only[go_sem];refine AXs.loop mixed (zf zbT zh) zg (fun(p:ZN×Nat)=>[(0,.str (a.take p.2)),(3,bkV p.1)]) (fun p=>⟨bkBs p.1,bkN p.1⟩) (fun p=>p.2≤a.length∧okL p.1∧p.1.length+p.2≤1000∧valL p.1+1000000000^p.1.length*valD (a.take p.2)=valD a) (fun p=>p.2) ([],a.length) Zk
  ⟨Yc _,(show okL []from fun d hd=>nomatch hd),by simpa using hl,by simp[valL]⟩ (Xb [] rfl rfl ?_ ?_) ?_
 ·simp only[go_sem,Ym,bkV]
 ·simp only[go_sem,bkBs]
 rintro⟨l,m⟩ ⟨hm,ho,hlm,hv⟩;dsimp only at hm ho hlm hv ⊢;have hmin:min m a.length=m:=YaZ hm;simp(disch:=try exact Zq)only[go_sem,hmin];refine Xc (fun h1=>?_) (fun h1=>?_)
 ·have hc:maxI 0 ((m:Int)-9)=((m-9:Nat):Int):=by unfold maxI;split<;>omega
  simp(disch:=try exact Zq)only[go_sem,hmin,hc];refine AXs.loop mixed (zf zbT zh) zg (fun i:Nat=>[(0,.str (a.take m)),(3,bkV l),(4,.int .i64 (m-9:Nat)),(5,.int .u64 (valD ((a.take i).drop (m-9)):Nat)),(6,.int .i64 i)]) (fun _=>⟨bkBs l,bkN l⟩) (fun i=>m-9≤i∧i≤m) (fun i=>m-i) (m-9) Zk
   ⟨Yc _,Zo⟩ (Xb [] rfl (bk_k l) ?_ (bk_h l)) ?_
  ·simp only[go_sem];refine⟨bk_v l,?_⟩;simp[valD]
  rintro i ⟨hi1,hi2⟩;simp(disch:=try exact Zq)only[go_sem,hmin];refine Xc (fun h2=>?_) (fun h2=>?_)
  ·have him:i<m:=Zo;have hia:i<a.length:=Zo;have hg:(a.take m).getD i 0=a.getD i 0:=getD_take _ _ _ _ him;have hdi:=zd5 (all_getD.1 hd i hia);have hv2:valD ((a.take (i+1)).drop (m-9))=10*valD ((a.take i).drop (m-9))+((a.getD i 0).toNat-48):=by rw[zbO a i 0 hia,List.drop_append_of_le_length (by simp;omega),zgt]
   have hlt:valD ((a.take i).drop (m-9))<100000000:=by have h3:((a.take i).drop (m-9)).all zcl=true:=Yl.2 fun x hx=>Yl.1 hd x (Ybp (Yb8 hx));have h4:=zje h3;have h5:10^((a.take i).drop (m-9)).length≤10^8:=YL Zo (by simp;omega);omega
   simp(disch:=try exact Zq)only[go_sem,hmin,hg];refine⟨Zo,zi (i+1) ⟨Zo,Zo⟩ Zo (Xb [] rfl (bk_k l) ?_ (bk_h l))⟩;simp only[go_sem];refine⟨bk_v l,?_⟩;rw[hv2];simp only[V.int.injEq,Yag];omega
  have him:i=m:=Zo;subst him;have hs:(a.take i).all zcl=true:=Yl.2 fun x hx=>Yl.1 hd x (Ybp hx);have hlt:valD ((a.take i).drop (i-9))<1000000000:=by have h3:((a.take i).drop (i-9)).all zcl=true:=Yl.2 fun x hx=>Yl.1 hs x (Yb8 hx);have h4:=zje h3;have h5:10^((a.take i).drop (i-9)).length≤10^9:=YL Zo (by simp;omega);omega
  have hnx:=bk_next hm hv;have hinc:i-9<i:=Zo;have hon:okL (l++[valD ((a.take i).drop (i-9))]):=okL_snoc ho hlt;have hmi:min (i-9) i=i-9:=Zo;simp only[go_sem];refine AXa.go mixed (zf zbT zh) (zg) Zk ?_;rcases l with _|⟨d,l⟩
  ·simp(disch:=try exact Zq)only[go_sem,hmin,bkV,bkBs,bkN];refine⟨Zo,zi ([]++[valD ((a.take i).drop (i-9))],i-9) ⟨Zo,hon,by simp;omega,hnx⟩ hinc (Xb [(0,1)] rfl rfl ?_ ?_)⟩
   ·simp only[go_sem,hmi]
   simp only[go_sem];simp[nats]
  simp(disch:=try exact Zq)only[go_sem,hmin,bkV,bkBs,bkN,zb9];have hll:l.length+1+i≤1000:=hlm;refine⟨Zo,Zo,zi ((d::l)++[valD ((a.take i).drop (i-9))],i-9) ⟨Zo,hon,by simp at hlm ⊢;omega,hnx⟩ hinc (Xb [(0,2)] rfl rfl ?_ ?_)⟩
  ·simp only[go_sem,hmi];simp
  simp only[go_sem];simp[nats]
 have hm0:m=0:=Zo;subst hm0;rcases l with _|⟨d,l⟩
 ·simp only[go_sem,bkV,bkBs];refine AXa.go mixed (zf zbT zh) zg Zk ?_;simp only[go_sem];rw[zpH ho hv];simp[zao,nats]
 simp only[go_sem,bkV,bkBs,bkN];refine AXa.fz [0] rfl rfl rfl (env':=[(3,.fs (nats .u64 (d::l)) (d::l).length)]) (bs':=[]) (n':=1) ?_ ?_ ?_
 ·simp only[go_sem];right;exact FrzF.slp Zs rfl rfl (by simp[zb9]) (by simp[zcd]) (zaG _ _)
 ·simp only[go_sem]
 refine AXa.go mixed (zf zbT zh) zg Zk ?_;simp(disch:=try exact Zq)only[go_sem];rw[zpH ho hv];exact⟨rfl,rfl⟩
end Go.Proofs
