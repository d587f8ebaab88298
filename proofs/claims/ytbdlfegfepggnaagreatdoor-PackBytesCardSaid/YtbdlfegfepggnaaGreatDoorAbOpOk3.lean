/- The operations' soundness, third part: strings and slices cut, converted, made. -/
import Derived.Test.YtbdlfegfepggnaaGreatDoorAbOpOk1
import Derived.Laws.MakeOwn
import Derived.Laws.BytesString
import Derived.Laws.Tables
import Derived.Lib.Builder
import Derived.Lib.UnsafeStr
set_option linter.all false
set_option maxHeartbeats 16000000
set_option maxRecDepth 100000
noncomputable section
namespace Go.Ab
def ORel(g:G):Option V→Option Value→Prop
 |none,none=>True
 |some v,some c=>VRel g v c
 |_,_=>False
def Bnd(oc:Option Value)(d n:Int):Prop:=(oc=none∧n=d)∨∃k,oc=some (.int k n)
def Bnd.of {g:G}{o:Option V}{oc:Option Value}{d n:Int}(h:ORel g o oc)(e:bnd o d=some n):Bnd oc d n:=by
 cases o with
 |none=>
  cases oc with
  |none=>simp[bnd]at e;exact .inl ⟨rfl,e.symm⟩
  |some c=>exact h.elim
 |some v=>
  cases oc with
  |none=>exact h.elim
  |some c=>cases v<;>simp[bnd]at e;subst e;exact .inr ⟨_,by rw[VRel.inv_int h]⟩
section
variable {P:Program}{g:G}{base:Nat}{H:Hp}{D:Nat→Prop}{w:World}
def run_sliceBound {k:IntKind}{n:Int}{y:Nat}{code:BoundsCode}(h0:0≤n)(h1:n≤y):(Instr.sliceBound (.int k n) y code).run P w=.ok n.toNat w:=by simp[Instr.sliceBound,asIntOf,h0,h1]
def zcH {isS:Bool}{len cap:Nat}{lc hc:Option Value}{l h:Int}(el:Bnd lc 0 l)(eh:Bnd hc len h) (h0:0≤l) (h1:l≤h) (h2:h≤cap):(Instr.sliceBounds isS len cap lc hc none).run P w=.ok (l.toNat,h.toNat,cap) w:=by
 unfold Instr.sliceBounds;have e0:∀code,(Instr.sliceBound (.int .i64 0) h.toNat code).run P w=.ok 0 w:=fun code=>run_sliceBound Zo Zo;rcases eh with⟨rfl,rfl⟩|⟨k,rfl⟩<;>rcases el with⟨rfl,rfl⟩|⟨k',rfl⟩
 ·simp only[Sem.run_bind,Sem.run_pure,Result.andThen_ok];rfl
 ·have e1:∀code,(Instr.sliceBound (.int k' l) len code).run P w=.ok l.toNat w:=fun code=>run_sliceBound h0 h1;simp only[Sem.run_bind,Sem.run_pure,Result.andThen_ok,e1];rfl
 ·have e2:∀code,(Instr.sliceBound (.int k h) cap code).run P w=.ok h.toNat w:=fun code=>run_sliceBound Zo h2;simp only[Sem.run_bind,Sem.run_pure,Result.andThen_ok,e2];rfl
 have e2:∀code,(Instr.sliceBound (.int k h) cap code).run P w=.ok h.toNat w:=fun code=>run_sliceBound Zo h2;have e1:∀code,(Instr.sliceBound (.int k' l) h.toNat code).run P w=.ok l.toNat w:=fun code=>run_sliceBound h0 Zo;simp only[Sem.run_bind,Sem.run_pure,Result.andThen_ok,e1,e2]
def zgH {len cap:Nat}{lc:Option Value}{k k':IntKind}{l h m:Int}(el:Bnd lc 0 l) (h0:0≤l) (h1:l≤h) (h2:h≤m) (h3:m≤cap):(Instr.sliceBounds true len cap lc (some (.int k h)) (some (.int k' m))).run P w=.ok (l.toNat,h.toNat,m.toNat) w:=by
 unfold Instr.sliceBounds;have e1:∀code,(Instr.sliceBound (.int k' m) cap code).run P w=.ok m.toNat w:=fun code=>run_sliceBound Zo h3;have e2:∀code,(Instr.sliceBound (.int k h) m.toNat code).run P w=.ok h.toNat w:=fun code=>run_sliceBound Zo Zo;rcases el with⟨rfl,rfl⟩|⟨k2,rfl⟩
 ·simp only[Sem.run_bind,Sem.run_pure,Result.andThen_ok,e1,e2];rfl
 have e3:∀code,(Instr.sliceBound (.int k2 l) h.toNat code).run P w=.ok l.toNat w:=fun code=>run_sliceBound h0 Zo;simp only[Sem.run_bind,Sem.run_pure,Result.andThen_ok,e1,e2,e3]
def zdF {t:TypeId}{d:TypeDesc}{xc:Value}{lc hc mc:Option Value}(hu:P.underlying t=some d)(hne:∀n e,d≠.array n e):(Instr.sliceAt t xc lc hc mc).run P w=(Instr.slice t xc lc hc mc).run P w:=by simp only[Instr.sliceAt,Sem.run_bind,run_underlying hu,Result.andThen_ok]
def zkB {t:TypeId}{s:ByteArray}{lc hc:Option Value}{l h:Int}(hu:P.underlying t=some .string)(el:Bnd lc 0 l)(eh:Bnd hc s.size h) (h0:0≤l) (h1:l≤h) (h2:h≤s.size):(Instr.sliceAt t (.string s) lc hc none).run P w=.ok (.string (s.extract l.toNat h.toNat)) w:=by rw[zdF hu Zs];simp only[Instr.slice,Sem.run_bind,run_underlying hu,Result.andThen_ok,Ycx,YS,if_false,Sem.run_pure,zcH el eh h0 h1 h2]
def zd9 {t e:TypeId}{sz:Nat}{a:Option Addr}{len cap:Nat}{lc hc:Option Value}{l h:Int}(hu:P.underlying t=some (.slice e))(hn:sizeT P e=some sz) (el:Bnd lc 0 l) (eh:Bnd hc len h) (h0:0≤l) (h1:l≤h) (h2:h≤cap):(Instr.sliceAt t (.slice a len cap) lc hc none).run P w=.ok (.slice (if cap=l.toNat then a else a.map (·.add (l.toNat*sz))) (h.toNat-l.toNat) (cap-l.toNat)) w:=by rw[zdF hu Zs];simp only[Instr.slice,Sem.run_bind,run_underlying hu,Result.andThen_ok,Sem.run_pure,zcH el eh h0 h1 h2,zao hn]
def zkC {t e:TypeId}{sz:Nat}{a:Option Addr}{len cap:Nat}{lc:Option Value}{k k':IntKind}{l h m:Int}(hu:P.underlying t=some (.slice e))(hn:sizeT P e=some sz) (el:Bnd lc 0 l) (h0:0≤l) (h1:l≤h) (h2:h≤m) (h3:m≤cap):(Instr.sliceAt t (.slice a len cap) lc (some (.int k h)) (some (.int k' m))).run P w=.ok (.slice (if m.toNat=l.toNat then a else a.map (·.add (l.toNat*sz))) (h.toNat-l.toNat) (m.toNat-l.toNat)) w:=by rw[zdF hu Zs];simp only[Instr.slice,Sem.run_bind,run_underlying hu,Result.andThen_ok,Sem.run_pure,zgH el h0 h1 h2 h3,zao hn]
def zkD {t e:TypeId}{n sz:Nat}{a:Addr}{lc hc:Option Value}{l h:Int}(hu:P.underlying t=some (.array n e))(hn:sizeT P e=some sz) (el:Bnd lc 0 l) (eh:Bnd hc n h) (h0:0≤l) (h1:l≤h) (h2:h≤n):(Instr.sliceAt t (.pointer (some a)) lc hc none).run P w=.ok (.slice (some (if n=l.toNat then a else a.add (l.toNat*sz))) (h.toNat-l.toNat) (n-l.toNat)) w:=by simp only[Instr.sliceAt,Sem.run_bind,run_underlying hu,Result.andThen_ok,Instr.sureAddr,Sem.run_pure,zcH el eh h0 h1 h2,zao hn]
def zcW(s:ByteArray)(l h:Nat):(s.extract l h).data.toList=(s.data.toList.take h).drop l:=by rw[ByteArray.data_extract,Array.toList_extract];rw[List.extract_eq_take_drop,Yb4]
def zBp(hI:Inv g base H D w){t:TypeId}{x:V}{lo hi mx:Option V}{xc:Value}{lc hc mc:Option Value}(hx:VRel g x xc) (hl:ORel g lo lc) (hh:ORel g hi hc) (hm:ORel g mx mc) (hp:(zbp P t x lo hi mx H).pre) (hD:∀b∈(zbp P t x lo hi mx H).R,D b):Snd P g base H D w (zbp P t x lo hi mx H) (Instr.sliceAt t xc lc hc mc):=by
 unfold zbp at*;split at hp
 ·rename_i s hu;obtain rfl:mc=none:=by cases mc;rfl;exact hm.elim
  obtain⟨sb,rfl,rfl⟩:=hx.inv_str;split at hp
  ·rename_i l h el eh;obtain⟨h0,h1,h2⟩:=hp;have hsz:=zdf sb;refine Snd.val hI _ (zkB hu (Bnd.of hl el) (by rw[hsz];exact Bnd.of hh eh) h0 h1 Zo) (.str ?_);exact zcW _ _ _
  exact hp.elim
 ·rename_i e hu;obtain rfl:mc=none:=by cases mc;rfl;exact hm.elim
  cases hx;split at hp
  ·rename_i sz l h hn el eh;obtain⟨rfl,rfl⟩:=hp;exact Snd.val hI _ (zd9 hu hn (Bnd.of hl el) (Bnd.of hh eh) Zo Zo Zo) .nilS
  exact hp.elim
 ·rename_i e cs len hu;obtain rfl:mc=none:=by cases mc;rfl;exact hm.elim
  obtain⟨a,cap,rfl,hlc,hcase⟩:=hx.inv_fs;split at hp
  ·rename_i sz l h hn el eh;obtain⟨h0,h1,h2,h3⟩:=hp;refine Snd.val hI _ (zd9 hu hn (Bnd.of hl el) (Bnd.of hh eh) h0 h1 Zo) ?_;rcases hcase with⟨rfl,rfl,ha⟩|⟨c,o,arr,rfl,hphi,hpw⟩
   ·obtain rfl:h=0:=Zo;obtain rfl:l=0:=Zo;simp only[Int.toNat_zero,Ybe,List.take_nil,List.drop_nil,Ybz,YbA];split
    ·exact .fs0 ha
    exact .fs0 (by cases a<;>simp_all)
   split
   ·rename_i hc;have e1:h.toNat=l.toNat:=Zo;rw[e1,Ybz,hc,Ybz];have:(cs.take (l.toNat*sz)).drop (l.toNat*sz)=[]:=by apply Yby;rw[Yx];omega
    rw[this];exact .fs0 Zs
   rw[Yau,zbh];refine Xl hphi Zo (((hpw.take (h.toNat*sz)).drop (l.toNat*sz)).congr fun i _=>?_);show _=arr[o+(l.toNat*sz+i)]?;rw[←YU]
  exact hp.elim
 ·rename_i e b off len sz' kc hu;obtain rfl:mc=none:=by cases mc;rfl;exact hm.elim
  obtain⟨T,o,cap,hmu,hlc,ho,hk,rfl⟩:=hx.inv_sl;split at hp
  ·rename_i sz l h hn el eh;obtain⟨rfl,h0,h1,h2⟩:=hp;have hcap:h≤cap:=by
    cases kc with
    |none=>simp only[YcB]at h2;omega
    |some k=>have:=hk k rfl;simp only[YbP]at h2;omega
   refine Snd.val hI _ (zd9 hu hn (Bnd.of hl el) (Bnd.of hh eh) h0 h1 hcap) ?_;have key:∀o',(cap-l.toNat≠0→o'=o+l.toNat*sz')→
    VRel g (.sl b (off+l.toNat*sz') (h.toNat-l.toNat) sz' (kc.map (· - l.toNat))) (.slice (some ⟨T.c,o',none⟩) (h.toNat-l.toNat) (cap-l.toNat)):=by
    intro o' ho'
    refine .sl hmu Zo (fun hne=>?_) (fun k e=>?_)
    ·obtain⟨e1,e2⟩:=ho Zo;rw[ho' hne,e1];refine⟨Zo,?_⟩;rw[e1]at e2;have:l.toNat*sz'+(cap-l.toNat)*sz'=cap*sz':=by rw[←Yal];congr 1;omega
     omega
    ·cases kc with
     |none=>cases e
     |some k'=>simp only[Yau,YJ]at e;rw[←e,hk k' rfl]
   split
   ·exact key o fun hne=>Zo
   rw[Yau,zbh];exact key _ fun _=>rfl
  exact hp.elim
 ·rename_i e b off len sz' kc m hu;obtain⟨T,o,cap,hmu,hlc,ho,hk,rfl⟩:=hx.inv_sl;cases mc with
  |none=>exact hm.elim
  |some mv=>
   split at hp
   ·rename_i sz l h m' hiv hn el em eh;obtain⟨rfl,h0,h1,h2,h3⟩:=hp;have hcap:m'≤cap:=by
     cases kc with
     |none=>simp only[YcB]at h3;omega
     |some k=>have:=hk k rfl;simp only[YbP]at h3;omega
    cases hc with
    |none=>exact hh.elim
    |some hv=>
     rcases Bnd.of (o:=some m) (oc:=some mv) hm em with⟨e1,_⟩|⟨k1,e1⟩
     ·cases e1
     cases e1;rcases Bnd.of hh eh with⟨e2,_⟩|⟨k2,e2⟩
     ·cases e2
     cases e2;refine Snd.val hI _ (zkC hu hn (Bnd.of hl el) h0 h1 h2 hcap) ?_;have key:∀o',(m'.toNat-l.toNat≠0→o'=o+l.toNat*sz')→
      VRel g (.sl b (off+l.toNat*sz') (h.toNat-l.toNat) sz' (some (m'.toNat-l.toNat))) (.slice (some ⟨T.c,o',none⟩) (h.toNat-l.toNat) (m'.toNat-l.toNat)):=by
      intro o' ho'
      refine .sl hmu Zo (fun hne=>?_) (fun k e=>by cases e;rfl)
      obtain⟨e1,e2⟩:=ho Zo
      rw[ho' hne,e1]
      refine⟨Zo,?_⟩
      rw[e1]at e2
      have:l.toNat*sz'+(m'.toNat-l.toNat)*sz'≤cap*sz':=by rw[←Yal];exact YO _ Zo
      omega
     split
     ·exact key o fun hne=>Zo
     rw[Yau,zbh];exact key _ fun _=>rfl
   exact hp.elim
 ·rename_i n e b off hu;obtain rfl:mc=none:=by cases mc;rfl;exact hm.elim
  obtain⟨T,hmu,rfl⟩:=hx.inv_ptr;split at hp
  ·rename_i sz l h cs hn el eh hg;obtain⟨h0,h1,h2,h3⟩:=hp;have hDb:D b:=by simp only[hu,hn,el,eh,hg]at hD;exact hD b Zs
   obtain⟨T1,o,m1,p1,hw1,r1⟩:=hI.cont b _ hDb hg;obtain rfl:=ZT hmu m1;cases r1 with
   |cells hs hb hpw=>
    refine Snd.val hI _ (zkD hu hn (Bnd.of hl el) (Bnd.of hh eh) h0 h1 h2) ?_;have hmul:l.toNat*sz+(n-l.toNat)*sz=n*sz:=by rw[←Yal];congr 1;omega
    have key:∀o',(n-l.toNat≠0→o'=T1.sh+off+l.toNat*sz)→
     VRel g (.sl b (off+l.toNat*sz) (h.toNat-l.toNat) sz (some (n-l.toNat))) (.slice (some ⟨T1.c,o',none⟩) (h.toNat-l.toNat) (n-l.toNat)):=by
     intro o' ho'
     refine .sl hmu Zo (fun hne=>?_) (fun k e=>by rw[YJ]at e;exact e)
     rw[ho' hne]
     exact⟨Zo,Zo⟩
    split
    ·exact key _ fun hne=>Zo
    rw[zbh];exact key _ fun _=>rfl
  exact hp.elim
 exact hp.elim
end
end Go.Ab

namespace Go.Ab
section
variable {P:Program}{g:G}{base:Nat}{H:Hp}{D:Nat→Prop}{w:World}
def zew:∀ {cs:ZA} {l:ZL},bytesOf cs=some l→∃ns:List Int,cs=ns.map (V.int .u8)∧l=ns.map fun n=>UInt8.ofNat n.toNat
 |[],l,h=>by simp[bytesOf]at h;exact⟨[],rfl,by rw[h];rfl⟩
 |x::r,l,h=>by
  unfold bytesOf at h;split at h
  ·rename_i e;cases e
  ·rename_i n r' e;cases e;cases hb:bytesOf r with
   |none=>rw[hb]at h;cases h
   |some l'=>rw[hb]at h;obtain⟨ns,e1,e2⟩:=zew hb;simp only[Yau,YJ]at h;exact⟨n::ns,by simp[e1],by rw[←h,e2];rfl⟩
  cases h
def PW.ints {ns:List Int}{k:IntKind}{l:List Value}(hl:l.length=ns.length)(p:PW g (ns.map (V.int k)) (fun i=>l[i]?)):l=ns.map (Value.int k):=by
 apply Ya7;intro i;by_cases hi:i<ns.length
 ·obtain⟨v,hv,r⟩:=p i (.int k ns[i]) (by simp[hi]);have hv':l[i]? =some v:=hv;rw[hv',r.inv_int];simp[hi]
 rw[Yr Zo,Yr (by simp;omega)]
def zuL(ns:List Int):∀s:ByteArray,(ns.foldl (fun r n=>r.push (UInt8.ofNat n.toNat)) s).data.toList=s.data.toList++ns.map fun n=>UInt8.ofNat n.toNat:=by
 induction ns with
 |nil=>intro s;simp
 |cons n ns ih=>intro s;rw[YbJ,ih];simp[ByteArray.push]
def zbr(h:Inv g base H D w){x:V}{xc:Value}{sz n:Nat}{cs:ZA}{R:ZN}(hx:VRel g x xc)(hs:zaK H x sz=some (cs,n,R))(hD:∀b∈R,D b):cs.length=n*sz∧((xc=.slice none 0 0∧n=0)∨∃(a:Addr)(cap:Nat),xc=.slice (some a) n cap∧((n=0∧cs=[])∨(n*sz=0∧cs=[])∨∃c o arr t fr,a=⟨c,o,none⟩∧w.heap[c]? =some (.cells arr t fr)∧PW g cs (fun i=>arr[o+i]?)∧o+n*sz≤arr.size)):=by
 unfold zaK at hs;split at hs
 ·cases hs;cases hx;exact⟨Zs,.inl ⟨rfl,rfl⟩⟩
 ·split at hs
  ·rename_i cs' n' hl;cases hs;obtain⟨a,cap,rfl,_,hcase⟩:=hx.inv_fs;rcases hcase with⟨rfl,rfl,ha⟩|⟨c,o,arr,rfl,hphi,hpw⟩
   ·cases a with
    |none=>obtain rfl:=ha rfl;exact⟨hl,.inl ⟨rfl,rfl⟩⟩
    |some a=>exact⟨hl,.inr ⟨a,cap,rfl,.inl ⟨rfl,rfl⟩⟩⟩
   refine⟨hl,.inr ⟨_,cap,rfl,?_⟩⟩;obtain⟨t,fr,hh⟩:=h.frz _ _ hphi;by_cases h0:cs=[]
   ·subst h0;exact .inr (.inl ⟨by simpa using hl.symm,rfl⟩)
   exact .inr (.inr ⟨c,o,arr,t,fr,rfl,hh,hpw,by rw[←hl];exact hpw.size h0⟩)
  cases hs
 ·rename_i b off n' sz' kc;split at hs
  ·rename_i cs' hg;split at hs
   ·rename_i hb;cases hs;obtain⟨rfl,hb⟩:=hb;obtain⟨T,o,cap,hm,hl,ho,hk,rfl⟩:=hx.inv_sl;obtain⟨T1,ob,m1,p1,h1,r1⟩:=h.cont b _ (hD b Zs) hg;obtain rfl:=ZT hm m1;have hlen:((cs'.drop off).take (n*sz')).length=n*sz':=by simp;omega
    refine⟨hlen,.inr ⟨_,cap,rfl,?_⟩⟩;cases r1 with
    |cells hs hbd hpw=>
     rename_i arr t;by_cases h0:n=0
     ·exact .inl ⟨h0,by subst h0;simp⟩
     obtain⟨e1,e2⟩:=ho Zo;refine .inr (.inr ⟨T1.c,o,arr,t,(0,0),rfl,h1,((hpw.drop off).take _).congr fun i _=>?_,?_⟩)
     ·show _=arr[T1.sh+(off+i)]?;rw[e1,←YU]
     have:n*sz'≤cap*sz':=YO _ hl;omega
   cases hs
  ·rename_i ty cs' hg;split at hs
   ·rename_i hb;cases hs;obtain⟨rfl,hb⟩:=hb;obtain⟨T,o,cap,hm,hl,ho,hk,rfl⟩:=hx.inv_sl;obtain⟨T1,ob,m1,p1,h1,r1⟩:=h.cont b _ (hD b Zs) hg;obtain rfl:=ZT hm m1;have hlen:((cs'.drop off).take (n*sz')).length=n*sz':=by simp;omega
    refine⟨hlen,.inr ⟨_,cap,rfl,?_⟩⟩;obtain⟨arr,rfl,hs,hbd,hsh,hpw⟩:=r1.ty_row;by_cases h0:n=0
    ·exact .inl ⟨h0,by subst h0;simp⟩
    obtain⟨e1,e2⟩:=ho Zo;refine .inr (.inr ⟨T1.c,o,arr,ty,(0,0),rfl,h1,((hpw.drop off).take _).congr fun i _=>?_,?_⟩)
    ·show _=arr[T1.sh+(off+i)]?;rw[e1,←YU]
    have:n*sz'≤cap*sz':=YO _ hl;omega
   cases hs
  ·rename_i cs' hg;split at hs
   ·rename_i hb;cases hs;obtain⟨rfl,hb⟩:=hb;obtain⟨T,o,cap,hm,hl,ho,hk,rfl⟩:=hx.inv_sl;obtain⟨T1,ob,m1,p1,h1,r1⟩:=h.cont b _ (hD b Zs) hg;obtain rfl:=ZT hm m1;have hlen:((cs'.drop off).take (n*sz')).length=n*sz':=by simp;omega
    refine⟨hlen,.inr ⟨_,cap,rfl,?_⟩⟩;obtain⟨arr,ty,fr,rfl,hs,hbd,hpw⟩:=r1.ro_row;by_cases h0:n=0
    ·exact .inl ⟨h0,by subst h0;simp⟩
    obtain⟨e1,e2⟩:=ho Zo;refine .inr (.inr ⟨T1.c,o,arr,ty,fr,rfl,h1,((hpw.drop off).take _).congr fun i _=>?_,?_⟩)
    ·show _=arr[T1.sh+(off+i)]?;rw[e1,←YU]
    have:n*sz'≤cap*sz':=YO _ hl;omega
   cases hs
  cases hs
 cases hs
def zdg(h:Inv g base H D w){x:V}{xc:Value}{sz n:Nat}{cs:ZA}{R:ZN}(hx:VRel g x xc)(hs:zaK H x sz=some (cs,n,R))(hD:∀b∈R,D b) (w':World) (hw:w'.heap=w.heap):∃arr:Array Value,(Builtin.firstCells sz n xc).run P w'=.ok arr w'∧arr.size=cs.length∧PW g cs (fun i=>arr[i]?):=by
 obtain⟨hl,hc⟩:=zbr h hx hs hD;rcases hc with⟨rfl,rfl⟩|⟨a,cap,rfl,hc⟩
 ·refine⟨#[],rfl,by simp[hl],?_⟩;have:cs=[]:=YB (by simpa using hl);subst this;exact PW.nil
 have hz:cs=[]→n*sz=0→∃arr:Array Value,(Builtin.firstCells sz n (.slice (some a) n cap)).run P w'=.ok arr w'∧arr.size=cs.length∧PW g cs (fun i=>arr[i]?):=by intro e e0;subst e;exact⟨#[],by simp[Builtin.firstCells,e0,loadCells,loadCellsFrom],rfl,PW.nil⟩
 rcases hc with⟨rfl,e⟩|⟨e0,e⟩|⟨c,o,arr,t,fr,rfl,hh,hpw,hb⟩
 ·exact hz e Zs
 ·exact hz e e0
 refine⟨arr.extract o (o+n*sz),?_,by simp[hl];omega,hpw.extract hl⟩;simp only[Builtin.firstCells];exact zar (by rw[hw];exact hh) hb
def zzt {b:Nat}{cs:ZA}{T:Tgt}(h:Inv g base H D w)(hD:D b)(hm:g.mu b=some T)(hg:H.get b=some (.cells cs)∨∃t,H.get b=some (.ty t cs)):∃(arr:Array Value)(t:TypeId),w.heap[T.c]? =some (.cells arr t (0,0))∧arr.size=T.tot∧T.sh+cs.length≤T.tot∧PW g cs (fun i=>arr[T.sh+i]?):=by
 rcases hg with hg|⟨t,hg⟩
 ·obtain⟨T1,o,m1,p1,h1,r1⟩:=h.cont b _ hD hg;obtain rfl:=ZT hm m1;cases r1 with
  |cells hs hb hp=>exact⟨_,_,h1,hs,hb,hp⟩
 obtain⟨T1,o,m1,p1,h1,r1⟩:=h.cont b _ hD hg;obtain rfl:=ZT hm m1;obtain⟨arr,rfl,hs,hbd,hsh,hpw⟩:=r1.ty_row;exact⟨_,_,h1,hs,hbd,hpw⟩
def zpr {t:TypeId}{k count:Nat}(hk:P.cellsOf t=k+1)(hc:1≤count):liesAt P P.depth t count 0 t 1=true:=by have hd:P.depth=(2*(P.types.size+Made.depth)+1)+1:=rfl;rw[hd];simp only[liesAt,Yao];left;rw[hd];simp[rowAt,hk,hc,sameLayout]
def cellsOf_size {t:TypeId}{n:Nat}(h:sizeT P t=some n):P.cellsOf t=n:=by
 unfold sizeT at h;unfold Program.cellsOf;cases hi:P.info? t with
 |none=>simp[hi]at h
 |some i=>simpa[hi]using h
def xConv_ok(h:Inv g base H D w){src dst:TypeId}{x:V}{xc:Value}(hx:VRel g x xc)(hp:(XR.ar H (zfm P src dst x H)).pre)(hD:∀b∈(XR.ar H (zfm P src dst x H)).R,D b):Snd P g base H D w (XR.ar H (zfm P src dst x H)) (convert src dst xc):=by
 cases hq:zfm P src dst x H with
 |none=>rw[hq]at hp;exact hp.elim
 |some q=>
  rw[hq]at hD;clear hp;have info:∀ {u:TypeId} {n:Nat},sizeT P u=some n→∃i,P.info? u=some i∧i.size=n:=by
   intro u n hn;unfold sizeT at hn;cases hi:P.info? u with
   |none=>simp[hi]at hn
   |some i=>exact⟨i,rfl,by simpa[hi]using hn⟩
  unfold zfm at hq;split at hq
  ·rename_i u b off hs hd;have core:∀ {k:Nat} {cs:ZA},sizeT P u=some (k+1)→(H.get b=some (.cells cs)∨∃t,H.get b=some (.ty t cs))→off<cs.length→D b→Snd P g base H D w ⟨True,.ptr b off,H,[b],[]⟩ (convert src dst xc):=by intro k cs hk hg hlt hDb;obtain⟨T,hm,rfl⟩:=hx.inv_ptr;obtain⟨arr,t,hh,hsz,hbd,_⟩:=zzt h hDb hm hg;obtain⟨i,hi,hn⟩:=info hk;refine Snd.val h _ (Lib.run_to_unsafe w ⟨T.c,T.sh+off,none⟩ hs hd hi Zo (e:=t) (cells:=arr.size) (by simp[World.shape?,hh]) (by show T.sh+off<arr.size;omega)) hx
   split at hq
   ·rename_i k cs hk hg;split at hq
    ·rename_i hlt;cases hq;exact core hk (.inl hg) hlt (hD b (by simp[XR.ar]))
    cases hq
   ·rename_i k t cs hk hg;split at hq
    ·rename_i hlt;cases hq;exact core hk (.inr ⟨_,hg⟩) hlt (hD b (by simp[XR.ar]))
    cases hq
   cases hq
  ·rename_i u b hs hd;split at hq
   ·rename_i k t cs hk hg;split at hq
    ·rename_i hc;cases hq;obtain⟨rfl,hlt⟩:=hc;have hDb:=hD b (by simp[XR.ar]);obtain⟨T,hm,rfl⟩:=hx.inv_ptr;obtain⟨T1,o,m1,p1,h1,r1⟩:=h.cont b _ hDb hg;obtain rfl:=ZT hm m1;obtain⟨arr,rfl,hsz,hbd,hsh,hpw⟩:=r1.ty_row;obtain⟨i,hi,hn⟩:=info hk;have hce:=cellsOf_size hk;refine Snd.val h _ (Lib.run_from_unsafe w ⟨T1.c,T1.sh+0,none⟩ hs hd hi (e:=t) (cells:=arr.size) (by simp[World.shape?,h1]) ?_) hx;show liesAt P P.depth t (arr.size/P.cellsOf t) (T1.sh+0) t 1=true;rw[hsh];exact zpr hce (by rw[hce];exact(Yb0 Zo).2 Zo)
    cases hq
   cases hq
  ·rename_i e0 e b off n sz kc hs hd;split at hq
   ·rename_i cs hsd he hg;cases hq;have hsd:src=dst:=Yaq hsd;have hDb:=hD b (by simp[XR.ar]);obtain⟨T,o,cap,hm,hl,ho,hk,rfl⟩:=hx.inv_sl;obtain⟨T1,ob,m1,p1,h1,r1⟩:=h.cont b _ hDb hg;obtain rfl:=ZT hm m1;cases r1 with
    |cells hsz hbd hpw=>
     rename_i arr t;have hlt:=(YF.1 h1).1;refine⟨g,w.freeze ⟨T1.c,arr.size,none⟩ 1,_,?_,hx,Post.put h hDb hg hm (o:=.cells arr t (arr.size,arr.size+1)) ?_ (fun c hc=>?_) ?_ rfl ⟨rfl,Yc _⟩ rfl (.ro hsz hbd hpw)⟩
     ·have hd':P.underlying dst=some (.slice e0):=by rw[←hsd];exact hs
      rw[hd]at hd';cases hd';simp[convert,run_underlying hs,run_underlying hd,run_underlying he,hsd,markStringish,World.shape?,h1]
     ·simp[World.freeze,YaR,h1]
     ·simp[World.freeze,YaR,Ne.symm hc]
     simp[World.freeze]
   cases hq
  cases hq
def aConv_ok(h:Inv g base H D w){src dst:TypeId}{x:V}{xc:Value}(hx:VRel g x xc)(hp:(zcy P src dst x H).pre)(hD:∀b∈(zcy P src dst x H).R,D b):Snd P g base H D w (zcy P src dst x H) (convert src dst xc):=by
 revert hD;unfold zcy at*;split at hp
 ·rename_i d k k' n hs hd;intro _;obtain rfl:=hx.inv_int;exact Snd.val h _ (by simp[convert,run_underlying hs,run_underlying hd,Conv.intToInt]) (.int _ _)
 ·rename_i d s hs hd;intro _;obtain⟨sb,rfl,rfl⟩:=hx.inv_str;exact Snd.val h _ (by simp[convert,run_underlying hs,run_underlying hd]) (.str rfl)
 ·rename_i e hs hd _;split at hp
  ·rename_i cs n R he hc;split at hp
   ·rename_i l hb;intro hD';obtain⟨arr,hr,hsz,hpw⟩:=zdg (P:=P) h hx hc hD' w rfl;obtain⟨hl,hcase⟩:=zbr h hx hc hD';obtain⟨ns,e1,e2⟩:=zew hb;rcases hcase with⟨rfl,rfl⟩|⟨a,cap,rfl,_⟩
    ·refine Snd.val h _ (v:=.string .empty) ?_ (.str ?_)
     ·rw[run_convert_bytes_string w src dst e _ _ _ hs he hd];rfl
     have:cs=[]:=YB (by simpa using hl);subst this;simp[bytesOf]at hb;subst hb;rfl
    have e3:arr.toList=ns.map (Value.int .u8):=PW.ints (by rw[Y4,hsz,e1];simp) (by rw[←e1];simpa using hpw);have e4:arr=(ns.map (Value.int .u8)).toArray:=by rw[←e3]
    simp only[Builtin.firstCells,Yag]at hr;rw[e4]at hr;refine Snd.val h _ (v:=.string (ns.foldl (fun r n=>r.push (UInt8.ofNat n.toNat)) ByteArray.empty)) ?_ (.str ?_)
    ·rw[run_convert_bytes_string w src dst e _ _ _ hs he hd];exact run_bytesToString w a n cap ns hr
    rw[zuL,e2];rfl
   exact hp.elim
  exact hp.elim
 intro hD;exact xConv_ok h hx hp hD
def zxi {fs:List Field}{pl:List (Nat×Nat)}(h:placesOf P fs=some pl):fs.mapM (fun f=>(P.info? f.type).map fun i=>(f.offset,i.size))=some pl:=by rw[←h];unfold placesOf;congr 1;funext f;simp[sizeT,Option.map_map,Function.comp_def]
def foldl_set(xs:List Value):∀(cs:Array Value)(off j0:Nat),off+j0+xs.length≤cs.size→((xs.zipIdx j0).foldl (fun cs p=>cs.setIfInBounds (off+p.2) p.1) cs).size=cs.size∧∀k,((xs.zipIdx j0).foldl (fun cs p=>cs.setIfInBounds (off+p.2) p.1) cs)[k]? =if off+j0≤k∧k<off+j0+xs.length then xs[k-(off+j0)]? else cs[k]? :=by
 induction xs with
 |nil=>intro cs off j0 _;simp;intro k h1 h2;omega
 |cons x xs ih=>
  intro cs off j0 hb;simp only[Yn]at hb;simp only[List.zipIdx_cons,YbJ];obtain⟨i1,i2⟩:=ih (cs.setIfInBounds (off+j0) x) off (j0+1) (by simp;omega);refine⟨by rw[i1];simp,fun k=>?_⟩;rw[i2 k];by_cases hk0:k=off+j0
  ·subst hk0;rw[Yh Zo,Yi Zs];simp[show off+j0<cs.size by omega]
  rw[YaP Zo];by_cases hk1:off+(j0+1)≤k∧k<off+(j0+1)+xs.length
  ·rw[Yi hk1,Yi (by simp only[Yn];omega)];rw[show k-(off+j0)=(k-(off+(j0+1)))+1 by omega,YaI]
  rw[Yh hk1,Yh (by simp only[Yn];omega)]
inductive Parts(g:G):List (Nat×V)→List (Nat×Value)→Prop
 |nil:Parts g [] []
 |cons {i:Nat} {x:V} {v:Value} {l:List (Nat×V)} {r:List (Nat×Value)} (h:VRel g x v) (t:Parts g l r):Parts g ((i,x)::l) ((i,v)::r)
def fill_ok {place:Nat→Option (Nat×Nat)}:∀ {parts:List (Nat×V)} {pc:List (Nat×Value)} {cells cs:ZA} {arr:Array Value},Parts g parts pc→zdo place cells parts=some cs→arr.size=cells.length→PW g cells (fun i=>arr[i]?)→∃arr':Array Value,Instr.fill place arr pc=some arr'∧arr'.size=cs.length∧PW g cs (fun i=>arr'[i]?)
 |[],_,cells,cs,arr,.nil,h,hs,hp=>by simp[zdo]at h;subst h;exact⟨arr,rfl,hs,hp⟩
 |(i,x)::parts,_,cells,cs,arr,.cons (v:=v) (r:=r) hx ht,h,hs,hp=>by
  unfold zdo at h;cases hpl:place i with
  |none=>simp[hpl]at h
  |some os=>
   obtain⟨off,size⟩:=os;simp only[hpl]at h;split at h
   ·rename_i hc;obtain⟨hok,hl,hb⟩:=hc;obtain⟨hvs,hvp,_⟩:=zaq hx hok;obtain⟨f1,f2⟩:=foldl_set v.cells.toList arr off 0 (by rw[Y4,hvs];omega);have e:v.cells.zipIdx.foldl (fun cs (p:Value×Nat)=>cs.setIfInBounds (off+p.2) p.1) arr=(v.cells.toList.zipIdx 0).foldl (fun cs p=>cs.setIfInBounds (off+p.2) p.1) arr:=by rw[←Array.foldl_toList];simp
    obtain⟨arr',h1,h2,h3⟩:=fill_ok (arr:=(v.cells.toList.zipIdx 0).foldl (fun cs p=>cs.setIfInBounds (off+p.2) p.1) arr) ht h (by rw[zcg Zo,←hs];exact f1)
     (PW.put hp (vs:=v.cells.toList) (by simpa using hvp) (by rw[Y4,hvs]) Zo fun k=>by show _=_;rw[f2 k];simp only[Y3,Y4,hvs])
    refine⟨arr',?_,h2,h3⟩;rw[Instr.fill];simp only[hpl];have hcond:¬(v.cells.size≠size∨off+v.cells.size>arr.size):=by rw[hvs,hs];omega
    rw[Yh (by simpa using hcond)];rw[←e]at h1;exact h1
   cases h
def zj6 {t:TypeId}{z:Value}(h:zaJ P t=some z):∃i,P.info? t=some i∧i.zero=some z:=by
 unfold zaJ at h;cases hi:P.info? t with
 |none=>simp[hi]at h
 |some i=>exact⟨i,rfl,by simpa[hi]using h⟩
def size_of {t:TypeId}{n:Nat}(h:sizeT P t=some n):∃i,P.info? t=some i∧i.size=n:=by
 unfold sizeT at h;cases hi:P.info? t with
 |none=>simp[hi]at h
 |some i=>exact⟨i,rfl,by simpa[hi]using h⟩
def zsO(h:Inv g base H D w){t:TypeId}{parts:List (Nat×V)}{pc:Array (Nat×Value)}(hpc:Parts g parts pc.toList)(hp:(XR.ar H (zdy P t parts H)).pre):Snd P g base H D w (XR.ar H (zdy P t parts H)) (Instr.build t pc):=by
 cases hq:zdy P t parts H with
 |none=>rw[hq]at hp;exact hp.elim
 |some q=>
  unfold zdy at hq;split at hq;rotate_left;·cases hq
  rename_i n e hu;split at hq;rotate_left;·cases hq
  rename_i z s hz hs;split at hq;rotate_left;·cases hq
  rename_i cs hok hf;cases hq;obtain⟨zs,zp,_⟩:=zaq (zd0 g z) hok;obtain⟨arr,h1,h2,h3⟩:=fill_ok (arr:=z.cells) hpc hf zs zp;obtain⟨i,hi,hiz⟩:=zj6 hz;obtain⟨ie,hie,hse⟩:=size_of hs;refine Snd.val h _ (v:=.agg arr) (run_build w t pc arr ?_) (Xj h2 h3);unfold Program.built;simp only[hi,hu,hiz,hie,hse];exact h1
def zBu(h:Inv g base H D w){t:TypeId}{parts:List (Nat×V)}{pc:Array (Nat×Value)}(hpc:Parts g parts pc.toList)(hp:(zc4 P t parts H).pre):Snd P g base H D w (zc4 P t parts H) (Instr.build t pc):=by
 unfold zc4 at*;split at hp
 ·rename_i z fs hz hu;split at hp
  ·rename_i pl hpl;split at hp
   ·rename_i cs hf;obtain⟨zs,zp,_⟩:=zaq (zd0 g z) hp;obtain⟨arr,h1,h2,h3⟩:=fill_ok (arr:=z.cells) hpc hf zs zp;obtain⟨i,hi,hiz⟩:=zj6 hz;refine Snd.val h _ (v:=.agg arr) (run_build w t pc arr ?_) (Xj h2 h3);unfold Program.built;simp only[hi,hu,hiz,zxi hpl];have:(fun i:Nat=>pl.toArray[i]?)=(fun i:Nat=>pl[i]?):=by funext i;simp
    rw[this];exact h1
   exact hp.elim
  exact hp.elim
 exact zsO h hpc hp
def flat_get {α:Type}(l:List α):∀(n i:Nat),i<n*l.length→(List.replicate n l).flatten[i]? =l[i%l.length]?
 |0,i,h=>by simp at h
 |n+1,i,h=>by
  rw[Ybo,List.flatten_cons];by_cases hi:i<l.length
  ·rw[YQ hi,Yb8 hi]
  rw[Yax Zo,flat_get l n (i-l.length) (by rw[Yal]at h;omega)];rw[Nat.mod_eq_sub_mod (a:=i) Zo]
def zgP {e:TypeId}{z:Value}{s n:Nat}(hz:zaJ P e=some z)(hs:sizeT P e=some s)(hok:zq (cv z)=true)(hl:(cv z).cellsV.length=s):(zbc P e n).length=n*s∧PW g (zbc P e n) (fun i=>(madeCells z.cells (n*s))[i]?):=by
 obtain⟨zs,zp,_⟩:=zaq (zd0 g z) hok;have gen:∀l:ZA,l.length=n*s→(∀i,i<n*s→l[i]? =(cv z).cellsV[i%s]?)→PW g l (fun i=>(madeCells z.cells (n*s))[i]?):=by
  intro l hll hg i x hx;have hi:i<n*s:=by by_cases hh:i<l.length;omega;simp[Yr (Yaa hh)]at hx
  rw[hg i hi]at hx;obtain⟨v,hv,r⟩:=zp _ _ hx;refine⟨v,?_,r⟩;have hv':z.cells[i%s]? =some v:=hv;have hm:i%s<z.cells.size:=(YF.1 hv').1;show (madeCells z.cells (n*s))[i]? =some v;simp only[madeCells,YbU,Array.getElem?_range,hi,if_true,Yau];rw[zs,hl,getElem!_pos z.cells (i%s) hm,(YF.1 hv').2]
 unfold zbc;rw[hz];dsimp only;split
 ·rename_i c hc;have h1:s=1:=by rw[←hl,hc];rfl
  subst h1;refine⟨Zs,gen _ Zs fun i hi=>?_⟩;have hi':i<n:=Zo;rw[hc];simp[Nat.mod_one,hi']
 refine⟨by rw[List.length_flatten];simp[hl],gen _ (by rw[List.length_flatten];simp[hl]) fun i hi=>?_⟩;rw[flat_get _ _ _ (by rw[hl];exact hi),hl]
def zjd(h:Inv g base H D w){t:TypeId}{len:Nat}{parts:List (Nat×V)}{pc:Array (Nat×Value)}(hpc:Parts g parts pc.toList)(hp:(zM P t len parts H).pre):Snd P g base H D w (zM P t len parts H) (Instr.buildSlice t len pc):=by
 unfold zM at*;split at hp
 ·rename_i e he;split at hp
  ·rename_i s z hs hz;split at hp
   ·rename_i cs hf;obtain⟨hok,hl,hb⟩:=hp;obtain⟨zl,zp⟩:=zgP (g:=g) (n:=len) hz hs hok hl;obtain⟨arr,h1,h2,h3⟩:=fill_ok (arr:=madeCells z.cells (len*s)) hpc hf (by rw[size_madeCells,zl]) zp;have hlen:cs.length=len*s:=by
     have:∀ {parts:List (Nat×V)} {cells cs:ZA} {place:Nat→Option (Nat×Nat)},zdo place cells parts=some cs→cs.length=cells.length:=by
      intro parts;induction parts with
      |nil=>intro cells cs place h;simp[zdo]at h;rw[h]
      |cons p parts ih=>
       intro cells cs place h;obtain⟨i,x⟩:=p;unfold zdo at h;cases hpl:place i with
       |none=>simp[hpl]at h
       |some os=>
        simp only[hpl]at h;split at h
        ·rename_i hc;rw[ih h,zcg Zo]
        cases h
     rw[this hf,zl]
    refine⟨_,w.alloc (.cells arr e),.slice (some ⟨w.heap.size,0,none⟩) len len,?_,?_,Post.new h (o:=.cells arr e) (tot:=arr.size) rfl rfl ⟨rfl,Yc _⟩ rfl (.cells rfl (by simp[h2]) (by simpa using h3))⟩
    ·unfold Instr.buildSlice;rw[Sem.run_bind,run_underlying (zdM he)];simp only[Result.andThen_ok];rw[Sem.run_bind,zao hs];simp only[Result.andThen_ok];rw[Yh Zo];by_cases h0:len*s=0
     ·have hm:(Array.range (len*s)).map ((#[]:Array Value)[· % (#[]:Array Value).size]!)=madeCells z.cells (len*s):=by rw[h0];simp[madeCells]
      rw[Yi h0,Sem.run_bind,Sem.run_pure];simp only[Result.andThen_ok];rw[hm,h1];simp[newRow]
     rw[Yh h0,Sem.run_bind,zbk hz];simp only[Result.andThen_ok,Sem.run_bind,Sem.run_pure];have hm:(Array.range (len*s)).map (z.cells[· % z.cells.size]!)=madeCells z.cells (len*s):=rfl;rw[hm,h1];simp[newRow]
    refine .sl (T:=⟨w.heap.size,0,arr.size⟩) (by simp[G.add]) (Yc _) (fun _=>⟨rfl,?_⟩) (fun k e=>by cases e;rfl);show 0+len*s≤arr.size;omega
   exact hp.elim
  exact hp.elim
 exact hp.elim
def zpI {t:TypeId}{n b:Nat}{k:Bool}(h:zh9 P t=some (n,b,k)):∃i,P.info? t=some i∧i.size=n∧i.bytes=b∧(k=true→∃z,i.zero=some z∧z.cells.size=i.size):=by
 unfold zh9 at h;cases hi:P.info? t with
 |none=>simp[hi]at h
 |some i=>
  simp only[hi,Yau,YJ,Ybr]at h;refine⟨i,rfl,h.1,h.2.1,fun hk=>?_⟩;subst hk;have:=h.2.2;cases hz:i.zero with
  |none=>simp[hz]at this
  |some z=>exact⟨z,rfl,by simpa[hz]using this⟩
def zl0(h:Inv g base H D w){t:TypeId}{l c:V}{lc cc:Value}(hl:VRel g l lc)(hc:VRel g c cc)(hp:(zaF P t l c H).pre):Snd P g base H D w (zaF P t l c H) (Instr.makeSlice t lc cc):=by
 unfold zaF at*;split at hp
 ·rename_i e k l k' c he;split at hp
  ·rename_i isz ib zok z hif hz;obtain⟨i,hi,rfl,rfl,_⟩:=zpI hif;obtain⟨hok,hlen,h1,h2,h3,h4⟩:=hp;obtain rfl:=hl.inv_int;obtain rfl:=hc.inv_int;obtain⟨i',hi',hiz⟩:=zj6 hz;obtain rfl:i'=i:=by rw[hi]at hi';exact(Yj hi').symm
   have hs:sizeT P e=some i'.size:=by simp[sizeT,hi]
   obtain⟨zl,zp⟩:=zgP (g:=g) (n:=c.toNat) hz hs hok hlen;refine⟨_,w.alloc (.cells (madeCells z.cells (c.toNat*i'.size)) e),_,run_make w t e i' z (zdM he) hi hiz k k' l c h1 h2 h4 h3,?_,
    Post.new h (o:=.cells (madeCells z.cells (c.toNat*i'.size)) e) (tot:=c.toNat*i'.size) rfl rfl ⟨rfl,Yc _⟩ rfl (.cells (size_madeCells _ _) (by simp[zl]) (by simpa using zp))⟩
   exact .sl (T:=⟨w.heap.size,0,c.toNat*i'.size⟩) (by simp[G.add]) Zo (fun _=>⟨rfl,Zs⟩) (fun k e=>by cases e;rfl)
  exact hp.elim
 exact hp.elim
end
end Go.Ab
