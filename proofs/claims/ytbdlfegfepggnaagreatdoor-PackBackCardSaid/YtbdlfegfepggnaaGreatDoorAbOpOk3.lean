/- The operations' soundness, third part: strings and slices cut, converted, made. -/
import Derived.Test.YtbdlfegfepggnaaGreatDoorAbOpOk1
import Derived.Laws.MakeOwn
import Derived.Laws.BytesString
import Derived.Laws.Tables
import Derived.Lib.Builder
import Derived.Lib.UnsafeStr
set_option linter.all false
set_option maxHeartbeats 16000000
set_option maxRecDepth 100000
noncomputable section
namespace Go.Ab
def ORel(g:G):Option V→Option Value→Prop
 |none,none=>True
 |some v,some c=>VRel g v c
 |_,_=>False
def Bnd(oc:Option Value)(d n:Int):Prop:=(oc=none∧n=d)∨∃k,oc=some (.int k n)
def Bnd.of {g:G}{o:Option V}{oc:Option Value}{d n:Int}(h:ORel g o oc)(e:bnd o d=some n):Bnd oc d n:=by
 cases o with
 |none=>
  cases oc with
  |none=>simp[bnd]at e;exact .inl ⟨rfl,e.symm⟩
  |some c=>exact h.elim
 |some v=>
  cases oc with
  |none=>exact h.elim
  |some c=>cases v<;>simp[bnd]at e;subst e;exact .inr ⟨_,by rw[VRel.inv_int h]⟩
section
variable {P:Program}{g:G}{base:Nat}{H:Hp}{D:Nat→Prop}{w:World}
def run_sliceBound {k:IntKind}{n:Int}{y:Nat}{code:BoundsCode}(h0:0≤n)(h1:n≤y):(Instr.sliceBound (.int k n) y code).run P w=.ok n.toNat w:=by simp[Instr.sliceBound,asIntOf,h0,h1]
def zce {isS:Bool}{len cap:Nat}{lc hc:Option Value}{l h:Int}(el:Bnd lc 0 l)(eh:Bnd hc len h) (h0:0≤l) (h1:l≤h) (h2:h≤cap):(Instr.sliceBounds isS len cap lc hc none).run P w=.ok (l.toNat,h.toNat,cap) w:=by
 unfold Instr.sliceBounds;have e0:∀code,(Instr.sliceBound (.int .i64 0) h.toNat code).run P w=.ok 0 w:=fun code=>run_sliceBound Zo Zo;rcases eh with⟨rfl,rfl⟩|⟨k,rfl⟩<;>rcases el with⟨rfl,rfl⟩|⟨k',rfl⟩
 ·simp only[Sem.run_bind,Sem.run_pure,Result.andThen_ok];rfl
 ·have e1:∀code,(Instr.sliceBound (.int k' l) len code).run P w=.ok l.toNat w:=fun code=>run_sliceBound h0 h1;simp only[Sem.run_bind,Sem.run_pure,Result.andThen_ok,e1];rfl
 ·have e2:∀code,(Instr.sliceBound (.int k h) cap code).run P w=.ok h.toNat w:=fun code=>run_sliceBound Zo h2;simp only[Sem.run_bind,Sem.run_pure,Result.andThen_ok,e2];rfl
 have e2:∀code,(Instr.sliceBound (.int k h) cap code).run P w=.ok h.toNat w:=fun code=>run_sliceBound Zo h2;have e1:∀code,(Instr.sliceBound (.int k' l) h.toNat code).run P w=.ok l.toNat w:=fun code=>run_sliceBound h0 Zo;simp only[Sem.run_bind,Sem.run_pure,Result.andThen_ok,e1,e2]
def zfV {len cap:Nat}{lc:Option Value}{k k':IntKind}{l h m:Int}(el:Bnd lc 0 l) (h0:0≤l) (h1:l≤h) (h2:h≤m) (h3:m≤cap):(Instr.sliceBounds true len cap lc (some (.int k h)) (some (.int k' m))).run P w=.ok (l.toNat,h.toNat,m.toNat) w:=by
 unfold Instr.sliceBounds;have e1:∀code,(Instr.sliceBound (.int k' m) cap code).run P w=.ok m.toNat w:=fun code=>run_sliceBound Zo h3;have e2:∀code,(Instr.sliceBound (.int k h) m.toNat code).run P w=.ok h.toNat w:=fun code=>run_sliceBound Zo Zo;rcases el with⟨rfl,rfl⟩|⟨k2,rfl⟩
 ·simp only[Sem.run_bind,Sem.run_pure,Result.andThen_ok,e1,e2];rfl
 have e3:∀code,(Instr.sliceBound (.int k2 l) h.toNat code).run P w=.ok l.toNat w:=fun code=>run_sliceBound h0 Zo;simp only[Sem.run_bind,Sem.run_pure,Result.andThen_ok,e1,e2,e3]
def zc8 {t:TypeId}{d:TypeDesc}{xc:Value}{lc hc mc:Option Value}(hu:P.underlying t=some d)(hne:∀n e,d≠.array n e):(Instr.sliceAt t xc lc hc mc).run P w=(Instr.slice t xc lc hc mc).run P w:=by simp only[Instr.sliceAt,Sem.run_bind,run_underlying hu,Result.andThen_ok]
def zjx {t:TypeId}{s:ByteArray}{lc hc:Option Value}{l h:Int}(hu:P.underlying t=some .string)(el:Bnd lc 0 l)(eh:Bnd hc s.size h) (h0:0≤l) (h1:l≤h) (h2:h≤s.size):(Instr.sliceAt t (.string s) lc hc none).run P w=.ok (.string (s.extract l.toNat h.toNat)) w:=by rw[zc8 hu Zs];simp only[Instr.slice,Sem.run_bind,run_underlying hu,Result.andThen_ok,Option.isSome_none,Y2,if_false,Sem.run_pure,zce el eh h0 h1 h2]
def zdA {t e:TypeId}{sz:Nat}{a:Option Addr}{len cap:Nat}{lc hc:Option Value}{l h:Int}(hu:P.underlying t=some (.slice e))(hn:zF P e=some sz) (el:Bnd lc 0 l) (eh:Bnd hc len h) (h0:0≤l) (h1:l≤h) (h2:h≤cap):(Instr.sliceAt t (.slice a len cap) lc hc none).run P w=.ok (.slice (if cap=l.toNat then a else a.map (·.add (l.toNat*sz))) (h.toNat-l.toNat) (cap-l.toNat)) w:=by rw[zc8 hu Zs];simp only[Instr.slice,Sem.run_bind,run_underlying hu,Result.andThen_ok,Sem.run_pure,zce el eh h0 h1 h2,zah hn]
def zjy {t e:TypeId}{sz:Nat}{a:Option Addr}{len cap:Nat}{lc:Option Value}{k k':IntKind}{l h m:Int}(hu:P.underlying t=some (.slice e))(hn:zF P e=some sz) (el:Bnd lc 0 l) (h0:0≤l) (h1:l≤h) (h2:h≤m) (h3:m≤cap):(Instr.sliceAt t (.slice a len cap) lc (some (.int k h)) (some (.int k' m))).run P w=.ok (.slice (if m.toNat=l.toNat then a else a.map (·.add (l.toNat*sz))) (h.toNat-l.toNat) (m.toNat-l.toNat)) w:=by rw[zc8 hu Zs];simp only[Instr.slice,Sem.run_bind,run_underlying hu,Result.andThen_ok,Sem.run_pure,zfV el h0 h1 h2 h3,zah hn]
def zjz {t e:TypeId}{n sz:Nat}{a:Addr}{lc hc:Option Value}{l h:Int}(hu:P.underlying t=some (.array n e))(hn:zF P e=some sz) (el:Bnd lc 0 l) (eh:Bnd hc n h) (h0:0≤l) (h1:l≤h) (h2:h≤n):(Instr.sliceAt t (.pointer (some a)) lc hc none).run P w=.ok (.slice (some (if n=l.toNat then a else a.add (l.toNat*sz))) (h.toNat-l.toNat) (n-l.toNat)) w:=by simp only[Instr.sliceAt,Sem.run_bind,run_underlying hu,Result.andThen_ok,Instr.sureAddr,Sem.run_pure,zce el eh h0 h1 h2,zah hn]
def zcn(s:ByteArray)(l h:Nat):(s.extract l h).data.toList=(s.data.toList.take h).drop l:=by rw[ByteArray.data_extract,Array.toList_extract];rw[List.extract_eq_take_drop,Ycd]
def zyH(hI:Inv g base H D w){t:TypeId}{x:V}{lo hi mx:Option V}{xc:Value}{lc hc mc:Option Value}(hx:VRel g x xc) (hl:ORel g lo lc) (hh:ORel g hi hc) (hm:ORel g mx mc) (hp:(zbm P t x lo hi mx H).pre) (hD:∀b∈(zbm P t x lo hi mx H).R,D b):Snd P g base H D w (zbm P t x lo hi mx H) (Instr.sliceAt t xc lc hc mc):=by
 unfold zbm at*;split at hp
 ·rename_i s hu;obtain rfl:mc=none:=by cases mc;rfl;exact hm.elim
  obtain⟨sb,rfl,rfl⟩:=hx.inv_str;split at hp
  ·rename_i l h el eh;obtain⟨h0,h1,h2⟩:=hp;have hsz:=zcG sb;refine Snd.val hI _ (zjx hu (Bnd.of hl el) (by rw[hsz];exact Bnd.of hh eh) h0 h1 Zo) (.str ?_);exact zcn _ _ _
  exact hp.elim
 ·rename_i e hu;obtain rfl:mc=none:=by cases mc;rfl;exact hm.elim
  cases hx;split at hp
  ·rename_i sz l h hn el eh;obtain⟨rfl,rfl⟩:=hp;exact Snd.val hI _ (zdA hu hn (Bnd.of hl el) (Bnd.of hh eh) Zo Zo Zo) .nilS
  exact hp.elim
 ·rename_i e cs len hu;obtain rfl:mc=none:=by cases mc;rfl;exact hm.elim
  obtain⟨a,cap,rfl,hlc,hcase⟩:=hx.inv_fs;split at hp
  ·rename_i sz l h hn el eh;obtain⟨h0,h1,h2,h3⟩:=hp;refine Snd.val hI _ (zdA hu hn (Bnd.of hl el) (Bnd.of hh eh) h0 h1 Zo) ?_;rcases hcase with⟨rfl,rfl,ha⟩|⟨c,o,arr,rfl,hphi,hpw⟩
   ·obtain rfl:h=0:=Zo;obtain rfl:l=0:=Zo;simp only[Int.toNat_zero,Ybo,List.take_nil,List.drop_nil,YaK,YbW];split
    ·exact .fs0 ha
    exact .fs0 (by cases a<;>simp_all)
   split
   ·rename_i hc;have e1:h.toNat=l.toNat:=Zo;rw[e1,YaK,hc,YaK];have:(cs.take (l.toNat*sz)).drop (l.toNat*sz)=[]:=by apply Ybx;rw[Y0];omega
    rw[this];exact .fs0 Zs
   rw[Yap,za1];refine Xk hphi Zo (((hpw.take (h.toNat*sz)).drop (l.toNat*sz)).congr fun i _=>?_);show _=arr[o+(l.toNat*sz+i)]?;rw[←YO]
  exact hp.elim
 ·rename_i e b off len sz' kc hu;obtain rfl:mc=none:=by cases mc;rfl;exact hm.elim
  obtain⟨T,o,cap,hmu,hlc,ho,hk,rfl⟩:=hx.inv_sl;split at hp
  ·rename_i sz l h hn el eh;obtain⟨rfl,h0,h1,h2⟩:=hp;have hcap:h≤cap:=by
    cases kc with
    |none=>simp only[Ycj]at h2;omega
    |some k=>have:=hk k rfl;simp only[YbJ]at h2;omega
   refine Snd.val hI _ (zdA hu hn (Bnd.of hl el) (Bnd.of hh eh) h0 h1 hcap) ?_;have key:∀o',(cap-l.toNat≠0→o'=o+l.toNat*sz')→
    VRel g (.sl b (off+l.toNat*sz') (h.toNat-l.toNat) sz' (kc.map (· - l.toNat))) (.slice (some ⟨T.c,o',none⟩) (h.toNat-l.toNat) (cap-l.toNat)):=by
    intro o' ho'
    refine .sl hmu Zo (fun hne=>?_) (fun k e=>?_)
    ·obtain⟨e1,e2⟩:=ho Zo;rw[ho' hne,e1];refine⟨Zo,?_⟩;rw[e1]at e2;have:l.toNat*sz'+(cap-l.toNat)*sz'=cap*sz':=by rw[←Y5];congr 1;omega
     omega
    ·cases kc with
     |none=>cases e
     |some k'=>simp only[Yap,Yx]at e;rw[←e,hk k' rfl]
   split
   ·exact key o fun hne=>Zo
   rw[Yap,za1];exact key _ fun _=>rfl
  exact hp.elim
 ·rename_i e b off len sz' kc m hu;obtain⟨T,o,cap,hmu,hlc,ho,hk,rfl⟩:=hx.inv_sl;cases mc with
  |none=>exact hm.elim
  |some mv=>
   split at hp
   ·rename_i sz l h m' hiv hn el em eh;obtain⟨rfl,h0,h1,h2,h3⟩:=hp;have hcap:m'≤cap:=by
     cases kc with
     |none=>simp only[Ycj]at h3;omega
     |some k=>have:=hk k rfl;simp only[YbJ]at h3;omega
    cases hc with
    |none=>exact hh.elim
    |some hv=>
     rcases Bnd.of (o:=some m) (oc:=some mv) hm em with⟨e1,_⟩|⟨k1,e1⟩
     ·cases e1
     cases e1;rcases Bnd.of hh eh with⟨e2,_⟩|⟨k2,e2⟩
     ·cases e2
     cases e2;refine Snd.val hI _ (zjy hu hn (Bnd.of hl el) h0 h1 h2 hcap) ?_;have key:∀o',(m'.toNat-l.toNat≠0→o'=o+l.toNat*sz')→
      VRel g (.sl b (off+l.toNat*sz') (h.toNat-l.toNat) sz' (some (m'.toNat-l.toNat))) (.slice (some ⟨T.c,o',none⟩) (h.toNat-l.toNat) (m'.toNat-l.toNat)):=by
      intro o' ho'
      refine .sl hmu Zo (fun hne=>?_) (fun k e=>by cases e;rfl)
      obtain⟨e1,e2⟩:=ho Zo
      rw[ho' hne,e1]
      refine⟨Zo,?_⟩
      rw[e1]at e2
      have:l.toNat*sz'+(m'.toNat-l.toNat)*sz'≤cap*sz':=by rw[←Y5];exact YI _ Zo
      omega
     split
     ·exact key o fun hne=>Zo
     rw[Yap,za1];exact key _ fun _=>rfl
   exact hp.elim
 ·rename_i n e b off hu;obtain rfl:mc=none:=by cases mc;rfl;exact hm.elim
  obtain⟨T,hmu,rfl⟩:=hx.inv_ptr;split at hp
  ·rename_i sz l h cs hn el eh hg;obtain⟨h0,h1,h2,h3⟩:=hp;have hDb:D b:=by simp only[hu,hn,el,eh,hg]at hD;exact hD b Zs
   obtain⟨T1,o,m1,p1,hw1,r1⟩:=hI.cont b _ hDb hg;obtain rfl:=ZT hmu m1;cases r1 with
   |cells hs hb hpw=>
    refine Snd.val hI _ (zjz hu hn (Bnd.of hl el) (Bnd.of hh eh) h0 h1 h2) ?_;have hmul:l.toNat*sz+(n-l.toNat)*sz=n*sz:=by rw[←Y5];congr 1;omega
    have key:∀o',(n-l.toNat≠0→o'=T1.sh+off+l.toNat*sz)→
     VRel g (.sl b (off+l.toNat*sz) (h.toNat-l.toNat) sz (some (n-l.toNat))) (.slice (some ⟨T1.c,o',none⟩) (h.toNat-l.toNat) (n-l.toNat)):=by
     intro o' ho'
     refine .sl hmu Zo (fun hne=>?_) (fun k e=>by rw[Yx]at e;exact e)
     rw[ho' hne]
     exact⟨Zo,Zo⟩
    split
    ·exact key _ fun hne=>Zo
    rw[za1];exact key _ fun _=>rfl
  exact hp.elim
 exact hp.elim
end
end Go.Ab

namespace Go.Ab
section
variable {P:Program}{g:G}{base:Nat}{H:Hp}{D:Nat→Prop}{w:World}
def zdS:∀ {cs:ZA} {l:ZL},bytesOf cs=some l→∃ns:List Int,cs=ns.map (V.int .u8)∧l=ns.map fun n=>UInt8.ofNat n.toNat
 |[],l,h=>by simp[bytesOf]at h;exact⟨[],rfl,by rw[h];rfl⟩
 |x::r,l,h=>by
  unfold bytesOf at h;split at h
  ·rename_i e;cases e
  ·rename_i n r' e;cases e;cases hb:bytesOf r with
   |none=>rw[hb]at h;cases h
   |some l'=>rw[hb]at h;obtain⟨ns,e1,e2⟩:=zdS hb;simp only[Yap,Yx]at h;exact⟨n::ns,by simp[e1],by rw[←h,e2];rfl⟩
  cases h
def PW.ints {ns:List Int}{k:IntKind}{l:List Value}(hl:l.length=ns.length)(p:PW g (ns.map (V.int k)) (fun i=>l[i]?)):l=ns.map (Value.int k):=by
 apply YaI;intro i;by_cases hi:i<ns.length
 ·obtain⟨v,hv,r⟩:=p i (.int k ns[i]) (by simp[hi]);have hv':l[i]? =some v:=hv;rw[hv',r.inv_int];simp[hi]
 rw[Yo Zo,Yo (by simp;omega)]
def zsy(ns:List Int):∀s:ByteArray,(ns.foldl (fun r n=>r.push (UInt8.ofNat n.toNat)) s).data.toList=s.data.toList++ns.map fun n=>UInt8.ofNat n.toNat:=by
 induction ns with
 |nil=>intro s;simp
 |cons n ns ih=>intro s;rw[YbC,ih];simp[ByteArray.push]
def zbb(h:Inv g base H D w){x:V}{xc:Value}{sz n:Nat}{cs:ZA}{R:ZN}(hx:VRel g x xc)(hs:zaE H x sz=some (cs,n,R))(hD:∀b∈R,D b):cs.length=n*sz∧((xc=.slice none 0 0∧n=0)∨∃(a:Addr)(cap:Nat),xc=.slice (some a) n cap∧((n=0∧cs=[])∨(n*sz=0∧cs=[])∨∃c o arr t fr,a=⟨c,o,none⟩∧w.heap[c]? =some (.cells arr t fr)∧PW g cs (fun i=>arr[o+i]?)∧o+n*sz≤arr.size)):=by
 unfold zaE at hs;split at hs
 ·cases hs;cases hx;exact⟨Zs,.inl ⟨rfl,rfl⟩⟩
 ·split at hs
  ·rename_i cs' n' hl;cases hs;obtain⟨a,cap,rfl,_,hcase⟩:=hx.inv_fs;rcases hcase with⟨rfl,rfl,ha⟩|⟨c,o,arr,rfl,hphi,hpw⟩
   ·cases a with
    |none=>obtain rfl:=ha rfl;exact⟨hl,.inl ⟨rfl,rfl⟩⟩
    |some a=>exact⟨hl,.inr ⟨a,cap,rfl,.inl ⟨rfl,rfl⟩⟩⟩
   refine⟨hl,.inr ⟨_,cap,rfl,?_⟩⟩;obtain⟨t,fr,hh⟩:=h.frz _ _ hphi;by_cases h0:cs=[]
   ·subst h0;exact .inr (.inl ⟨by simpa using hl.symm,rfl⟩)
   exact .inr (.inr ⟨c,o,arr,t,fr,rfl,hh,hpw,by rw[←hl];exact hpw.size h0⟩)
  cases hs
 ·rename_i b off n' sz' kc;split at hs
  ·rename_i cs' hg;split at hs
   ·rename_i hb;cases hs;obtain⟨rfl,hb⟩:=hb;obtain⟨T,o,cap,hm,hl,ho,hk,rfl⟩:=hx.inv_sl;obtain⟨T1,ob,m1,p1,h1,r1⟩:=h.cont b _ (hD b Zs) hg;obtain rfl:=ZT hm m1;have hlen:((cs'.drop off).take (n*sz')).length=n*sz':=by simp;omega
    refine⟨hlen,.inr ⟨_,cap,rfl,?_⟩⟩;cases r1 with
    |cells hs hbd hpw=>
     rename_i arr t;by_cases h0:n=0
     ·exact .inl ⟨h0,by subst h0;simp⟩
     obtain⟨e1,e2⟩:=ho Zo;refine .inr (.inr ⟨T1.c,o,arr,t,(0,0),rfl,h1,((hpw.drop off).take _).congr fun i _=>?_,?_⟩)
     ·show _=arr[T1.sh+(off+i)]?;rw[e1,←YO]
     have:n*sz'≤cap*sz':=YI _ hl;omega
   cases hs
  ·rename_i ty cs' hg;split at hs
   ·rename_i hb;cases hs;obtain⟨rfl,hb⟩:=hb;obtain⟨T,o,cap,hm,hl,ho,hk,rfl⟩:=hx.inv_sl;obtain⟨T1,ob,m1,p1,h1,r1⟩:=h.cont b _ (hD b Zs) hg;obtain rfl:=ZT hm m1;have hlen:((cs'.drop off).take (n*sz')).length=n*sz':=by simp;omega
    refine⟨hlen,.inr ⟨_,cap,rfl,?_⟩⟩;obtain⟨arr,rfl,hs,hbd,hsh,hpw⟩:=r1.ty_row;by_cases h0:n=0
    ·exact .inl ⟨h0,by subst h0;simp⟩
    obtain⟨e1,e2⟩:=ho Zo;refine .inr (.inr ⟨T1.c,o,arr,ty,(0,0),rfl,h1,((hpw.drop off).take _).congr fun i _=>?_,?_⟩)
    ·show _=arr[T1.sh+(off+i)]?;rw[e1,←YO]
    have:n*sz'≤cap*sz':=YI _ hl;omega
   cases hs
  ·rename_i cs' hg;split at hs
   ·rename_i hb;cases hs;obtain⟨rfl,hb⟩:=hb;obtain⟨T,o,cap,hm,hl,ho,hk,rfl⟩:=hx.inv_sl;obtain⟨T1,ob,m1,p1,h1,r1⟩:=h.cont b _ (hD b Zs) hg;obtain rfl:=ZT hm m1;have hlen:((cs'.drop off).take (n*sz')).length=n*sz':=by simp;omega
    refine⟨hlen,.inr ⟨_,cap,rfl,?_⟩⟩;obtain⟨arr,ty,fr,rfl,hs,hbd,hpw⟩:=r1.ro_row;by_cases h0:n=0
    ·exact .inl ⟨h0,by subst h0;simp⟩
    obtain⟨e1,e2⟩:=ho Zo;refine .inr (.inr ⟨T1.c,o,arr,ty,fr,rfl,h1,((hpw.drop off).take _).congr fun i _=>?_,?_⟩)
    ·show _=arr[T1.sh+(off+i)]?;rw[e1,←YO]
    have:n*sz'≤cap*sz':=YI _ hl;omega
   cases hs
  cases hs
 cases hs
def zcH(h:Inv g base H D w){x:V}{xc:Value}{sz n:Nat}{cs:ZA}{R:ZN}(hx:VRel g x xc)(hs:zaE H x sz=some (cs,n,R))(hD:∀b∈R,D b) (w':World) (hw:w'.heap=w.heap):∃arr:Array Value,(Builtin.firstCells sz n xc).run P w'=.ok arr w'∧arr.size=cs.length∧PW g cs (fun i=>arr[i]?):=by
 obtain⟨hl,hc⟩:=zbb h hx hs hD;rcases hc with⟨rfl,rfl⟩|⟨a,cap,rfl,hc⟩
 ·refine⟨#[],rfl,by simp[hl],?_⟩;have:cs=[]:=Yz (by simpa using hl);subst this;exact PW.nil
 have hz:cs=[]→n*sz=0→∃arr:Array Value,(Builtin.firstCells sz n (.slice (some a) n cap)).run P w'=.ok arr w'∧arr.size=cs.length∧PW g cs (fun i=>arr[i]?):=by intro e e0;subst e;exact⟨#[],by simp[Builtin.firstCells,e0,loadCells,loadCellsFrom],rfl,PW.nil⟩
 rcases hc with⟨rfl,e⟩|⟨e0,e⟩|⟨c,o,arr,t,fr,rfl,hh,hpw,hb⟩
 ·exact hz e Zs
 ·exact hz e e0
 refine⟨arr.extract o (o+n*sz),?_,by simp[hl];omega,hpw.extract hl⟩;simp only[Builtin.firstCells];exact zak (by rw[hw];exact hh) hb
def zwZ {b:Nat}{cs:ZA}{T:Tgt}(h:Inv g base H D w)(hD:D b)(hm:g.mu b=some T)(hg:H.get b=some (.cells cs)∨∃t,H.get b=some (.ty t cs)):∃(arr:Array Value)(t:TypeId),w.heap[T.c]? =some (.cells arr t (0,0))∧arr.size=T.tot∧T.sh+cs.length≤T.tot∧PW g cs (fun i=>arr[T.sh+i]?):=by
 rcases hg with hg|⟨t,hg⟩
 ·obtain⟨T1,o,m1,p1,h1,r1⟩:=h.cont b _ hD hg;obtain rfl:=ZT hm m1;cases r1 with
  |cells hs hb hp=>exact⟨_,_,h1,hs,hb,hp⟩
 obtain⟨T1,o,m1,p1,h1,r1⟩:=h.cont b _ hD hg;obtain rfl:=ZT hm m1;obtain⟨arr,rfl,hs,hbd,hsh,hpw⟩:=r1.ty_row;exact⟨_,_,h1,hs,hbd,hpw⟩
def znP {t:TypeId}{k count:Nat}(hk:P.cellsOf t=k+1)(hc:1≤count):liesAt P P.depth t count 0 t 1=true:=by have hd:P.depth=(2*(P.types.size+Made.depth)+1)+1:=rfl;rw[hd];simp only[liesAt,Yaj];left;rw[hd];simp[rowAt,hk,hc,sameLayout]
def cellsOf_size {t:TypeId}{n:Nat}(h:zF P t=some n):P.cellsOf t=n:=by
 unfold zF at h;unfold Program.cellsOf;cases hi:P.info? t with
 |none=>simp[hi]at h
 |some i=>simpa[hi]using h
def xConv_ok(h:Inv g base H D w){src dst:TypeId}{x:V}{xc:Value}(hx:VRel g x xc)(hp:(XR.ar H (zeF P src dst x H)).pre)(hD:∀b∈(XR.ar H (zeF P src dst x H)).R,D b):Snd P g base H D w (XR.ar H (zeF P src dst x H)) (convert src dst xc):=by
 cases hq:zeF P src dst x H with
 |none=>rw[hq]at hp;exact hp.elim
 |some q=>
  rw[hq]at hD;clear hp;have info:∀ {u:TypeId} {n:Nat},zF P u=some n→∃i,P.info? u=some i∧i.size=n:=by
   intro u n hn;unfold zF at hn;cases hi:P.info? u with
   |none=>simp[hi]at hn
   |some i=>exact⟨i,rfl,by simpa[hi]using hn⟩
  unfold zeF at hq;split at hq
  ·rename_i u b off hs hd;have core:∀ {k:Nat} {cs:ZA},zF P u=some (k+1)→(H.get b=some (.cells cs)∨∃t,H.get b=some (.ty t cs))→off<cs.length→D b→Snd P g base H D w ⟨True,.ptr b off,H,[b],[]⟩ (convert src dst xc):=by intro k cs hk hg hlt hDb;obtain⟨T,hm,rfl⟩:=hx.inv_ptr;obtain⟨arr,t,hh,hsz,hbd,_⟩:=zwZ h hDb hm hg;obtain⟨i,hi,hn⟩:=info hk;refine Snd.val h _ (Lib.run_to_unsafe w ⟨T.c,T.sh+off,none⟩ hs hd hi Zo (e:=t) (cells:=arr.size) (by simp[World.shape?,hh]) (by show T.sh+off<arr.size;omega)) hx
   split at hq
   ·rename_i k cs hk hg;split at hq
    ·rename_i hlt;cases hq;exact core hk (.inl hg) hlt (hD b (by simp[XR.ar]))
    cases hq
   ·rename_i k t cs hk hg;split at hq
    ·rename_i hlt;cases hq;exact core hk (.inr ⟨_,hg⟩) hlt (hD b (by simp[XR.ar]))
    cases hq
   cases hq
  ·rename_i u b hs hd;split at hq
   ·rename_i k t cs hk hg;split at hq
    ·rename_i hc;cases hq;obtain⟨rfl,hlt⟩:=hc;have hDb:=hD b (by simp[XR.ar]);obtain⟨T,hm,rfl⟩:=hx.inv_ptr;obtain⟨T1,o,m1,p1,h1,r1⟩:=h.cont b _ hDb hg;obtain rfl:=ZT hm m1;obtain⟨arr,rfl,hsz,hbd,hsh,hpw⟩:=r1.ty_row;obtain⟨i,hi,hn⟩:=info hk;have hce:=cellsOf_size hk;refine Snd.val h _ (Lib.run_from_unsafe w ⟨T1.c,T1.sh+0,none⟩ hs hd hi (e:=t) (cells:=arr.size) (by simp[World.shape?,h1]) ?_) hx;show liesAt P P.depth t (arr.size/P.cellsOf t) (T1.sh+0) t 1=true;rw[hsh];exact znP hce (by rw[hce];exact(YbE Zo).2 Zo)
    cases hq
   cases hq
  ·rename_i e0 e b off n sz kc hs hd;split at hq
   ·rename_i cs hsd he hg;cases hq;have hsd:src=dst:=Yah hsd;have hDb:=hD b (by simp[XR.ar]);obtain⟨T,o,cap,hm,hl,ho,hk,rfl⟩:=hx.inv_sl;obtain⟨T1,ob,m1,p1,h1,r1⟩:=h.cont b _ hDb hg;obtain rfl:=ZT hm m1;cases r1 with
    |cells hsz hbd hpw=>
     rename_i arr t;have hlt:=(YA.1 h1).1;refine⟨g,w.freeze ⟨T1.c,arr.size,none⟩ 1,_,?_,hx,Post.put h hDb hg hm (o:=.cells arr t (arr.size,arr.size+1)) ?_ (fun c hc=>?_) ?_ rfl ⟨rfl,Yc _⟩ rfl (.ro hsz hbd hpw)⟩
     ·have hd':P.underlying dst=some (.slice e0):=by rw[←hsd];exact hs
      rw[hd]at hd';cases hd';simp[convert,run_underlying hs,run_underlying hd,run_underlying he,hsd,markStringish,World.shape?,h1]
     ·simp[World.freeze,YaF,h1]
     ·simp[World.freeze,YaF,Ne.symm hc]
     simp[World.freeze]
   cases hq
  cases hq
def aConv_ok(h:Inv g base H D w){src dst:TypeId}{x:V}{xc:Value}(hx:VRel g x xc)(hp:(zcX P src dst x H).pre)(hD:∀b∈(zcX P src dst x H).R,D b):Snd P g base H D w (zcX P src dst x H) (convert src dst xc):=by
 revert hD;unfold zcX at*;split at hp
 ·rename_i d k k' n hs hd;intro _;obtain rfl:=hx.inv_int;exact Snd.val h _ (by simp[convert,run_underlying hs,run_underlying hd,Conv.intToInt]) (.int _ _)
 ·rename_i d s hs hd;intro _;obtain⟨sb,rfl,rfl⟩:=hx.inv_str;exact Snd.val h _ (by simp[convert,run_underlying hs,run_underlying hd]) (.str rfl)
 ·rename_i e hs hd _;split at hp
  ·rename_i cs n R he hc;split at hp
   ·rename_i l hb;intro hD';obtain⟨arr,hr,hsz,hpw⟩:=zcH (P:=P) h hx hc hD' w rfl;obtain⟨hl,hcase⟩:=zbb h hx hc hD';obtain⟨ns,e1,e2⟩:=zdS hb;rcases hcase with⟨rfl,rfl⟩|⟨a,cap,rfl,_⟩
    ·refine Snd.val h _ (v:=.string .empty) ?_ (.str ?_)
     ·rw[run_convert_bytes_string w src dst e _ _ _ hs he hd];rfl
     have:cs=[]:=Yz (by simpa using hl);subst this;simp[bytesOf]at hb;subst hb;rfl
    have e3:arr.toList=ns.map (Value.int .u8):=PW.ints (by rw[YX,hsz,e1];simp) (by rw[←e1];simpa using hpw);have e4:arr=(ns.map (Value.int .u8)).toArray:=by rw[←e3]
    simp only[Builtin.firstCells,Yas]at hr;rw[e4]at hr;refine Snd.val h _ (v:=.string (ns.foldl (fun r n=>r.push (UInt8.ofNat n.toNat)) ByteArray.empty)) ?_ (.str ?_)
    ·rw[run_convert_bytes_string w src dst e _ _ _ hs he hd];exact run_bytesToString w a n cap ns hr
    rw[zsy,e2];rfl
   exact hp.elim
  exact hp.elim
 intro hD;exact xConv_ok h hx hp hD
def zuV {fs:List Field}{pl:List (Nat×Nat)}(h:placesOf P fs=some pl):fs.mapM (fun f=>(P.info? f.type).map fun i=>(f.offset,i.size))=some pl:=by rw[←h];unfold placesOf;congr 1;funext f;simp[zF,Option.map_map,Function.comp_def]
def foldl_set(xs:List Value):∀(cs:Array Value)(off j0:Nat),off+j0+xs.length≤cs.size→((xs.zipIdx j0).foldl (fun cs p=>cs.setIfInBounds (off+p.2) p.1) cs).size=cs.size∧∀k,((xs.zipIdx j0).foldl (fun cs p=>cs.setIfInBounds (off+p.2) p.1) cs)[k]? =if off+j0≤k∧k<off+j0+xs.length then xs[k-(off+j0)]? else cs[k]? :=by
 induction xs with
 |nil=>intro cs off j0 _;simp;intro k h1 h2;omega
 |cons x xs ih=>
  intro cs off j0 hb;simp only[Yv]at hb;simp only[List.zipIdx_cons,YbC];obtain⟨i1,i2⟩:=ih (cs.setIfInBounds (off+j0) x) off (j0+1) (by simp;omega);refine⟨by rw[i1];simp,fun k=>?_⟩;rw[i2 k];by_cases hk0:k=off+j0
  ·subst hk0;rw[Ye Zo,Yi Zs];simp[show off+j0<cs.size by omega]
  rw[YaE Zo];by_cases hk1:off+(j0+1)≤k∧k<off+(j0+1)+xs.length
  ·rw[Yi hk1,Yi (by simp only[Yv];omega)];rw[show k-(off+j0)=(k-(off+(j0+1)))+1 by omega,Yar]
  rw[Ye hk1,Ye (by simp only[Yv];omega)]
inductive Parts(g:G):List (Nat×V)→List (Nat×Value)→Prop
 |nil:Parts g [] []
 |cons {i:Nat} {x:V} {v:Value} {l:List (Nat×V)} {r:List (Nat×Value)} (h:VRel g x v) (t:Parts g l r):Parts g ((i,x)::l) ((i,v)::r)
def fill_ok {place:Nat→Option (Nat×Nat)}:∀ {parts:List (Nat×V)} {pc:List (Nat×Value)} {cells cs:ZA} {arr:Array Value},Parts g parts pc→zdd place cells parts=some cs→arr.size=cells.length→PW g cells (fun i=>arr[i]?)→∃arr':Array Value,Instr.fill place arr pc=some arr'∧arr'.size=cs.length∧PW g cs (fun i=>arr'[i]?)
 |[],_,cells,cs,arr,.nil,h,hs,hp=>by simp[zdd]at h;subst h;exact⟨arr,rfl,hs,hp⟩
 |(i,x)::parts,_,cells,cs,arr,.cons (v:=v) (r:=r) hx ht,h,hs,hp=>by
  unfold zdd at h;cases hpl:place i with
  |none=>simp[hpl]at h
  |some os=>
   obtain⟨off,size⟩:=os;simp only[hpl]at h;split at h
   ·rename_i hc;obtain⟨hok,hl,hb⟩:=hc;obtain⟨hvs,hvp,_⟩:=zai hx hok;obtain⟨f1,f2⟩:=foldl_set v.cells.toList arr off 0 (by rw[YX,hvs];omega);have e:v.cells.zipIdx.foldl (fun cs (p:Value×Nat)=>cs.setIfInBounds (off+p.2) p.1) arr=(v.cells.toList.zipIdx 0).foldl (fun cs p=>cs.setIfInBounds (off+p.2) p.1) arr:=by rw[←Array.foldl_toList];simp
    obtain⟨arr',h1,h2,h3⟩:=fill_ok (arr:=(v.cells.toList.zipIdx 0).foldl (fun cs p=>cs.setIfInBounds (off+p.2) p.1) arr) ht h (by rw[zbV Zo,←hs];exact f1)
     (PW.put hp (vs:=v.cells.toList) (by simpa using hvp) (by rw[YX,hvs]) Zo fun k=>by show _=_;rw[f2 k];simp only[YS,YX,hvs])
    refine⟨arr',?_,h2,h3⟩;rw[Instr.fill];simp only[hpl];have hcond:¬(v.cells.size≠size∨off+v.cells.size>arr.size):=by rw[hvs,hs];omega
    rw[Ye (by simpa using hcond)];rw[←e]at h1;exact h1
   cases h
def zi4 {t:TypeId}{z:Value}(h:zaw P t=some z):∃i,P.info? t=some i∧i.zero=some z:=by
 unfold zaw at h;cases hi:P.info? t with
 |none=>simp[hi]at h
 |some i=>exact⟨i,rfl,by simpa[hi]using h⟩
def size_of {t:TypeId}{n:Nat}(h:zF P t=some n):∃i,P.info? t=some i∧i.size=n:=by
 unfold zF at h;cases hi:P.info? t with
 |none=>simp[hi]at h
 |some i=>exact⟨i,rfl,by simpa[hi]using h⟩
def zqP(h:Inv g base H D w){t:TypeId}{parts:List (Nat×V)}{pc:Array (Nat×Value)}(hpc:Parts g parts pc.toList)(hp:(XR.ar H (zc2 P t parts H)).pre):Snd P g base H D w (XR.ar H (zc2 P t parts H)) (Instr.build t pc):=by
 cases hq:zc2 P t parts H with
 |none=>rw[hq]at hp;exact hp.elim
 |some q=>
  unfold zc2 at hq;split at hq;rotate_left;·cases hq
  rename_i n e hu;split at hq;rotate_left;·cases hq
  rename_i z s hz hs;split at hq;rotate_left;·cases hq
  rename_i cs hok hf;cases hq;obtain⟨zs,zp,_⟩:=zai (zdn g z) hok;obtain⟨arr,h1,h2,h3⟩:=fill_ok (arr:=z.cells) hpc hf zs zp;obtain⟨i,hi,hiz⟩:=zi4 hz;obtain⟨ie,hie,hse⟩:=size_of hs;refine Snd.val h _ (v:=.agg arr) (run_build w t pc arr ?_) (Xj h2 h3);unfold Program.built;simp only[hi,hu,hiz,hie,hse];exact h1
def zyM(h:Inv g base H D w){t:TypeId}{parts:List (Nat×V)}{pc:Array (Nat×Value)}(hpc:Parts g parts pc.toList)(hp:(zdp P t parts H).pre):Snd P g base H D w (zdp P t parts H) (Instr.build t pc):=by
 unfold zdp at*;split at hp
 ·rename_i z fs hz hu;split at hp
  ·rename_i pl hpl;split at hp
   ·rename_i cs hf;obtain⟨zs,zp,_⟩:=zai (zdn g z) hp;obtain⟨arr,h1,h2,h3⟩:=fill_ok (arr:=z.cells) hpc hf zs zp;obtain⟨i,hi,hiz⟩:=zi4 hz;refine Snd.val h _ (v:=.agg arr) (run_build w t pc arr ?_) (Xj h2 h3);unfold Program.built;simp only[hi,hu,hiz,zuV hpl];have:(fun i:Nat=>pl.toArray[i]?)=(fun i:Nat=>pl[i]?):=by funext i;simp
    rw[this];exact h1
   exact hp.elim
  exact hp.elim
 exact zqP h hpc hp
def flat_get {α:Type}(l:List α):∀(n i:Nat),i<n*l.length→(List.replicate n l).flatten[i]? =l[i%l.length]?
 |0,i,h=>by simp at h
 |n+1,i,h=>by
  rw[Ya6,List.flatten_cons];by_cases hi:i<l.length
  ·rw[YP hi,Ybi hi]
  rw[Yak Zo,flat_get l n (i-l.length) (by rw[Y5]at h;omega)];rw[Nat.mod_eq_sub_mod (a:=i) Zo]
def zf1 {e:TypeId}{z:Value}{s n:Nat}(hz:zaw P e=some z)(hs:zF P e=some s)(hok:zt (cv z)=true)(hl:(cv z).cellsV.length=s):(zbe P e n).length=n*s∧PW g (zbe P e n) (fun i=>(madeCells z.cells (n*s))[i]?):=by
 obtain⟨zs,zp,_⟩:=zai (zdn g z) hok;have gen:∀l:ZA,l.length=n*s→(∀i,i<n*s→l[i]? =(cv z).cellsV[i%s]?)→PW g l (fun i=>(madeCells z.cells (n*s))[i]?):=by
  intro l hll hg i x hx;have hi:i<n*s:=by by_cases hh:i<l.length;omega;simp[Yo (Y3 hh)]at hx
  rw[hg i hi]at hx;obtain⟨v,hv,r⟩:=zp _ _ hx;refine⟨v,?_,r⟩;have hv':z.cells[i%s]? =some v:=hv;have hm:i%s<z.cells.size:=(YA.1 hv').1;show (madeCells z.cells (n*s))[i]? =some v;simp only[madeCells,Yby,Array.getElem?_range,hi,if_true,Yap];rw[zs,hl,getElem!_pos z.cells (i%s) hm,(YA.1 hv').2]
 unfold zbe;rw[hz];dsimp only;split
 ·rename_i c hc;have h1:s=1:=by rw[←hl,hc];rfl
  subst h1;refine⟨Zs,gen _ Zs fun i hi=>?_⟩;have hi':i<n:=Zo;rw[hc];simp[Nat.mod_one,hi']
 refine⟨by rw[List.length_flatten];simp[hl],gen _ (by rw[List.length_flatten];simp[hl]) fun i hi=>?_⟩;rw[flat_get _ _ _ (by rw[hl];exact hi),hl]
def zie(h:Inv g base H D w){t:TypeId}{len:Nat}{parts:List (Nat×V)}{pc:Array (Nat×Value)}(hpc:Parts g parts pc.toList)(hp:(zS P t len parts H).pre):Snd P g base H D w (zS P t len parts H) (Instr.buildSlice t len pc):=by
 unfold zS at*;split at hp
 ·rename_i e he;split at hp
  ·rename_i s z hs hz;split at hp
   ·rename_i cs hf;obtain⟨hok,hl,hb⟩:=hp;obtain⟨zl,zp⟩:=zf1 (g:=g) (n:=len) hz hs hok hl;obtain⟨arr,h1,h2,h3⟩:=fill_ok (arr:=madeCells z.cells (len*s)) hpc hf (by rw[size_madeCells,zl]) zp;have hlen:cs.length=len*s:=by
     have:∀ {parts:List (Nat×V)} {cells cs:ZA} {place:Nat→Option (Nat×Nat)},zdd place cells parts=some cs→cs.length=cells.length:=by
      intro parts;induction parts with
      |nil=>intro cells cs place h;simp[zdd]at h;rw[h]
      |cons p parts ih=>
       intro cells cs place h;obtain⟨i,x⟩:=p;unfold zdd at h;cases hpl:place i with
       |none=>simp[hpl]at h
       |some os=>
        simp only[hpl]at h;split at h
        ·rename_i hc;rw[ih h,zbV Zo]
        cases h
     rw[this hf,zl]
    refine⟨_,w.alloc (.cells arr e),.slice (some ⟨w.heap.size,0,none⟩) len len,?_,?_,Post.new h (o:=.cells arr e) (tot:=arr.size) rfl rfl ⟨rfl,Yc _⟩ rfl (.cells rfl (by simp[h2]) (by simpa using h3))⟩
    ·unfold Instr.buildSlice;rw[Sem.run_bind,run_underlying (zde he)];simp only[Result.andThen_ok];rw[Sem.run_bind,zah hs];simp only[Result.andThen_ok];rw[Ye Zo];by_cases h0:len*s=0
     ·have hm:(Array.range (len*s)).map ((#[]:Array Value)[· % (#[]:Array Value).size]!)=madeCells z.cells (len*s):=by rw[h0];simp[madeCells]
      rw[Yi h0,Sem.run_bind,Sem.run_pure];simp only[Result.andThen_ok];rw[hm,h1];simp[newRow]
     rw[Ye h0,Sem.run_bind,za5 hz];simp only[Result.andThen_ok,Sem.run_bind,Sem.run_pure];have hm:(Array.range (len*s)).map (z.cells[· % z.cells.size]!)=madeCells z.cells (len*s):=rfl;rw[hm,h1];simp[newRow]
    refine .sl (T:=⟨w.heap.size,0,arr.size⟩) (by simp[G.add]) (Yc _) (fun _=>⟨rfl,?_⟩) (fun k e=>by cases e;rfl);show 0+len*s≤arr.size;omega
   exact hp.elim
  exact hp.elim
 exact hp.elim
def zn4 {t:TypeId}{n b:Nat}{k:Bool}(h:zho P t=some (n,b,k)):∃i,P.info? t=some i∧i.size=n∧i.bytes=b∧(k=true→∃z,i.zero=some z∧z.cells.size=i.size):=by
 unfold zho at h;cases hi:P.info? t with
 |none=>simp[hi]at h
 |some i=>
  simp only[hi,Yap,Yx,Ybc]at h;refine⟨i,rfl,h.1,h.2.1,fun hk=>?_⟩;subst hk;have:=h.2.2;cases hz:i.zero with
  |none=>simp[hz]at this
  |some z=>exact⟨z,rfl,by simpa[hz]using this⟩
def zkK(h:Inv g base H D w){t:TypeId}{l c:V}{lc cc:Value}(hl:VRel g l lc)(hc:VRel g c cc)(hp:(zaJ P t l c H).pre):Snd P g base H D w (zaJ P t l c H) (Instr.makeSlice t lc cc):=by
 unfold zaJ at*;split at hp
 ·rename_i e k l k' c he;split at hp
  ·rename_i isz ib zok z hif hz;obtain⟨i,hi,rfl,rfl,_⟩:=zn4 hif;obtain⟨hok,hlen,h1,h2,h3,h4⟩:=hp;obtain rfl:=hl.inv_int;obtain rfl:=hc.inv_int;obtain⟨i',hi',hiz⟩:=zi4 hz;obtain rfl:i'=i:=by rw[hi]at hi';exact(Yh hi').symm
   have hs:zF P e=some i'.size:=by simp[zF,hi]
   obtain⟨zl,zp⟩:=zf1 (g:=g) (n:=c.toNat) hz hs hok hlen;refine⟨_,w.alloc (.cells (madeCells z.cells (c.toNat*i'.size)) e),_,run_make w t e i' z (zde he) hi hiz k k' l c h1 h2 h4 h3,?_,
    Post.new h (o:=.cells (madeCells z.cells (c.toNat*i'.size)) e) (tot:=c.toNat*i'.size) rfl rfl ⟨rfl,Yc _⟩ rfl (.cells (size_madeCells _ _) (by simp[zl]) (by simpa using zp))⟩
   exact .sl (T:=⟨w.heap.size,0,c.toNat*i'.size⟩) (by simp[G.add]) Zo (fun _=>⟨rfl,Zs⟩) (fun k e=>by cases e;rfl)
  exact hp.elim
 exact hp.elim
end
end Go.Ab
