/- The operations' soundness, third part: strings and slices cut, converted, made. -/
import Derived.Test.YthbimeikbkjnkaaGreatDoorAbOpOk1
import Derived.Laws.MakeOwn
import Derived.Laws.BytesString
import Derived.Laws.Tables
import Derived.Lib.Builder
import Derived.Lib.UnsafeStr
set_option linter.all false
set_option maxHeartbeats 16000000
set_option maxRecDepth 100000
namespace Go.Ab
def ORel(g:G):Option V→Option Value→Prop
 |none,none=>True
 |some v,some c=>VRel g v c
 |_,_=>False
def Bnd(oc:Option Value)(d n:Int):Prop:=(oc=none∧n=d)∨∃ k,oc=some (.int k n)
theorem Bnd.of {g:G}{o:Option V}{oc:Option Value}{d n:Int}(h:ORel g o oc)(e:bnd o d=some n):Bnd oc d n:=by
 cases o with
 |none=>
  cases oc with
  |none=>simp [bnd]at e;exact .inl ⟨rfl,e.symm⟩
  |some c=>exact h.elim
 |some v=>
  cases oc with
  |none=>exact h.elim
  |some c=>cases v<;>simp [bnd]at e;subst e;exact .inr ⟨_,by rw [VRel.inv_int h]⟩
section
variable {P:Program}{g:G}{base:Nat}{H:Hp}{D:Nat→Prop}{w:World}
theorem run_sliceBound {k:IntKind}{n:Int}{y:Nat}{code:BoundsCode}(h0:0≤n)(h1:n≤y):(Instr.sliceBound (.int k n) y code).run P w=.ok n.toNat w:=by simp [Instr.sliceBound,asIntOf,h0,h1]
theorem zcG {isS:Bool}{len cap:Nat}{lc hc:Option Value}{l h:Int}(el:Bnd lc 0 l)(eh:Bnd hc len h)
 (h0:0≤l) (h1:l≤h) (h2:h≤cap):(Instr.sliceBounds isS len cap lc hc none).run P w=.ok (l.toNat,h.toNat,cap) w:=by
 unfold Instr.sliceBounds
 have e0:∀ code,(Instr.sliceBound (.int .i64 0) h.toNat code).run P w=.ok 0 w:=fun code=>run_sliceBound (by omega) (by omega)
 rcases eh with⟨rfl,rfl⟩|⟨k,rfl⟩<;>rcases el with⟨rfl,rfl⟩|⟨k',rfl⟩
 ·simp only [Sem.run_bind,Sem.run_pure,Result.andThen_ok];rfl
 ·have e1:∀ code,(Instr.sliceBound (.int k' l) len code).run P w=.ok l.toNat w:=fun code=>run_sliceBound h0 h1
  simp only [Sem.run_bind,Sem.run_pure,Result.andThen_ok,e1];rfl
 ·have e2:∀ code,(Instr.sliceBound (.int k h) cap code).run P w=.ok h.toNat w:=fun code=>run_sliceBound (by omega) h2
  simp only [Sem.run_bind,Sem.run_pure,Result.andThen_ok,e2];rfl
 ·have e2:∀ code,(Instr.sliceBound (.int k h) cap code).run P w=.ok h.toNat w:=fun code=>run_sliceBound (by omega) h2
  have e1:∀ code,(Instr.sliceBound (.int k' l) h.toNat code).run P w=.ok l.toNat w:=fun code=>run_sliceBound h0 (by omega)
  simp only [Sem.run_bind,Sem.run_pure,Result.andThen_ok,e1,e2]
theorem zgH {len cap:Nat}{lc:Option Value}{k k':IntKind}{l h m:Int}(el:Bnd lc 0 l)
 (h0:0≤l) (h1:l≤h) (h2:h≤m) (h3:m≤cap):(Instr.sliceBounds true len cap lc (some (.int k h)) (some (.int k' m))).run P w=.ok (l.toNat,h.toNat,m.toNat) w:=by
 unfold Instr.sliceBounds
 have e1:∀ code,(Instr.sliceBound (.int k' m) cap code).run P w=.ok m.toNat w:=fun code=>run_sliceBound (by omega) h3
 have e2:∀ code,(Instr.sliceBound (.int k h) m.toNat code).run P w=.ok h.toNat w:=fun code=>run_sliceBound (by omega) (by omega)
 rcases el with⟨rfl,rfl⟩|⟨k2,rfl⟩
 ·simp only [Sem.run_bind,Sem.run_pure,Result.andThen_ok,e1,e2];rfl
 ·have e3:∀ code,(Instr.sliceBound (.int k2 l) h.toNat code).run P w=.ok l.toNat w:=fun code=>run_sliceBound h0 (by omega)
  simp only [Sem.run_bind,Sem.run_pure,Result.andThen_ok,e1,e2,e3]
theorem zdw {t:TypeId}{d:TypeDesc}{xc:Value}{lc hc mc:Option Value}(hu:P.underlying t=some d)(hne:∀ n e,d≠.array n e):
 (Instr.sliceAt t xc lc hc mc).run P w=(Instr.slice t xc lc hc mc).run P w:=by
 simp only [Instr.sliceAt,Sem.run_bind,run_underlying hu,Result.andThen_ok]
theorem zkv {t:TypeId}{s:ByteArray}{lc hc:Option Value}{l h:Int}(hu:P.underlying t=some .string)(el:Bnd lc 0 l)(eh:Bnd hc s.size h)
 (h0:0≤l) (h1:l≤h) (h2:h≤s.size):(Instr.sliceAt t (.string s) lc hc none).run P w=.ok (.string (s.extract l.toNat h.toNat)) w:=by
 rw [zdw hu (by simp)]
 simp only [Instr.slice,Sem.run_bind,run_underlying hu,Result.andThen_ok,YcL,YO,if_false,Sem.run_pure,zcG el eh h0 h1 h2]
theorem zd7 {t e:TypeId}{sz:Nat}{a:Option Addr}{len cap:Nat}{lc hc:Option Value}{l h:Int}(hu:P.underlying t=some (.slice e))(hn:zJ P e=some sz)
 (el:Bnd lc 0 l) (eh:Bnd hc len h) (h0:0≤l) (h1:l≤h) (h2:h≤cap):
 (Instr.sliceAt t (.slice a len cap) lc hc none).run P w=.ok (.slice (if cap=l.toNat then a else a.map (·.add (l.toNat*sz))) (h.toNat - l.toNat) (cap - l.toNat)) w:=by
 rw [zdw hu (by simp)]
 simp only [Instr.slice,Sem.run_bind,run_underlying hu,Result.andThen_ok,Sem.run_pure,zcG el eh h0 h1 h2,zan hn]
theorem zkw {t e:TypeId}{sz:Nat}{a:Option Addr}{len cap:Nat}{lc:Option Value}{k k':IntKind}{l h m:Int}(hu:P.underlying t=some (.slice e))(hn:zJ P e=some sz)
 (el:Bnd lc 0 l) (h0:0≤l) (h1:l≤h) (h2:h≤m) (h3:m≤cap):
 (Instr.sliceAt t (.slice a len cap) lc (some (.int k h)) (some (.int k' m))).run P w=.ok (.slice (if m.toNat=l.toNat then a else a.map (·.add (l.toNat*sz))) (h.toNat - l.toNat) (m.toNat - l.toNat)) w:=by
 rw [zdw hu (by simp)]
 simp only [Instr.slice,Sem.run_bind,run_underlying hu,Result.andThen_ok,Sem.run_pure,zgH el h0 h1 h2 h3,zan hn]
theorem zkx {t e:TypeId}{n sz:Nat}{a:Addr}{lc hc:Option Value}{l h:Int}(hu:P.underlying t=some (.array n e))(hn:zJ P e=some sz)
 (el:Bnd lc 0 l) (eh:Bnd hc n h) (h0:0≤l) (h1:l≤h) (h2:h≤n):
 (Instr.sliceAt t (.pointer (some a)) lc hc none).run P w=.ok (.slice (some (if n=l.toNat then a else a.add (l.toNat*sz))) (h.toNat - l.toNat) (n - l.toNat)) w:=by
 simp only [Instr.sliceAt,Sem.run_bind,run_underlying hu,Result.andThen_ok,Instr.sureAddr,Sem.run_pure,zcG el eh h0 h1 h2,zan hn]
theorem zcZ(s:ByteArray)(l h:Nat):(s.extract l h).data.toList=(s.data.toList.take h).drop l:=by rw [ByteArray.data_extract,Array.toList_extract];rw [List.extract_eq_take_drop,Yb9]
theorem zBV(hI:Inv g base H D w){t:TypeId}{x:V}{lo hi mx:Option V}{xc:Value}{lc hc mc:Option Value}(hx:VRel g x xc)
 (hl:ORel g lo lc) (hh:ORel g hi hc) (hm:ORel g mx mc)
 (hp:(za3 P t x lo hi mx H).pre) (hD:∀ b∈(za3 P t x lo hi mx H).R,D b):Snd P g base H D w (za3 P t x lo hi mx H) (Instr.sliceAt t xc lc hc mc):=by
 unfold za3 at*
 split at hp
 ·rename_i s hu
  obtain rfl:mc=none:=by cases mc;rfl;exact hm.elim
  obtain⟨sb,rfl,rfl⟩:=hx.inv_str
  split at hp
  ·rename_i l h el eh
   obtain⟨h0,h1,h2⟩:=hp
   have hsz:=zdc sb
   refine Snd.val hI _ (zkv hu (Bnd.of hl el) (by rw [hsz];exact Bnd.of hh eh) h0 h1 (by omega)) (.str ?_)
   exact zcZ _ _ _
  ·exact hp.elim
 ·rename_i e hu
  obtain rfl:mc=none:=by cases mc;rfl;exact hm.elim
  cases hx
  split at hp
  ·rename_i sz l h hn el eh
   obtain⟨rfl,rfl⟩:=hp
   exact Snd.val hI _ (zd7 hu hn (Bnd.of hl el) (Bnd.of hh eh) (by omega) (by omega) (by omega)) .nilS
  ·exact hp.elim
 ·rename_i e cs len hu
  obtain rfl:mc=none:=by cases mc;rfl;exact hm.elim
  obtain⟨a,cap,rfl,hlc,hcase⟩:=hx.inv_fs
  split at hp
  ·rename_i sz l h hn el eh
   obtain⟨h0,h1,h2,h3⟩:=hp
   refine Snd.val hI _ (zd7 hu hn (Bnd.of hl el) (Bnd.of hh eh) h0 h1 (by omega)) ?_
   rcases hcase with⟨rfl,rfl,ha⟩|⟨c,o,arr,rfl,hphi,hpw⟩
   ·obtain rfl:h=0:=by omega
    obtain rfl:l=0:=by omega
    simp only [Int.toNat_zero,Ybm,List.take_nil,List.drop_nil,Ybp,Ybo]
    split
    ·exact .fs0 ha
    ·exact .fs0 (by cases a<;>simp_all)
   ·split
    ·rename_i hc
     have e1:h.toNat=l.toNat:=by omega
     rw [e1,Ybp,hc,Ybp]
     have:(cs.take (l.toNat*sz)).drop (l.toNat*sz)=[]:=by apply YbZ;rw [YG];omega
     rw [this]
     exact .fs0 (by simp)
    ·rw [Yao,zbi]
     refine VRel.mk_fs hphi (by omega) (((hpw.take (h.toNat*sz)).drop (l.toNat*sz)).congr fun i _=>?_)
     show _=arr[o+(l.toNat*sz+i)]?
     rw [←YN]
  ·exact hp.elim
 ·rename_i e b off len sz' kc hu
  obtain rfl:mc=none:=by cases mc;rfl;exact hm.elim
  obtain⟨T,o,cap,hmu,hlc,ho,hk,rfl⟩:=hx.inv_sl
  split at hp
  ·rename_i sz l h hn el eh
   obtain⟨rfl,h0,h1,h2⟩:=hp
   have hcap:h≤cap:=by
    cases kc with
    |none=>simp only [YcS]at h2;omega
    |some k=>have:=hk k rfl;simp only [YbT]at h2;omega
   refine Snd.val hI _ (zd7 hu hn (Bnd.of hl el) (Bnd.of hh eh) h0 h1 hcap) ?_
   have key:∀ o',(cap - l.toNat≠0→o'=o+l.toNat*sz')→
    VRel g (.sl b (off+l.toNat*sz') (h.toNat - l.toNat) sz' (kc.map (· - l.toNat))) (.slice (some ⟨T.c,o',none⟩) (h.toNat - l.toNat) (cap - l.toNat)):=by
    intro o' ho'
    refine .sl hmu (by omega) (fun hne=>?_) (fun k e=>?_)
    ·obtain⟨e1,e2⟩:=ho (by omega)
     rw [ho' hne,e1]
     refine⟨by omega,?_⟩
     rw [e1]at e2
     have:l.toNat*sz'+(cap - l.toNat)*sz'=cap*sz':=by rw [←YV];congr 1;omega
     omega
    ·cases kc with
     |none=>cases e
     |some k'=>simp only [Yao,Yv]at e;rw [←e,hk k' rfl]
   split
   ·exact key o fun hne=>by omega
   ·rw [Yao,zbi];exact key _ fun _=>rfl
  ·exact hp.elim
 ·rename_i e b off len sz' kc m hu
  obtain⟨T,o,cap,hmu,hlc,ho,hk,rfl⟩:=hx.inv_sl
  cases mc with
  |none=>exact hm.elim
  |some mv=>
   split at hp
   ·rename_i sz l h m' hiv hn el em eh
    obtain⟨rfl,h0,h1,h2,h3⟩:=hp
    have hcap:m'≤cap:=by
     cases kc with
     |none=>simp only [YcS]at h3;omega
     |some k=>have:=hk k rfl;simp only [YbT]at h3;omega
    cases hc with
    |none=>exact hh.elim
    |some hv=>
     rcases Bnd.of (o:=some m) (oc:=some mv) hm em with⟨e1,_⟩|⟨k1,e1⟩
     ·cases e1
     cases e1
     rcases Bnd.of hh eh with⟨e2,_⟩|⟨k2,e2⟩
     ·cases e2
     cases e2
     refine Snd.val hI _ (zkw hu hn (Bnd.of hl el) h0 h1 h2 hcap) ?_
     have key:∀ o',(m'.toNat - l.toNat≠0→o'=o+l.toNat*sz')→
      VRel g (.sl b (off+l.toNat*sz') (h.toNat - l.toNat) sz' (some (m'.toNat - l.toNat))) (.slice (some ⟨T.c,o',none⟩) (h.toNat - l.toNat) (m'.toNat - l.toNat)):=by
      intro o' ho'
      refine .sl hmu (by omega) (fun hne=>?_) (fun k e=>by cases e;rfl)
      obtain⟨e1,e2⟩:=ho (by omega)
      rw [ho' hne,e1]
      refine⟨by omega,?_⟩
      rw [e1]at e2
      have:l.toNat*sz'+(m'.toNat - l.toNat)*sz'≤cap*sz':=by rw [←YV];exact YH _ (by omega)
      omega
     split
     ·exact key o fun hne=>by omega
     ·rw [Yao,zbi];exact key _ fun _=>rfl
   ·exact hp.elim
 ·rename_i n e b off hu
  obtain rfl:mc=none:=by cases mc;rfl;exact hm.elim
  obtain⟨T,hmu,rfl⟩:=hx.inv_ptr
  split at hp
  ·rename_i sz l h cs hn el eh hg
   obtain⟨h0,h1,h2,h3⟩:=hp
   have hDb:D b:=by simp only [hu,hn,el,eh,hg]at hD;exact hD b (by simp)
   obtain⟨T1,o,m1,p1,hw1,r1⟩:=hI.cont b _ hDb hg
   obtain rfl:T1=T:=by rw [hmu]at m1;exact(Yl m1).symm
   cases r1 with
   |cells hs hb hpw=>
    refine Snd.val hI _ (zkx hu hn (Bnd.of hl el) (Bnd.of hh eh) h0 h1 h2) ?_
    have hmul:l.toNat*sz+(n - l.toNat)*sz=n*sz:=by rw [←YV];congr 1;omega
    have key:∀ o',(n - l.toNat≠0→o'=T1.sh+off+l.toNat*sz)→
     VRel g (.sl b (off+l.toNat*sz) (h.toNat - l.toNat) sz (some (n - l.toNat))) (.slice (some ⟨T1.c,o',none⟩) (h.toNat - l.toNat) (n - l.toNat)):=by
     intro o' ho'
     refine .sl hmu (by omega) (fun hne=>?_) (fun k e=>by rw [Yv]at e;exact e)
     rw [ho' hne]
     exact⟨by omega,by omega⟩
    split
    ·exact key _ fun hne=>by omega
    ·rw [zbi];exact key _ fun _=>rfl
  ·exact hp.elim
 ·exact hp.elim
end
end Go.Ab

namespace Go.Ab
section
variable {P:Program}{g:G}{base:Nat}{H:Hp}{D:Nat→Prop}{w:World}
theorem zer:∀ {cs:List V} {l:List UInt8},bytesOf cs=some l→∃ ns:List Int,cs=ns.map (V.int .u8)∧l=ns.map fun n=>UInt8.ofNat n.toNat
 |[],l,h=>by simp [bytesOf]at h;exact⟨[],rfl,by rw [h];rfl⟩
 |x::r,l,h=>by
  unfold bytesOf at h;split at h
  ·rename_i e;cases e
  ·rename_i n r' e;cases e;cases hb:bytesOf r with
   |none=>rw [hb]at h;cases h
   |some l'=>rw [hb]at h;obtain⟨ns,e1,e2⟩:=zer hb;simp only [Yao,Yv]at h;exact⟨n::ns,by simp [e1],by rw [←h,e2];rfl⟩
  ·cases h
theorem PW.ints {ns:List Int}{k:IntKind}{l:List Value}(hl:l.length=ns.length)(p:PW g (ns.map (V.int k)) (fun i=>l[i]?)):l=ns.map (Value.int k):=by
 apply YaU;intro i;by_cases hi:i<ns.length
 ·obtain⟨v,hv,r⟩:=p i (.int k ns[i]) (by simp [hi]);have hv':l[i]? =some v:=hv;rw [hv',r.inv_int];simp [hi]
 ·rw [Ys (by omega),Ys (by simp;omega)]
theorem zuT(ns:List Int):∀ s:ByteArray,(ns.foldl (fun r n=>r.push (UInt8.ofNat n.toNat)) s).data.toList=s.data.toList++ns.map fun n=>UInt8.ofNat n.toNat:=by
 induction ns with
 |nil=>intro s;simp
 |cons n ns ih=>intro s;rw [Ycl,ih];simp [ByteArray.push]
theorem zbp(h:Inv g base H D w){x:V}{xc:Value}{sz n:Nat}{cs:List V}{R:List Nat}(hx:VRel g x xc)(hs:zbc H x sz=some (cs,n,R))(hD:∀ b∈R,D b):
 cs.length=n*sz∧((xc=.slice none 0 0∧n=0)∨∃(a:Addr) (cap:Nat),xc=.slice (some a) n cap∧
  ((n=0∧cs=[])∨(n*sz=0∧cs=[])∨∃ c o arr t fr,a=⟨c,o,none⟩∧w.heap[c]? =some (.cells arr t fr)∧PW g cs (fun i=>arr[o+i]?)∧o+n*sz≤arr.size)):=by
 unfold zbc at hs
 split at hs
 ·cases hs;cases hx;exact⟨by simp,.inl ⟨rfl,rfl⟩⟩
 ·split at hs
  ·rename_i cs' n' hl
   cases hs
   obtain⟨a,cap,rfl,_,hcase⟩:=hx.inv_fs
   rcases hcase with⟨rfl,rfl,ha⟩|⟨c,o,arr,rfl,hphi,hpw⟩
   ·cases a with
    |none=>obtain rfl:=ha rfl;exact⟨hl,.inl ⟨rfl,rfl⟩⟩
    |some a=>exact⟨hl,.inr ⟨a,cap,rfl,.inl ⟨rfl,rfl⟩⟩⟩
   ·refine⟨hl,.inr ⟨_,cap,rfl,?_⟩⟩
    obtain⟨t,fr,hh⟩:=h.frz _ _ hphi
    by_cases h0:cs=[]
    ·subst h0;exact .inr (.inl ⟨by simpa using hl.symm,rfl⟩)
    ·exact .inr (.inr ⟨c,o,arr,t,fr,rfl,hh,hpw,by rw [←hl];exact hpw.size h0⟩)
  ·cases hs
 ·rename_i b off n' sz' kc
  split at hs
  ·rename_i cs' hg
   split at hs
   ·rename_i hb
    cases hs
    obtain⟨rfl,hb⟩:=hb
    obtain⟨T,o,cap,hm,hl,ho,hk,rfl⟩:=hx.inv_sl
    obtain⟨T1,ob,m1,p1,h1,r1⟩:=h.cont b _ (hD b (by simp)) hg
    obtain rfl:T1=T:=by rw [hm]at m1;exact(Yl m1).symm
    have hlen:((cs'.drop off).take (n*sz')).length=n*sz':=by simp;omega
    refine⟨hlen,.inr ⟨_,cap,rfl,?_⟩⟩
    cases r1 with
    |cells hs hbd hpw=>
     rename_i arr t
     by_cases h0:n=0
     ·exact .inl ⟨h0,by subst h0;simp⟩
     ·obtain⟨e1,e2⟩:=ho (by omega)
      refine .inr (.inr ⟨T1.c,o,arr,t,(0,0),rfl,h1,((hpw.drop off).take _).congr fun i _=>?_,?_⟩)
      ·show _=arr[T1.sh+(off+i)]?
       rw [e1, ←YN]
      ·have:n*sz'≤cap*sz':=YH _ hl
       omega
   ·cases hs
  ·rename_i ty cs' hg
   split at hs
   ·rename_i hb
    cases hs
    obtain⟨rfl,hb⟩:=hb
    obtain⟨T,o,cap,hm,hl,ho,hk,rfl⟩:=hx.inv_sl
    obtain⟨T1,ob,m1,p1,h1,r1⟩:=h.cont b _ (hD b (by simp)) hg
    obtain rfl:T1=T:=by rw [hm]at m1;exact(Yl m1).symm
    have hlen:((cs'.drop off).take (n*sz')).length=n*sz':=by simp;omega
    refine⟨hlen,.inr ⟨_,cap,rfl,?_⟩⟩
    obtain⟨arr,rfl,hs,hbd,hsh,hpw⟩:=r1.ty_row
    by_cases h0:n=0
    ·exact .inl ⟨h0,by subst h0;simp⟩
    ·obtain⟨e1,e2⟩:=ho (by omega)
     refine .inr (.inr ⟨T1.c,o,arr,ty,(0,0),rfl,h1,((hpw.drop off).take _).congr fun i _=>?_,?_⟩)
     ·show _=arr[T1.sh+(off+i)]?
      rw [e1, ←YN]
     ·have:n*sz'≤cap*sz':=YH _ hl
      omega
   ·cases hs
  ·cases hs
 ·cases hs
theorem zdd(h:Inv g base H D w){x:V}{xc:Value}{sz n:Nat}{cs:List V}{R:List Nat}(hx:VRel g x xc)(hs:zbc H x sz=some (cs,n,R))(hD:∀ b∈R,D b)
 (w':World) (hw:w'.heap=w.heap):
 ∃ arr:Array Value,(Builtin.firstCells sz n xc).run P w'=.ok arr w'∧arr.size=cs.length∧PW g cs (fun i=>arr[i]?):=by
 obtain⟨hl,hc⟩:=zbp h hx hs hD
 rcases hc with⟨rfl,rfl⟩|⟨a,cap,rfl,hc⟩
 ·refine⟨#[],rfl,by simp [hl],?_⟩
  have:cs=[]:=Yr (by simpa using hl)
  subst this;exact PW.nil
 ·have hz:cs=[]→n*sz=0→∃ arr:Array Value,(Builtin.firstCells sz n (.slice (some a) n cap)).run P w'=.ok arr w'∧arr.size=cs.length∧PW g cs (fun i=>arr[i]?):=by
   intro e e0
   subst e
   exact⟨#[],by simp [Builtin.firstCells,e0,loadCells,loadCellsFrom],rfl,PW.nil⟩
  rcases hc with⟨rfl,e⟩|⟨e0,e⟩|⟨c,o,arr,t,fr,rfl,hh,hpw,hb⟩
  ·exact hz e (by simp)
  ·exact hz e e0
  ·refine⟨arr.extract o (o+n*sz),?_,by simp [hl];omega,hpw.extract hl⟩
   simp only [Builtin.firstCells]
   exact zaB (by rw [hw];exact hh) hb
theorem zzT {b:Nat}{cs:List V}{T:Tgt}(h:Inv g base H D w)(hD:D b)(hm:g.mu b=some T)(hg:H.get b=some (.cells cs)∨∃ t,H.get b=some (.ty t cs)):
 ∃(arr:Array Value) (t:TypeId),w.heap[T.c]? =some (.cells arr t (0,0))∧arr.size=T.tot∧T.sh+cs.length≤T.tot∧PW g cs (fun i=>arr[T.sh+i]?):=by
 rcases hg with hg|⟨t,hg⟩
 ·obtain⟨T1,o,m1,p1,h1,r1⟩:=h.cont b _ hD hg
  obtain rfl:T1=T:=by rw [hm]at m1;exact(Yl m1).symm
  cases r1 with
  |cells hs hb hp=>exact⟨_,_,h1,hs,hb,hp⟩
 ·obtain⟨T1,o,m1,p1,h1,r1⟩:=h.cont b _ hD hg
  obtain rfl:T1=T:=by rw [hm]at m1;exact(Yl m1).symm
  obtain⟨arr,rfl,hs,hbd,hsh,hpw⟩:=r1.ty_row
  exact⟨_,_,h1,hs,hbd,hpw⟩
theorem zps {t:TypeId}{k count:Nat}(hk:P.cellsOf t=k+1)(hc:1≤count):liesAt P P.depth t count 0 t 1=true:=by have hd:P.depth=(2*(P.types.size+Made.depth)+1)+1:=rfl;rw [hd];simp only [liesAt,Yae];left;rw [hd];simp [rowAt,hk,hc,sameLayout]
theorem cellsOf_size {t:TypeId}{n:Nat}(h:zJ P t=some n):P.cellsOf t=n:=by
 unfold zJ at h;unfold Program.cellsOf;cases hi:P.info? t with
 |none=>simp [hi]at h
 |some i=>simpa [hi] using h
theorem xConv_ok(h:Inv g base H D w){src dst:TypeId}{x:V}{xc:Value}(hx:VRel g x xc)(hp:(XR.ar H (zfV P src dst x H)).pre)(hD:∀ b∈(XR.ar H (zfV P src dst x H)).R,D b):
 Snd P g base H D w (XR.ar H (zfV P src dst x H)) (convert src dst xc):=by
 cases hq:zfV P src dst x H with
 |none=>rw [hq]at hp;exact hp.elim
 |some q=>
  rw [hq]at hD
  clear hp
  have info:∀ {u:TypeId} {n:Nat},zJ P u=some n→∃ i,P.info? u=some i∧i.size=n:=by
   intro u n hn;unfold zJ at hn;cases hi:P.info? u with
   |none=>simp [hi]at hn
   |some i=>exact⟨i,rfl,by simpa [hi] using hn⟩
  unfold zfV at hq
  split at hq
  ·rename_i u b off hs hd
   have core:∀ {k:Nat} {cs:List V},zJ P u=some (k+1)→(H.get b=some (.cells cs)∨∃ t,H.get b=some (.ty t cs))→off<cs.length→D b→Snd P g base H D w ⟨True,.ptr b off,H,[b],[]⟩ (convert src dst xc):=by intro k cs hk hg hlt hDb;obtain⟨T,hm,rfl⟩:=hx.inv_ptr;obtain⟨arr,t,hh,hsz,hbd,_⟩:=zzT h hDb hm hg;obtain⟨i,hi,hn⟩:=info hk;refine Snd.val h _ (Lib.run_to_unsafe w ⟨T.c,T.sh+off,none⟩ hs hd hi (by omega) (e:=t) (cells:=arr.size) (by simp [World.shape?,hh]) (by show T.sh+off<arr.size;omega)) hx
   split at hq
   ·rename_i k cs hk hg
    split at hq
    ·rename_i hlt;cases hq;exact core hk (.inl hg) hlt (hD b (by simp [XR.ar]))
    ·cases hq
   ·rename_i k t cs hk hg
    split at hq
    ·rename_i hlt;cases hq;exact core hk (.inr ⟨_,hg⟩) hlt (hD b (by simp [XR.ar]))
    ·cases hq
   ·cases hq
  ·rename_i u b hs hd
   split at hq
   ·rename_i k t cs hk hg
    split at hq
    ·rename_i hc
     cases hq
     obtain⟨rfl,hlt⟩:=hc
     have hDb:=hD b (by simp [XR.ar])
     obtain⟨T,hm,rfl⟩:=hx.inv_ptr
     obtain⟨T1,o,m1,p1,h1,r1⟩:=h.cont b _ hDb hg
     obtain rfl:T1=T:=by rw [hm]at m1;exact(Yl m1).symm
     obtain⟨arr,rfl,hsz,hbd,hsh,hpw⟩:=r1.ty_row
     obtain⟨i,hi,hn⟩:=info hk
     have hce:=cellsOf_size hk
     refine Snd.val h _ (Lib.run_from_unsafe w ⟨T1.c,T1.sh+0,none⟩ hs hd hi (e:=t) (cells:=arr.size) (by simp [World.shape?,h1]) ?_) hx
     show liesAt P P.depth t (arr.size / P.cellsOf t) (T1.sh+0) t 1=true
     rw [hsh]
     exact zps hce (by rw [hce];exact(Yb7 (by omega)).2 (by omega))
    ·cases hq
   ·cases hq
  ·cases hq
theorem aConv_ok(h:Inv g base H D w){src dst:TypeId}{x:V}{xc:Value}(hx:VRel g x xc)(hp:(zdn P src dst x H).pre)(hD:∀ b∈(zdn P src dst x H).R,D b):
 Snd P g base H D w (zdn P src dst x H) (convert src dst xc):=by
 revert hD
 unfold zdn at*
 split at hp
 ·rename_i d k k' n hs hd
  intro _
  obtain rfl:=hx.inv_int
  exact Snd.val h _ (by simp [convert,run_underlying hs,run_underlying hd,Conv.intToInt]) (.int _ _)
 ·rename_i d s hs hd
  intro _
  obtain⟨sb,rfl,rfl⟩:=hx.inv_str
  exact Snd.val h _ (by simp [convert,run_underlying hs,run_underlying hd]) (.str rfl)
 ·rename_i e hs hd _
  split at hp
  ·rename_i cs n R he hc
   split at hp
   ·rename_i l hb
    intro hD'
    obtain⟨arr,hr,hsz,hpw⟩:=zdd (P:=P) h hx hc hD' w rfl
    obtain⟨hl,hcase⟩:=zbp h hx hc hD'
    obtain⟨ns,e1,e2⟩:=zer hb
    rcases hcase with⟨rfl,rfl⟩|⟨a,cap,rfl,_⟩
    ·refine Snd.val h _ (v:=.string .empty) ?_ (.str ?_)
     ·rw [run_convert_bytes_string w src dst e _ _ _ hs he hd];rfl
     ·have:cs=[]:=Yr (by simpa using hl)
      subst this
      simp [bytesOf]at hb
      subst hb;rfl
    ·have e3:arr.toList=ns.map (Value.int .u8):=PW.ints (by rw [Yac,hsz,e1];simp) (by rw [←e1];simpa using hpw)
     have e4:arr=(ns.map (Value.int .u8)).toArray:=by rw [←e3]
     simp only [Builtin.firstCells,Yap]at hr
     rw [e4]at hr
     refine Snd.val h _ (v:=.string (ns.foldl (fun r n=>r.push (UInt8.ofNat n.toNat)) ByteArray.empty)) ?_ (.str ?_)
     ·rw [run_convert_bytes_string w src dst e _ _ _ hs he hd];exact run_bytesToString w a n cap ns hr
     ·rw [zuT,e2];rfl
   ·exact hp.elim
  ·exact hp.elim
 ·intro hD;exact xConv_ok h hx hp hD
theorem zxH {fs:List Field}{pl:List (Nat×Nat)}(h:placesOf P fs=some pl):fs.mapM (fun f=>(P.info? f.type).map fun i=>(f.offset,i.size))=some pl:=by rw [←h];unfold placesOf;congr 1;funext f;simp [zJ,Option.map_map,Function.comp_def]
theorem foldl_set(xs:List Value):∀(cs:Array Value) (off j0:Nat),off+j0+xs.length≤cs.size→
 ((xs.zipIdx j0).foldl (fun cs p=>cs.setIfInBounds (off+p.2) p.1) cs).size=cs.size∧
 ∀ k,((xs.zipIdx j0).foldl (fun cs p=>cs.setIfInBounds (off+p.2) p.1) cs)[k]? =if off+j0≤k∧k<off+j0+xs.length then xs[k - (off+j0)]? else cs[k]? :=by
 induction xs with
 |nil=>intro cs off j0 _;simp;intro k h1 h2;omega
 |cons x xs ih=>
  intro cs off j0 hb
  simp only [Ym]at hb
  simp only [List.zipIdx_cons,Ycl]
  obtain⟨i1,i2⟩:=ih (cs.setIfInBounds (off+j0) x) off (j0+1) (by simp;omega)
  refine⟨by rw [i1];simp,fun k=>?_⟩
  rw [i2 k]
  by_cases hk0:k=off+j0
  ·subst hk0
   rw [Yd (by omega),Yf (by simp)]
   simp [show off+j0<cs.size by omega]
  ·rw [YaO (by omega)]
   by_cases hk1:off+(j0+1)≤k∧k<off+(j0+1)+xs.length
   ·rw [Yf hk1,Yf (by simp only [Ym];omega)]
    rw [show k - (off+j0)=(k - (off+(j0+1)))+1 by omega,Yas]
   ·rw [Yd hk1,Yd (by simp only [Ym];omega)]
inductive Parts(g:G):List (Nat×V)→List (Nat×Value)→Prop
 |nil:Parts g [] []
 |cons {i:Nat} {x:V} {v:Value} {l:List (Nat×V)} {r:List (Nat×Value)} (h:VRel g x v) (t:Parts g l r):Parts g ((i,x)::l) ((i,v)::r)
theorem zly {place:Nat→Option (Nat×Nat)}:∀ {parts:List (Nat×V)} {pc:List (Nat×Value)} {cells cs:List V} {arr:Array Value},Parts g parts pc→
 zd1 place cells parts=some cs→arr.size=cells.length→PW g cells (fun i=>arr[i]?)→
 ∃ arr':Array Value,Instr.fill place arr pc=some arr'∧arr'.size=cs.length∧PW g cs (fun i=>arr'[i]?)
 |[],_,cells,cs,arr,.nil,h,hs,hp=>by simp [zd1]at h;subst h;exact⟨arr,rfl,hs,hp⟩
 |(i,x)::parts,_,cells,cs,arr,.cons (v:=v) (r:=r) hx ht,h,hs,hp=>by
  unfold zd1 at h;cases hpl:place i with
  |none=>simp [hpl]at h
  |some os=>
   obtain⟨off,size⟩:=os;simp only [hpl]at h;split at h
   ·rename_i hc;obtain⟨hok,hl,hb⟩:=hc;obtain⟨hvs,hvp,_⟩:=zao hx hok;obtain⟨f1,f2⟩:=foldl_set v.cells.toList arr off 0 (by rw [Yac,hvs];omega);have e:v.cells.zipIdx.foldl (fun cs (p:Value×Nat)=>cs.setIfInBounds (off+p.2) p.1) arr=(v.cells.toList.zipIdx 0).foldl (fun cs p=>cs.setIfInBounds (off+p.2) p.1) arr:=by rw [←Array.foldl_toList];simp
    obtain⟨arr',h1,h2,h3⟩:=zly (arr:=(v.cells.toList.zipIdx 0).foldl (fun cs p=>cs.setIfInBounds (off+p.2) p.1) arr) ht h (by rw [zcj (by omega), ←hs];exact f1)
     (PW.put hp (vs:=v.cells.toList) (by simpa using hvp) (by rw [Yac,hvs]) (by omega) fun k=>by show _=_;rw [f2 k];simp only [Y5,Yac,hvs])
    refine⟨arr',?_,h2,h3⟩;rw [Instr.fill];simp only [hpl];have hcond:¬(v.cells.size≠size∨off+v.cells.size>arr.size):=by rw [hvs,hs];omega
    rw [Yd (by simpa using hcond)];rw [←e]at h1;exact h1
   ·cases h
theorem zj5 {t:TypeId}{z:Value}(h:zaO P t=some z):∃ i,P.info? t=some i∧i.zero=some z:=by
 unfold zaO at h;cases hi:P.info? t with
 |none=>simp [hi]at h
 |some i=>exact⟨i,rfl,by simpa [hi] using h⟩
theorem size_of {t:TypeId}{n:Nat}(h:zJ P t=some n):∃ i,P.info? t=some i∧i.size=n:=by
 unfold zJ at h;cases hi:P.info? t with
 |none=>simp [hi]at h
 |some i=>exact⟨i,rfl,by simpa [hi] using h⟩
theorem zsH(h:Inv g base H D w){t:TypeId}{parts:List (Nat×V)}{pc:Array (Nat×Value)}(hpc:Parts g parts pc.toList)(hp:(XR.ar H (zdr P t parts H)).pre):
 Snd P g base H D w (XR.ar H (zdr P t parts H)) (Instr.build t pc):=by
 cases hq:zdr P t parts H with
 |none=>rw [hq]at hp;exact hp.elim
 |some q=>
  unfold zdr at hq
  split at hq
  rotate_left;·cases hq
  rename_i n e hu
  split at hq
  rotate_left;·cases hq
  rename_i z s hz hs
  split at hq
  rotate_left;·cases hq
  rename_i cs hok hf
  cases hq
  obtain⟨zs,zp,_⟩:=zao (zdW g z) hok
  obtain⟨arr,h1,h2,h3⟩:=zly (arr:=z.cells) hpc hf zs zp
  obtain⟨i,hi,hiz⟩:=zj5 hz
  obtain⟨ie,hie,hse⟩:=size_of hs
  refine Snd.val h _ (v:=.agg arr) (run_build w t pc arr ?_) (VRel.mk_agg h2 h3)
  unfold Program.built
  simp only [hi,hu,hiz,hie,hse]
  exact h1
theorem zB0(h:Inv g base H D w){t:TypeId}{parts:List (Nat×V)}{pc:Array (Nat×Value)}(hpc:Parts g parts pc.toList)(hp:(zc5 P t parts H).pre):
 Snd P g base H D w (zc5 P t parts H) (Instr.build t pc):=by
 unfold zc5 at*
 split at hp
 ·rename_i z fs hz hu
  split at hp
  ·rename_i pl hpl
   split at hp
   ·rename_i cs hf
    obtain⟨zs,zp,_⟩:=zao (zdW g z) hp
    obtain⟨arr,h1,h2,h3⟩:=zly (arr:=z.cells) hpc hf zs zp
    obtain⟨i,hi,hiz⟩:=zj5 hz
    refine Snd.val h _ (v:=.agg arr) (run_build w t pc arr ?_) (VRel.mk_agg h2 h3)
    unfold Program.built
    simp only [hi,hu,hiz,zxH hpl]
    have:(fun i:Nat=>pl.toArray[i]?)=(fun i:Nat=>pl[i]?):=by funext i;simp
    rw [this];exact h1
   ·exact hp.elim
  ·exact hp.elim
 ·exact zsH h hpc hp
theorem flat_get {α:Type}(l:List α):∀(n i:Nat),i<n*l.length→(List.replicate n l).flatten[i]? =l[i % l.length]?
 |0,i,h=>by simp at h
 |n+1,i,h=>by
  rw [Ybs,List.flatten_cons];by_cases hi:i<l.length
  ·rw [Y4 hi,Ycd hi]
  ·rw [YaF (by omega),flat_get l n (i - l.length) (by rw [YV]at h;omega)];rw [Nat.mod_eq_sub_mod (a:=i) (by omega)]
theorem zgN {e:TypeId}{z:Value}{s n:Nat}(hz:zaO P e=some z)(hs:zJ P e=some s)(hok:zq (cv z)=true)(hl:(cv z).cellsV.length=s):
 (zbw P e n).length=n*s∧PW g (zbw P e n) (fun i=>(madeCells z.cells (n*s))[i]?):=by
 obtain⟨zs,zp,_⟩:=zao (zdW g z) hok
 have gen:∀ l:List V,l.length=n*s→(∀ i,i<n*s→l[i]? =(cv z).cellsV[i % s]?)→PW g l (fun i=>(madeCells z.cells (n*s))[i]?):=by
  intro l hll hg i x hx;have hi:i<n*s:=by by_cases hh:i<l.length;omega;simp [Ys (Y6 hh)]at hx
  rw [hg i hi]at hx;obtain⟨v,hv,r⟩:=zp _ _ hx;refine⟨v,?_,r⟩;have hv':z.cells[i % s]? =some v:=hv;have hm:i % s<z.cells.size:=(YJ.1 hv').1;show (madeCells z.cells (n*s))[i]? =some v;simp only [madeCells,Yb3,Array.getElem?_range,hi,if_true,Yao];rw [zs,hl,getElem!_pos z.cells (i % s) hm,(YJ.1 hv').2]
 unfold zbw
 rw [hz]
 dsimp only
 split
 ·rename_i c hc
  have h1:s=1:=by rw [←hl,hc];rfl
  subst h1
  refine⟨by simp,gen _ (by simp) fun i hi=>?_⟩
  have hi':i<n:=by omega
  rw [hc]
  simp [Nat.mod_one,hi']
 ·refine⟨by rw [List.length_flatten];simp [hl],gen _ (by rw [List.length_flatten];simp [hl]) fun i hi=>?_⟩
  rw [flat_get _ _ _ (by rw [hl];exact hi),hl]
theorem zjb(h:Inv g base H D w){t:TypeId}{len:Nat}{parts:List (Nat×V)}{pc:Array (Nat×Value)}(hpc:Parts g parts pc.toList)(hp:(zV P t len parts H).pre):
 Snd P g base H D w (zV P t len parts H) (Instr.buildSlice t len pc):=by
 unfold zV at*
 split at hp
 ·rename_i e he
  split at hp
  ·rename_i s z hs hz
   split at hp
   ·rename_i cs hf
    obtain⟨hok,hl,hb⟩:=hp
    obtain⟨zl,zp⟩:=zgN (g:=g) (n:=len) hz hs hok hl
    obtain⟨arr,h1,h2,h3⟩:=zly (arr:=madeCells z.cells (len*s)) hpc hf (by rw [size_madeCells,zl]) zp
    have hlen:cs.length=len*s:=by
     have:∀ {parts:List (Nat×V)} {cells cs:List V} {place:Nat→Option (Nat×Nat)},zd1 place cells parts=some cs→cs.length=cells.length:=by
      intro parts;induction parts with
      |nil=>intro cells cs place h;simp [zd1]at h;rw [h]
      |cons p parts ih=>
       intro cells cs place h;obtain⟨i,x⟩:=p;unfold zd1 at h;cases hpl:place i with
       |none=>simp [hpl]at h
       |some os=>
        simp only [hpl]at h;split at h
        ·rename_i hc;rw [ih h,zcj (by omega)]
        ·cases h
     rw [this hf,zl]
    refine⟨_,w.alloc (.cells arr e),.slice (some ⟨w.heap.size,0,none⟩) len len,?_,?_,Post.new h (o:=.cells arr e) (tot:=arr.size) rfl rfl ⟨rfl,Ye _⟩ rfl (.cells rfl (by simp [h2]) (by simpa using h3))⟩
    ·unfold Instr.buildSlice
     rw [Sem.run_bind,run_underlying (zdG he)]
     simp only [Result.andThen_ok]
     rw [Sem.run_bind,zan hs]
     simp only [Result.andThen_ok]
     rw [Yd (by omega)]
     by_cases h0:len*s=0
     ·have hm:(Array.range (len*s)).map ((#[]:Array Value)[· % (#[]:Array Value).size]!)=madeCells z.cells (len*s):=by rw [h0];simp [madeCells]
      rw [Yf h0,Sem.run_bind,Sem.run_pure]
      simp only [Result.andThen_ok]
      rw [hm,h1]
      simp [newRow]
     ·rw [Yd h0,Sem.run_bind,zbk hz]
      simp only [Result.andThen_ok,Sem.run_bind,Sem.run_pure]
      have hm:(Array.range (len*s)).map (z.cells[· % z.cells.size]!)=madeCells z.cells (len*s):=rfl
      rw [hm,h1]
      simp [newRow]
    ·refine .sl (T:=⟨w.heap.size,0,arr.size⟩) (by simp [G.add]) (Ye _) (fun _=>⟨rfl,?_⟩) (fun k e=>by cases e;rfl)
     show 0+len*s≤arr.size
     omega
   ·exact hp.elim
  ·exact hp.elim
 ·exact hp.elim
theorem zpK {t:TypeId}{n b:Nat}{k:Bool}(h:zgM P t=some (n,b,k)):∃ i,P.info? t=some i∧i.size=n∧i.bytes=b∧(k=true→∃ z,i.zero=some z∧z.cells.size=i.size):=by
 unfold zgM at h;cases hi:P.info? t with
 |none=>simp [hi]at h
 |some i=>
  simp only [hi,Yao,Yv,YbN]at h;refine⟨i,rfl,h.1,h.2.1,fun hk=>?_⟩;subst hk;have:=h.2.2;cases hz:i.zero with
  |none=>simp [hz]at this
  |some z=>exact⟨z,rfl,by simpa [hz] using this⟩
theorem zlW(h:Inv g base H D w){t:TypeId}{l c:V}{lc cc:Value}(hl:VRel g l lc)(hc:VRel g c cc)(hp:(zaH P t l c H).pre):
 Snd P g base H D w (zaH P t l c H) (Instr.makeSlice t lc cc):=by
 unfold zaH at*
 split at hp
 ·rename_i e k l k' c he
  split at hp
  ·rename_i isz ib zok z hif hz
   obtain⟨i,hi,rfl,rfl,_⟩:=zpK hif
   obtain⟨hok,hlen,h1,h2,h3,h4⟩:=hp
   obtain rfl:=hl.inv_int
   obtain rfl:=hc.inv_int
   obtain⟨i',hi',hiz⟩:=zj5 hz
   obtain rfl:i'=i:=by rw [hi]at hi';exact(Yl hi').symm
   have hs:zJ P e=some i'.size:=by simp [zJ,hi]
   obtain⟨zl,zp⟩:=zgN (g:=g) (n:=c.toNat) hz hs hok hlen
   refine⟨_,w.alloc (.cells (madeCells z.cells (c.toNat*i'.size)) e),_,run_make w t e i' z (zdG he) hi hiz k k' l c h1 h2 h4 h3,?_,
    Post.new h (o:=.cells (madeCells z.cells (c.toNat*i'.size)) e) (tot:=c.toNat*i'.size) rfl rfl ⟨rfl,Ye _⟩ rfl (.cells (size_madeCells _ _) (by simp [zl]) (by simpa using zp))⟩
   exact .sl (T:=⟨w.heap.size,0,c.toNat*i'.size⟩) (by simp [G.add]) (by omega) (fun _=>⟨rfl,by simp⟩) (fun k e=>by cases e;rfl)
  ·exact hp.elim
 ·exact hp.elim
end
end Go.Ab
