/- The operations' soundness, sixth part: maps, and builtins more. -/
import Derived.Lib.OthersKept
import Derived.Test.YtbdlfegfepggnaaGreatDoorAbOpOk5
import Derived.Laws.IdiomRangeMap
set_option linter.all false
set_option maxHeartbeats 16000000
set_option maxRecDepth 100000
noncomputable section
namespace Go.Ab
section
variable {P:Program}{g:G}{base:Nat}{H:Hp}{D:Nat→Prop}{w:World}
def zfB {t kt et:TypeId}(h:mapT P t=some (kt,et)):P.underlying t=some (.map kt et):=by
 unfold mapT at h;split at h
 ·rename_i hu;cases h;exact hu
 cases h
def KeyC(P:Program)(g:G)(kt:TypeId)(k:V)(kc:Value):Prop:=
 VRel g k kc∧((zdJ P kt k=true∧∀cs,k≠.agg cs)∨∃cs fs,k=.agg cs∧zwp P kt=some fs∧zeZ P fs cs=true)
def znT {kt:TypeId}{k:V}{kc:Value}(hk:VRel g k kc)(h:keyT P kt k=true):KeyC P g kt k kc:=by
 refine⟨hk,?_⟩;unfold keyT at h;split at h
 ·split at h
  ·rename_i hf;exact .inr ⟨_,_,rfl,hf,h⟩
  cases h
 rename_i hn;exact .inl ⟨h,hn⟩
def ziK {t:TypeId}{k:V}{kc:Value}(hx:VRel g k kc)(h:zdJ P t k=true)(e:Bool)(n:Nat):(Instr.checkKey e (n+1) t kc).run P w=.ok () w:=by
 unfold zdJ at h;split at h
 ·rename_i hu;obtain rfl:=hx.inv_int;simp[Instr.checkKey,run_underlying hu]
 ·rename_i hu;obtain⟨s,rfl,_⟩:=hx.inv_str;simp[Instr.checkKey,run_underlying hu]
 ·rename_i hu;obtain rfl:=hx.inv_bool;simp[Instr.checkKey,run_underlying hu]
 cases h
def zlW {t:TypeId}{k:V}{kc:Value}(hx:VRel g k kc)(h:zdJ P t k=true)(n:Nat):Instr.sameBits n kc kc=true:=by
 unfold zdJ at h;split at h
 ·obtain rfl:=hx.inv_int;cases n<;>simp[Instr.sameBits]
 ·obtain⟨s,rfl,_⟩:=hx.inv_str;cases n<;>simp[Instr.sameBits,zdR]
 ·obtain rfl:=hx.inv_bool;cases n<;>simp[Instr.sameBits]
 cases h
def key1_now {t:TypeId}{x y:V}{xc yc:Value}{b:Bool}{d:TypeDesc}(hx:VRel g x xc)(hy:VRel g y yc)(hd:P.underlying t=some d)(ht:zdJ P t x=true)(h:zcM x y=some b):Instr.sameNow d xc yc=some b:=by
 unfold zdJ at ht;split at ht
 ·rename_i hu;obtain rfl:=hx.inv_int;rw[hu]at hd;cases hd;cases y<;>simp only[zcM]at h<;>first|(cases h;done)|skip
  obtain rfl:=hy.inv_int;split at h
  ·rename_i hd;have hd':=Yah hd;subst hd';cases h;simp[Instr.sameNow]
  cases h
 ·rename_i hu;obtain⟨s,rfl,e1⟩:=hx.inv_str;rw[hu]at hd;cases hd;cases y<;>simp only[zcM]at h<;>first|(cases h;done)|skip
  obtain⟨s2,rfl,e2⟩:=hy.inv_str;cases h;simp only[Instr.sameNow,zdR,e1,e2]
 ·rename_i hu;obtain rfl:=hx.inv_bool;rw[hu]at hd;cases hd;cases y<;>simp only[zcM]at h<;>first|(cases h;done)|skip
  obtain rfl:=hy.inv_bool;cases h;rfl
 cases ht
def KeyC.desc {kt:TypeId}{k:V}{kc:Value}(h:KeyC P g kt k kc):∃d,P.underlying kt=some d:=by
 rcases h.2 with⟨h1,hn⟩|⟨cs,fs,rfl,hf,_⟩
 ·clear hn;unfold zdJ at h1;split at h1
  ·rename_i hu;exact⟨_,hu⟩
  ·rename_i hu;exact⟨_,hu⟩
  ·rename_i hu;exact⟨_,hu⟩
  cases h1
 exact⟨_,(zdK hf).1⟩
def zpS {kt:TypeId}{d:TypeDesc}{k k':V}{kc kc':Value}{b:Bool}(hk:KeyC P g kt k kc)(hd:P.underlying kt=some d)(hr:VRel g k' kc')(h:zvY k k'=some b):(Op.equal kt kc kc').run P w=.ok b w∧(Instr.sameNow d kc kc'=some b∨Instr.sameNow d kc kc'=none)∧(b=true→kc=kc'):=by
 rcases hk with⟨hv,⟨h1,hn⟩|⟨cs,fs,rfl,hf,hks⟩⟩
 ·have h':zcM k k'=some b:=by
   unfold zvY at h;split at h
   ·exact absurd rfl (hn _)
   exact h
  obtain⟨q1,q2⟩:=zj8 (w:=w) hv hr h1 h';exact⟨q1 9999,.inl (key1_now hv hr hd h1 h'),q2⟩
 unfold zvY at h;split at h
 ·rename_i ds e1;cases e1;obtain⟨q1,q2⟩:=zk6 (w:=w) hf hv hr hks h;refine⟨q1 9998,.inr ?_,q2⟩;rw[(zdK hf).1]at hd;cases hd;rfl
 simp[zcM]at h
def zpY {kt:TypeId}{d:TypeDesc}{k:V}{kc:Value}(hk:KeyC P g kt k kc)(hd:P.underlying kt=some d):∀(es:List (Nat×V×V))(l:List MapEntry)(i:Nat)(r:Option (Nat×V)),zes k es i=some r→l.length=es.length→(∀(j:Nat)(e:Nat×V×V)(c:MapEntry),es[j]? =some e→l[j]? =some c→VRel g e.2.1 c.key∧VRel g e.2.2 c.val)→∃rc,(Instr.findAsking kt kc l i).run P w=.ok rc w∧(Instr.findNow d kc l i=some rc∨Instr.findNow d kc l i=none)∧(r=none→rc=none)∧∀j v,r=some (j,v)→∃e c,i≤j∧es[j-i]? =some e∧l[j-i]? =some c∧e.2.2=v∧rc=some (j,c.val)∧c.key=kc
 |[],l,i,r,h,hl,hr=>by cases h;obtain rfl:l=[]:=Yz hl;exact⟨none,rfl,.inl rfl,fun _=>rfl,fun j v e=>by cases e⟩
 |e::es,l,i,r,h,hl,hr=>by
  match l,hl,hr with
  |c::l,hl,hr=>
   obtain⟨r1,r2⟩:=hr 0 e c rfl rfl;unfold zes at h;split at h
   ·rename_i hq;cases h;obtain⟨h0,h1,h2⟩:=zpS (w:=w) hk hd r1 hq;refine⟨some (i,c.val),by simp[Instr.findAsking,h0],?_,fun e=>(by cases e),fun j v ej=>?_⟩
    ·rcases h1 with h1|h1
     ·exact .inl (by simp[Instr.findNow,h1])
     exact .inr (by simp[Instr.findNow,h1])
    cases ej;exact⟨e,c,Yc _,Zs,Zs,rfl,rfl,(h2 rfl).symm⟩
   ·rename_i hq;obtain⟨h0,h1,_⟩:=zpS (w:=w) hk hd r1 hq;obtain⟨rc,f0,f1,f2,f3⟩:=zpY hk hd es l (i+1) r h (by simpa using hl) (fun j e' c' he hc=>hr (j+1) e' c' (by simpa using he) (by simpa using hc));refine⟨rc,by simp[Instr.findAsking,h0,f0],?_,f2,fun j v ej=>?_⟩
    ·rcases h1 with h1|h1
     ·rcases f1 with f1|f1
      ·exact .inl (by simp[Instr.findNow,h1,f1])
      exact .inr (by simp[Instr.findNow,h1,f1])
     exact .inr (by simp[Instr.findNow,h1])
    obtain⟨e',c',g1,g2,g3,g4,g5,g6⟩:=f3 j v ej;refine⟨e',c',Zo,?_,?_,g4,g5,g6⟩
    ·rw[show j-i=(j-(i+1))+1 by omega,Yar];exact g2
    rw[show j-i=(j-(i+1))+1 by omega,Yar];exact g3
   cases h
def ziN {kt:TypeId}{d:TypeDesc}{kc:Value}{l:List MapEntry}{rc:Option (Nat×Value)}(hd:P.underlying kt=some d)(h0:(Instr.findAsking kt kc l 0).run P w=.ok rc w)(h1:Instr.findNow d kc l 0=some rc∨Instr.findNow d kc l 0=none):(Instr.findKey kt kc l).run P w=.ok rc w:=by
 rcases h1 with h1|h1
 ·simp[Instr.findKey,run_underlying hd,h1]
 simp[Instr.findKey,run_underlying hd,h1,h0]
structure MapIs(g:G)(es:List (Nat×V×V))(clock:Nat)(o:Obj)(arr:Array MapEntry):Prop where
 obj:o=.map arr clock
 size:arr.size=es.length
 ent:∀(j:Nat)(e:Nat×V×V)(c:MapEntry),es[j]? =some e→arr[j]? =some c→c.born=e.1∧VRel g e.2.1 c.key∧VRel g e.2.2 c.val
def BlkRel.mapIs {es:List (Nat×V×V)}{clock:Nat}{T:Tgt}{o:Obj}(r:BlkRel g (.mp es clock) T o):∃arr,MapIs g es clock o arr:=by
 cases r with
 |mp hs hb hk hv=>
  rename_i arr;refine⟨arr,rfl,hs,fun j e c he hc=>⟨?_,?_,?_⟩⟩
  ·have:=Ya1 (fun l=>l[j]?) hb;simp only[YT,he,Yap,YF,hc]at this;exact Yh this
  ·obtain⟨v,h1,h2⟩:=hk j e.2.1 (by simp[he]);simp only[hc,Yap,Yx]at h1;rw[h1];exact h2
  obtain⟨v,h1,h2⟩:=hv j e.2.2 (by simp[he]);simp only[hc,Yap,Yx]at h1;rw[h1];exact h2
def MapIs.rel {es:List (Nat×V×V)}{clock:Nat}{T:Tgt}{arr:Array MapEntry}(hs:arr.size=es.length) (h:∀(j:Nat)(e:Nat×V×V)(c:MapEntry),es[j]? =some e→arr[j]? =some c→c.born=e.1∧VRel g e.2.1 c.key∧VRel g e.2.2 c.val):BlkRel g (.mp es clock) T (.map arr clock):=by
 have get:∀j e,es[j]? =some e→∃c,arr[j]? =some c:=fun j e he=>by
  have:j<arr.size:=by rw[hs];exact(Ys.1 he).1
  exact⟨_,Y6 this⟩
 refine .mp hs ?_ ?_ ?_
 ·apply YaI;intro j;simp only[YT,YF];by_cases hj:j<es.length
  ·obtain⟨c,hc⟩:=get j es[j] (by simp[hj]);rw[hc,Yb hj];simp[(h j es[j] c (by simp[hj]) hc).1]
  rw[Yo Zo,Yr Zo];rfl
 ·intro j x hx;simp only[YT,YN]at hx;obtain⟨e,he,rfl⟩:=hx;obtain⟨c,hc⟩:=get j e he;exact⟨c.key,by simp[hc],(h j e c he hc).2.1⟩
 intro j x hx;simp only[YT,YN]at hx;obtain⟨e,he,rfl⟩:=hx;obtain⟨c,hc⟩:=get j e he;exact⟨c.val,by simp[hc],(h j e c he hc).2.2⟩
def MapIs.find {es:List (Nat×V×V)}{clock:Nat}{o:Obj}{arr:Array MapEntry}(m:MapIs g es clock o arr){kt:TypeId}{k:V}{kc:Value}(hk:KeyC P g kt k kc){r:Option (Nat×V)}(h:zes k es 0=some r):∃rc,(Instr.findKey kt kc arr.toList).run P w=.ok rc w∧(r=none→rc=none)∧∀j v,r=some (j,v)→∃e c,es[j]? =some e∧arr[j]? =some c∧e.2.2=v∧rc=some (j,c.val)∧c.key=kc:=by obtain⟨d,hd⟩:=hk.desc;obtain⟨rc,h0,h1,h2,h3⟩:=zpY (w:=w) hk hd es arr.toList 0 r h (by simpa using m.size) (fun j e c he hc=>(m.ent j e c he (by simpa using hc)).2);refine⟨rc,ziN hd h0 h1,h2,fun j v e=>?_⟩;obtain⟨e',c',_,g2,g3,g4,g5,g6⟩:=h3 j v e;exact⟨e',c',by simpa using g2,by simpa using g3,g4,g5,g6⟩
def KeyC.none {kt:TypeId}{k:V}{kc:Value}(h:KeyC P g kt k kc):(Instr.findKey kt kc []).run P w=.ok none w:=by obtain⟨d,hd⟩:=h.desc;exact ziN hd rfl (.inl rfl)
def KeyC.isKey {kt:TypeId}{k:V}{kc:Value}(h:KeyC P g kt k kc)(e:Bool)(n:Nat):(Instr.checkKey e (n+2) kt kc).run P w=.ok () w:=by
 rcases h with⟨hv,⟨h1,_⟩|⟨cs,fs,rfl,hf,hks⟩⟩
 ·exact ziK hv h1 e (n+1)
 obtain⟨xs,rfl,sx,px⟩:=hv.inv_agg;obtain⟨hu,hfs,hff,_,_⟩:=zdK hf;rw[show n+2=(n+1)+1 from rfl,Instr.checkKey];simp only[Sem.run_bind,run_underlying hu,Result.andThen_ok];rw[←Array.forIn_toList,hfs];have px0:PW g cs (fun j=>xs[0+j]?):=px.congr fun j _=>by rw[Yae]
 clear hf hfs hu hv sx px;revert px0 hff hks;generalize 0=i;induction fs generalizing i cs with
 |nil=>intros;simp
 |cons f L ih=>
  intro hks hff px;cases cs with
  |nil=>cases hks
  |cons c cs=>
   obtain⟨h1,h2,h3,h4⟩:=ziM hff;simp only[zeZ,Yj]at hks;obtain⟨vx,ex,rx⟩:=px 0 c rfl;have ex':xs[f.offset]? =some vx:=by rw[h2];simpa using ex
   have px':PW g cs (fun j=>xs[(i+1)+j]?):=(px.drop 1).congr fun j _=>by show _=xs[i+(1+j)]?;rw[YO]
   have p1:=zjM (P:=P) (w:=w) h3 ex';have p2:=ziK (w:=w) rx hks.1 e n;simp only[List.forIn_cons,Sem.run_bind,h1,ne_eq,not_false_eq_true,if_true,Result.andThen_ok,p1,p2,Sem.run_pure];exact ih cs (i+1) hks.2 h4 px'
def zlV:∀ {fs:List Field} {cs:ZA},zeZ P fs cs=true→∀(j:Nat)(c:V),cs[j]? =some c→∃t,zdJ P t c=true
 |[],[],_,j,c,h=>by simp at h
 |[],_::_,h0,_,_,_=>by cases h0
 |_::_,[],h0,_,_,_=>by cases h0
 |f::fs,c0::cs,h0,j,c,h=>by
  simp only[zeZ,Yj]at h0;cases j with
  |zero=>cases h;exact⟨_,h0.1⟩
  |succ j=>exact zlV h0.2 j c (by simpa using h)
def zo1 {n:Nat}:∀(l:List Value),(∀v∈l,Instr.sameBits n v v=true)→((l.zip l).all fun(x,y)=>Instr.sameBits n x y)=true
 |[],_=>rfl
 |v::l,h=>by simp only[List.zip_cons_cons,Ybg,Yj];exact⟨h v Zs,zo1 l fun v' hv=>h v' (by simp[hv])⟩
def KeyC.stays {kt:TypeId}{k:V}{kc:Value}(h:KeyC P g kt k kc):(Instr.keyThatStays kc kc).run P w=.ok kc w:=by
 have:Instr.sameBits 10000 kc kc=true:=by
  rcases h with⟨hv,⟨h1,_⟩|⟨cs,fs,rfl,hf,hks⟩⟩
  ·exact zlW hv h1 10000
  obtain⟨xs,rfl,sx,px⟩:=hv.inv_agg;rw[show (10000:Nat)=9999+1 from rfl,Instr.sameBits];simp only[YaU,Yau];refine zo1 xs.toList fun v hv=>?_;obtain⟨j,hj,rfl⟩:=Ybs hv;have hj':j<cs.length:=by rw[←sx];simpa using hj
  obtain⟨v',e1,e2⟩:=px j cs[j] (by simp[hj']);obtain⟨t,ht⟩:=zlV hks j cs[j] (by simp[hj']);have:xs[j]=v':=by have:=(YA.1 e1).2;exact this
  rw[Array.getElem_toList,this];exact zlW e2 ht 9999
 unfold Instr.keyThatStays;rw[Yi this];rfl
def zpa:∀(i:Nat)(k x:V)(es:List (Nat×V×V)),(updE i k x es).length=es.length
 |_,_,_,[]=>by cases ‹Nat›<;>rfl
 |0,_,_,_::_=>rfl
 |i+1,k,x,e::r=>by show (updE i k x r).length+1=_;rw[zpa];rfl
def zpb:∀(i:Nat)(k x:V)(es:List (Nat×V×V))(j:Nat),(updE i k x es)[j]? =if j=i then(es[j]?).map fun e=>(e.1,k,x)else es[j]?
 |i,k,x,[],j=>by cases i<;>simp[updE]
 |0,k,x,e::r,j=>by
  cases j with
  |zero=>rfl
  |succ j=>simp[updE]
 |i+1,k,x,e::r,j=>by
  cases j with
  |zero=>simp[updE]
  |succ j=>show (e::updE i k x r)[j+1]? =_;rw[Yar,zpb i k x r j,Yar];simp
def zm0(h:Inv g base H D w){t:TypeId}:Snd P g base H D w (XR.ar H (zdW H)) (Instr.makeMap t none):=by refine⟨_,w.alloc (.map #[] 0),.map (some w.heap.size),rfl,?_,Post.new h (o:=.map #[] 0) (tot:=0) rfl rfl ⟨rfl,Yc _⟩ rfl (.mp rfl rfl (fun i x hx=>by simp at hx) (fun i x hx=>by simp at hx))⟩;exact .map (T:=⟨w.heap.size,0,0⟩) (by simp[G.add])
def zkU(h:Inv g base H D w){t:TypeId}{x:V}{xc:Value}(hx:VRel g x xc)(hp:(XR.ar H (zbj P t x H)).pre):Snd P g base H D w (XR.ar H (zbj P t x H)) (Instr.makeMap t (some xc)):=by
 cases hq:zbj P t x H with
 |none=>rw[hq]at hp;exact hp.elim
 |some q=>
  unfold zbj at hq;split at hq
  ·rename_i p k n hmt;obtain rfl:=hx.inv_int;have hu:=zfB (kt:=p.1) (et:=p.2) hmt;rw[←hq];refine⟨_,w.alloc (.map #[] 0),.map (some w.heap.size),by simp[Instr.makeMap,run_underlying hu,asInt,asIntOf],?_,Post.new h (o:=.map #[] 0) (tot:=0) rfl rfl ⟨rfl,Yc _⟩ rfl (.mp rfl rfl (fun i x hx=>by simp at hx) (fun i x hx=>by simp at hx))⟩;exact .map (T:=⟨w.heap.size,0,0⟩) (by simp[G.add])
  cases hq
def znO {ok b:Bool}{v:V}{vc:Value}(h:VRel g v vc):VRel g (lkV ok v b) (if ok then .tuple #[vc,.bool b]else vc):=by
 cases ok with
 |false=>exact h
 |true=>
  refine Xf rfl fun i y hy=>?_;match i,hy with
  |0,hy=>cases hy;exact⟨_,rfl,h⟩
  |1,hy=>cases hy;exact⟨_,rfl,.bool _⟩
def zqK(h:Inv g base H D w){t:TypeId}{x k:V}{xc kc:Value}{ok:Bool}(hx:VRel g x xc)(hk:VRel g k kc)(hp:(XR.ar H (zbu P t x k ok H)).pre)(hD:∀b∈(XR.ar H (zbu P t x k ok H)).R,D b):Snd P g base H D w (XR.ar H (zbu P t x k ok H)) (Instr.lookup t xc kc ok):=by
 cases hq:zbu P t x k ok H with
 |none=>rw[hq]at hp;exact hp.elim
 |some q=>
  rw[hq]at hD;clear hp;unfold zbu at hq;split at hq;rotate_left;·cases hq
  rename_i kt et hmt;have hu:=zfB hmt;split at hq;rotate_left;·cases hq
  rename_i z hkt hz;have hkc:=znT hk hkt;split at hq
  ·cases hq;cases hx;refine Snd.val h _ ?_ (znO (ok:=ok) (b:=false) (zdn g z));simp[Instr.lookup,run_underlying hu,hkc.isKey (w:=w) true 9998,hkc.none (w:=w),za5 hz]
  ·rename_i b;split at hq;rotate_left;·cases hq
   rename_i es clock hg;have go:∀ {r:Option (Nat×V)} {v:V} {c:Bool},zes k es 0=some r→D b→(r=none→v=cv z∧c=false)→(∀p,r=some p→v=p.2∧c=true)→Snd P g base H D w ⟨True,lkV ok v c,H,[b],[]⟩ (Instr.lookup t xc kc ok):=by
    intro r v c hf hDb e1 e2;cases hx with
    |map hm=>
     rename_i T;obtain⟨T1,o,m1,p1,h1,r1⟩:=h.cont b _ hDb hg;obtain rfl:=ZT hm m1;obtain⟨arr,mi⟩:=r1.mapIs;obtain rfl:=mi.obj;obtain⟨rc,f1,f2,f3⟩:=mi.find (w:=w) hkc hf;have hgo:(getObj T1.c).run P w=.ok (.map arr clock) w:=by simp[getObj,Sem.run,h1]
     cases r with
     |none=>obtain⟨rfl,rfl⟩:=e1 rfl;obtain rfl:=f2 rfl;refine Snd.val h _ ?_ (znO (ok:=ok) (b:=false) (zdn g z));simp[Instr.lookup,run_underlying hu,hgo,hkc.isKey (w:=w) _ 9998,f1,za5 hz]
     |some p=>obtain⟨rfl,rfl⟩:=e2 p rfl;obtain⟨e,c,g1,g2,g3,rfl,g5⟩:=f3 p.1 p.2 rfl;have hrel:=(mi.ent _ e c g1 g2).2.2;rw[g3]at hrel;refine Snd.val h _ ?_ (znO (ok:=ok) (b:=true) hrel);simp[Instr.lookup,run_underlying hu,hgo,hkc.isKey (w:=w) _ 9998,f1]
   split at hq
   ·rename_i p hf;cases hq;exact go hf (hD b (by simp[XR.ar])) (fun e=>by cases e) (fun p' e=>by cases e;exact⟨rfl,rfl⟩)
   ·rename_i hf;cases hq;exact go hf (hD b (by simp[XR.ar])) (fun _=>⟨rfl,rfl⟩) (fun p' e=>by cases e)
   cases hq
  cases hq
def zvs {es:List (Nat×V×V)}{clock:Nat}{o:Obj}{arr:Array MapEntry}{T:Tgt}(mi:MapIs g es clock o arr){i:Nat}{k x:V}{kc xc:Value}(hk:VRel g k kc)(hx:VRel g x xc):BlkRel g (.mp (updE i k x es) clock) T (.map (arr.modify i fun e=>{ e with key:=kc,val:=xc }) clock):=by
 refine MapIs.rel (by rw[Array.size_modify,zpa];exact mi.size) fun j e c he hc=>?_;rw[zpb]at he;rw[YaF]at hc;by_cases hj:j=i
 ·subst hj;rw[Yi rfl]at he hc;simp only[YN]at he hc;obtain⟨e0,he0,rfl⟩:=he;obtain⟨c0,hc0,rfl⟩:=hc;exact⟨(mi.ent j e0 c0 he0 hc0).1,hk,hx⟩
 rw[Ye hj]at he;rw[Ye (fun e=>hj e.symm)]at hc;exact mi.ent j e c he hc
def zpF {es:List (Nat×V×V)}{clock:Nat}{o:Obj}{arr:Array MapEntry}{T:Tgt}(mi:MapIs g es clock o arr){k x:V}{kc xc:Value}(hk:VRel g k kc)(hx:VRel g x xc):BlkRel g (.mp (es++[(clock,k,x)]) (clock+1)) T (.map (arr.push { key:=kc,val:=xc,born:=clock }) (clock+1)):=by
 refine MapIs.rel (by simp[mi.size]) fun j e c he hc=>?_;by_cases hj:j<es.length
 ·rw[YP hj]at he;rw[YbV (by rw[mi.size];exact hj)]at hc;exact mi.ent j e c he (by rw[←hc];simp[mi.size,hj])
 rw[Yak Zo]at he;have:j=es.length:=by have:=(Ys.1 he).1;simp at this;omega
 subst this;rw[←mi.size]at hc;simp at he hc;subst he hc;exact⟨rfl,hk,hx⟩
def zgL {w:World}{c:Nat}{es:Array MapEntry}{clock:Nat}(h:w.heap[c]? =some (.map es clock))(o':Obj):(setObj c o').run P w=.ok () { w with heap:=w.heap.setIfInBounds c o' }:=by simp[setObj,Sem.run,h]
def zd0 {w:World}{c:Nat}{o:Obj}(h:w.heap[c]? =some o)(o':Obj):(w.heap.setIfInBounds c o')[c]? =some o'∧(∀k,k≠c→(w.heap.setIfInBounds c o')[k]? =w.heap[k]?)∧(w.heap.setIfInBounds c o').size=w.heap.size:=by have hlt:c<w.heap.size:=(YA.1 h).1;exact⟨by simp[hlt],fun k hk=>by simp[Ne.symm hk],Zs⟩
def zeD(h:Inv g base H D w){t:TypeId}{m k x:V}{mc kc xc:Value}(hm:VRel g m mc)(hk:VRel g k kc)(hx:VRel g x xc)(hp:(XR.ar H (zaq P t m k x H)).pre)(hD:∀b∈(XR.ar H (zaq P t m k x H)).R,D b):SndU P g base H D w (XR.ar H (zaq P t m k x H)) (Instr.mapUpdate t mc kc xc):=by
 cases hq:zaq P t m k x H with
 |none=>rw[hq]at hp;exact hp.elim
 |some q=>
  rw[hq]at hD;clear hp;unfold zaq at hq;split at hq;rotate_left;·cases hq
  rename_i kt et b hmt;have hu:=zfB hmt;split at hq;rotate_left;·cases hq
  rename_i es clock hkt hg;have hkc:=znT hk hkt;have hDb:D b:=by
   split at hq<;>first|(cases hq;exact hD b (by simp[XR.ar]))|cases hq
  cases hm with
  |map hm=>
   rename_i T;obtain⟨T1,o,m1,p1,h1,r1⟩:=h.cont b _ hDb hg;obtain rfl:=ZT hm m1;obtain⟨arr,mi⟩:=r1.mapIs;obtain rfl:=mi.obj;have hgo:(getObj T1.c).run P w=.ok (.map arr clock) w:=by simp[getObj,Sem.run,h1]
   split at hq
   ·rename_i p hf;cases hq;obtain⟨rc,f1,f2,f3⟩:=mi.find (w:=w) hkc hf;obtain⟨e,c,g1,g2,g3,rfl,g5⟩:=f3 p.1 p.2 rfl;obtain⟨s1,s2,s3⟩:=zd0 h1 (.map (arr.modify p.1 fun e=>{ e with key:=kc,val:=xc }) clock);refine⟨rfl,g,{ w with heap:=w.heap.setIfInBounds T1.c (.map (arr.modify p.1 fun e=>{ e with key:=kc,val:=xc }) clock) },?_,Post.put h hDb hg hm s1 s2 s3 rfl ⟨rfl,Yc _⟩ rfl (zvs mi hk hx)⟩;simp[Instr.mapUpdate,run_underlying hu,hgo,hkc.isKey (w:=w) _ 9998,f1,g2,g5,hkc.stays (w:=w),zgL h1]
   ·rename_i hf;cases hq;obtain⟨rc,f1,f2,f3⟩:=mi.find (w:=w) hkc hf;obtain rfl:=f2 rfl;obtain⟨s1,s2,s3⟩:=zd0 h1 (.map (arr.push { key:=kc,val:=xc,born:=clock }) (clock+1));refine⟨rfl,g,{ w with heap:=w.heap.setIfInBounds T1.c (.map (arr.push { key:=kc,val:=xc,born:=clock }) (clock+1)) },?_,Post.put h hDb hg hm s1 s2 s3 rfl ⟨rfl,Yc _⟩ rfl (zpF mi hk hx)⟩;simp[Instr.mapUpdate,run_underlying hu,hgo,hkc.isKey (w:=w) _ 9998,f1,zgL h1]
   cases hq
def zjg {x y:V}{a b:Value}(h:VRel g x a)(k:VRel g y b):VRel g (.tup [x,y]) (.tuple #[a,b]):=by
 refine Xf rfl fun i v hv=>?_;match i,hv with
 |0,hv=>cases hv;exact⟨_,rfl,h⟩
 |1,hv=>cases hv;exact⟨_,rfl,k⟩
def zkT(h:Inv g base H D w){t:TypeId}{m k:V}{mc kc:Value}(hm:VRel g m mc)(hk:VRel g k kc)(hp:(XR.ar H (zbt P t m k H)).pre)(hD:∀b∈(XR.ar H (zbt P t m k H)).R,D b):Snd P g base H D w (XR.ar H (zbt P t m k H)) (Instr.mapEntry t mc kc):=by
 cases hq:zbt P t m k H with
 |none=>rw[hq]at hp;exact hp.elim
 |some q=>
  rw[hq]at hD;clear hp;unfold zbt at hq;split at hq;rotate_left;·cases hq
  rename_i kt et b hmt;have hu:=zfB hmt;split at hq;rotate_left;·cases hq
  rename_i es clock z hkt hg hz;have hkc:=znT hk hkt;have hDb:D b:=by
   split at hq<;>first|(cases hq;exact hD b (by simp[XR.ar]))|cases hq
  cases hm with
  |map hm=>
   rename_i T;obtain⟨T1,o,m1,p1,h1,r1⟩:=h.cont b _ hDb hg;obtain rfl:=ZT hm m1;obtain⟨arr,mi⟩:=r1.mapIs;obtain rfl:=mi.obj;have hgo:(getObj T1.c).run P w=.ok (.map arr clock) w:=by simp[getObj,Sem.run,h1]
   split at hq
   ·rename_i p hf;cases hq;obtain⟨rc,f1,f2,f3⟩:=mi.find (w:=w) hkc hf;obtain⟨e,c,g1,g2,g3,rfl,g5⟩:=f3 p.1 p.2 rfl;have hent:=mi.ent _ e c g1 g2;have hv:=hent.2.2;rw[g3]at hv;have hmod:(arr.modify p.1 fun e=>{ e with key:=kc,val:=c.val })=arr.modify p.1 fun e=>{ e with key:=kc }:=by
     apply Yao;intro j;simp only[YaF];by_cases hj:p.1=j
     ·subst hj;rw[Yi rfl,Yi rfl,g2];rfl
     rw[Ye hj,Ye hj]
    obtain⟨s1,s2,s3⟩:=zd0 h1 (.map (arr.modify p.1 fun e=>{ e with key:=kc }) clock);refine⟨g,{ w with heap:=w.heap.setIfInBounds T1.c (.map (arr.modify p.1 fun e=>{ e with key:=kc }) clock) },.tuple #[c.val,.int .i64 (c.born:Nat)],?_,?_,Post.put h hDb hg hm s1 s2 s3 rfl ⟨rfl,Yc _⟩ rfl (hmod▸zvs mi hk hv)⟩
    ·simp[Instr.mapEntry,run_underlying hu,hgo,hkc.isKey (w:=w) _ 9998,f1,g2,g5,hkc.stays (w:=w),zgL h1,goInt]
    refine zjg hv ?_;have:zx2 es p.1=c.born:=by unfold zx2;rw[g1];exact hent.1.symm
    rw[this];exact .int _ _
   ·rename_i hf;cases hq;obtain⟨rc,f1,f2,f3⟩:=mi.find (w:=w) hkc hf;obtain rfl:=f2 rfl;obtain⟨s1,s2,s3⟩:=zd0 h1 (.map (arr.push { key:=kc,val:=z,born:=clock }) (clock+1));refine⟨g,{ w with heap:=w.heap.setIfInBounds T1.c (.map (arr.push { key:=kc,val:=z,born:=clock }) (clock+1)) },.tuple #[z,.int .i64 (clock:Nat)],?_,zjg (zdn g z) (.int _ _),Post.put h hDb hg hm s1 s2 s3 rfl ⟨rfl,Yc _⟩ rfl (zpF mi hk (zdn g z))⟩;simp[Instr.mapEntry,run_underlying hu,hgo,hkc.isKey (w:=w) _ 9998,f1,zgL h1,za5 hz,goInt]
   cases hq
def zir {s:Int}{x:V}{xc:Value}(hx:VRel g x xc):∀(es es':List (Nat×V×V))(l:List MapEntry),zjw s x es=some es'→l.length=es.length→(∀(j:Nat)(e:Nat×V×V)(c:MapEntry),es[j]? =some e→l[j]? =some c→c.born=e.1∧VRel g e.2.1 c.key∧VRel g e.2.2 c.val)→∃i,l.findIdx? (fun e=>(e.born:Int)==s)=some i∧es'.length=es.length∧∀(j:Nat)(e:Nat×V×V)(c:MapEntry),es'[j]? =some e→(l.modify i fun e=>{ e with val:=xc })[j]? =some c→c.born=e.1∧VRel g e.2.1 c.key∧VRel g e.2.2 c.val
 |[],_,_,h,_,_=>by cases h
 |e::es,es',l,h,hl,hr=>by
  match l,hl,hr with
  |c::l,hl,hr=>
   have h0:=hr 0 e c rfl rfl;unfold zjw at h;split at h
   ·rename_i hd;cases h;have hd':(e.1:Int)=s:=by simpa using hd
    refine⟨0,by simp[Ybj,h0.1,hd'],rfl,fun j e' c' he hc=>?_⟩;cases j with
    |zero=>simp at he hc;subst he hc;exact⟨h0.1,h0.2.1,hx⟩
    |succ j=>exact hr (j+1) e' c' (by simpa using he) (by simpa using hc)
   rename_i hd;have hd':¬(e.1:Int)=s:=by simpa using hd
   split at h
   ·rename_i l1 h1;cases h;obtain⟨i,i1,i2,i3⟩:=zir hx es l1 l h1 (by simpa using hl) (fun j e' c' he hc=>hr (j+1) e' c' (by simpa using he) (by simpa using hc));refine⟨i+1,by simp[Ybj,h0.1,hd',i1],by simp[i2],fun j e' c' he hc=>?_⟩;cases j with
    |zero=>simp at he hc;subst he hc;exact h0
    |succ j=>exact i3 j e' c' (by simpa using he) (by simpa using hc)
   cases h
def zhO(h:Inv g base H D w){t:TypeId}{m s x:V}{mc sc xc:Value}(hm:VRel g m mc)(hs:VRel g s sc)(hx:VRel g x xc)(hp:(XR.ar H (zaK m s x H)).pre)(hD:∀b∈(XR.ar H (zaK m s x H)).R,D b):SndU P g base H D w (XR.ar H (zaK m s x H)) (Instr.entryStore t mc sc xc):=by
 cases hq:zaK m s x H with
 |none=>rw[hq]at hp;exact hp.elim
 |some q=>
  rw[hq]at hD;clear hp;unfold zaK at hq;split at hq;rotate_left;·cases hq
  rename_i b k n;split at hq;rotate_left;·cases hq
  rename_i es clock hg;split at hq;rotate_left;·cases hq
  rename_i es' he;cases hq;have hDb:=hD b (by simp[XR.ar]);obtain rfl:=hs.inv_int;cases hm with
  |map hm=>
   rename_i T;obtain⟨T1,o,m1,p1,h1,r1⟩:=h.cont b _ hDb hg;obtain rfl:=ZT hm m1;obtain⟨arr,mi⟩:=r1.mapIs;obtain rfl:=mi.obj;have hgo:(getObj T1.c).run P w=.ok (.map arr clock) w:=by simp[getObj,Sem.run,h1]
   obtain⟨i,i1,i2,i3⟩:=zir hx es es' arr.toList he (by simpa using mi.size) (fun j e c he hc=>mi.ent j e c he (by simpa using hc));obtain⟨s1,s2,s3⟩:=zd0 h1 (.map (arr.modify i fun e=>{ e with val:=xc }) clock);refine⟨rfl,g,{ w with heap:=w.heap.setIfInBounds T1.c (.map (arr.modify i fun e=>{ e with val:=xc }) clock) },?_,Post.put h hDb hg hm s1 s2 s3 rfl ⟨rfl,Yc _⟩ rfl (MapIs.rel (by rw[Array.size_modify,i2];exact mi.size) fun j e c he hc=>i3 j e c he ?_)⟩
   ·have i1':arr.findIdx? (fun e=>(e.born:Int)==n)=some i:=by obtain⟨l⟩:=arr;simpa using i1
    simp[Instr.entryStore,hgo,asInt,asIntOf,i1',zgL h1]
   rw[←YF,Array.toList_modify]at hc;exact hc
def ztv(h:Inv g base H D w){t:TypeId}{x:V}{xc:Value}(hx:VRel g x xc)(hp:(XR.ar H (zdm P t x H)).pre)(hD:∀b∈(XR.ar H (zdm P t x H)).R,D b):Snd P g base H D w (XR.ar H (zdm P t x H)) (Instr.range t xc):=by
 cases hq:zdm P t x H with
 |none=>rw[hq]at hp;exact hp.elim
 |some q=>
  rw[hq]at hD;clear hp;unfold zdm at hq;split at hq
  ·rename_i p hmt;cases hq;cases hx;have hu:=zfB (kt:=p.1) (et:=p.2) hmt;refine⟨_,w.alloc (.mapIter none 0 #[] 0),.pointer (some ⟨w.heap.size,0,none⟩),by simp[Instr.range,run_underlying hu],?_,Post.new h (o:=.mapIter none 0 #[] 0) (tot:=0) rfl rfl ⟨rfl,Yc _⟩ rfl (.it0 rfl)⟩;exact .ptr (T:=⟨w.heap.size,0,0⟩) (by simp[G.add])
  ·rename_i p b hmt;have hu:=zfB (kt:=p.1) (et:=p.2) hmt;split at hq;rotate_left;·cases hq
   rename_i es clock hg;cases hq;have hDb:=hD b (by simp[XR.ar]);cases hx with
   |map hm=>
    rename_i T;obtain⟨T1,o,m1,p1,h1,r1⟩:=h.cont b _ hDb hg;obtain rfl:=ZT hm m1;obtain⟨arr,mi⟩:=r1.mapIs;obtain rfl:=mi.obj;have hgo:(getObj T1.c).run P w=.ok (.map arr clock) w:=by simp[getObj,Sem.run,h1]
    refine⟨_,w.alloc (.mapIter (some T1.c) clock #[] clock),.pointer (some ⟨w.heap.size,0,none⟩),by simp[Instr.range,run_underlying hu,hgo],?_,Post.new h (o:=.mapIter (some T1.c) clock #[] clock) (tot:=0) rfl rfl ⟨rfl,Yc _⟩ rfl
     (.it (cur:=none) rfl hm (fun n hn=>by have:(es.map (·.1)).contains n=true:=Ybl.2 hn;show (#[]:Array Nat).contains n= !(es.map (·.1)).contains n;rw[this];simp) rfl)⟩
    exact .ptr (T:=⟨w.heap.size,0,0⟩) (by simp[G.add])
  ·rename_i s hmt;split at hq;rotate_left;·cases hq
   rename_i hu;cases hq;obtain⟨ba,rfl,hba⟩:=hx.inv_str;refine⟨_,w.alloc (.stringIter ba 0),.pointer (some ⟨w.heap.size,0,none⟩),by simp[Instr.range,run_underlying hu],?_,Post.new h (o:=.stringIter ba 0) (tot:=0) rfl rfl ⟨rfl,Yc _⟩ rfl (.si rfl hba)⟩;exact .ptr (T:=⟨w.heap.size,0,0⟩) (by simp[G.add])
  cases hq
def ztw(h:Inv g base H D w){ty:TypeId}{x:V}{xc:Value}(hx:VRel g x xc)(hp:(XR.ar H (zea x H)).pre)(hD:∀b∈(XR.ar H (zea x H)).R,D b):Snd P g base H D w (XR.ar H (zea x H)) (Instr.next xc true ty):=by
 cases hq:zea x H with
 |none=>rw[hq]at hp;exact hp.elim
 |some q=>
  rw[hq]at hD;clear hp;unfold zea at hq;split at hq;rotate_left;·cases hq
  rename_i b;obtain⟨T,hm,rfl⟩:=hx.inv_ptr;split at hq;rotate_left;·cases hq
  rename_i s pos hg;have hDb:D b:=by split at hq<;>(cases hq;exact hD b (by simp[XR.ar]))
  obtain⟨T1,o,m1,p1,h1,r1⟩:=h.cont b _ hDb hg;obtain rfl:=ZT hm m1;cases r1 with
  |@si _ _ _ ba hsh hba=>
   have hsz:ba.size=s.length:=by rw[←hba];rfl
   have hbe:(⟨s.toArray⟩:ByteArray)=ba:=by rw[←hba]
   split at hq
   ·rename_i hlt;cases hq;have hd:dec8 s pos=Utf8.decode ba pos:=by unfold dec8;rw[hbe]
    refine⟨g,w.iterAt T1.c ba (pos+(Utf8.decode ba pos).2),.tuple #[.bool true,.int .i64 pos,.int .i32 (Utf8.decode ba pos).1],?_,Xf rfl fun i y hy=>?_,?_⟩
    ·rw[hsh];exact Lib.run_next_any_at w T1.c ba pos ty h1 Zo
    ·match i,hy with
     |0,hy=>cases hy;exact⟨_,rfl,.bool _⟩
     |1,hy=>cases hy;exact⟨_,rfl,.int _ _⟩
     |2,hy=>cases hy;rw[hd];exact⟨_,rfl,.int _ _⟩
    have hlt:=(YA.1 h1).1;refine Post.put h hDb hg hm (o:=.stringIter ba (pos+(Utf8.decode ba pos).2)) ?_ (fun c hc=>?_) ?_ rfl ⟨rfl,Yc _⟩ rfl (by rw[hd];exact .si hsh hba)
    ·simp[World.iterAt,hlt]
    ·simp[World.iterAt,Array.getElem?_setIfInBounds,Ne.symm hc]
    simp[World.iterAt]
   rename_i hlt;cases hq;refine⟨g,w,.tuple #[.bool false],?_,Xf rfl fun i y hy=>?_,Post.refl h rfl rfl ⟨rfl,Yc _⟩ rfl⟩
   ·rw[hsh];exact Lib.run_next_end_at w T1.c ba pos ty h1 Zo
   match i,hy with
   |0,hy=>cases hy;exact⟨_,rfl,.bool _⟩
def xCap_ok(h:Inv g base H D w){t ty:TypeId}{ts:Array TypeId}(ht:ts[0]? =some t){x:V}{xc:Value}(hx:VRel g x xc)(hp:(XR.ar H (xCap P t x H)).pre):Snd P g base H D w (XR.ar H (xCap P t x H)) (Builtin.cap_ ts ty #[xc]):=by
 cases hq:xCap P t x H with
 |none=>rw[hq]at hp;exact hp.elim
 |some q=>
  unfold xCap at hq;split at hq
  ·rename_i hu;cases hq;cases hx;exact Snd.val h _ (by simp[Builtin.cap_,ht,run_underlying hu,goInt]) (.int _ _)
  ·rename_i hu;cases hq;obtain⟨T,o,cap,_,_,_,hk,rfl⟩:=hx.inv_sl;obtain rfl:=hk _ rfl;exact Snd.val h _ (by simp[Builtin.cap_,ht,run_underlying hu,goInt]) (.int _ _)
  cases hq
def zi5(h:Inv g base H D w){ty:TypeId}{ts:Array TypeId}{x:V}{xc:Value}(hx:VRel g x xc)(hp:(XR.ar H (zaR x H)).pre):Snd P g base H D w (XR.ar H (zaR x H)) (Builtin.unsafeSliceData_ ts ty #[xc]):=by
 cases hq:zaR x H with
 |none=>rw[hq]at hp;exact hp.elim
 |some q=>
  unfold zaR at hq;split at hq
  ·cases hq;cases hx;exact Snd.val h _ (Lib.run_unsafeSliceData_nil w ts ty 0 0) .nilP
  ·cases hq;obtain⟨T,o,cap,hm,hl,ho,_,rfl⟩:=hx.inv_sl;obtain⟨rfl,_⟩:=ho Zo;exact Snd.val h _ (Lib.run_unsafeSliceData_row w ts ty _ _ cap Zo) (.ptr hm)
  cases hq
def zqH(h:Inv g base H D w){pt it ty:TypeId}{x n:V}{xc nc:Value}(hx:VRel g x xc)(hn:VRel g n nc)(hp:(XR.ar H (zb2 P pt x n H)).pre)(hD:∀b∈(XR.ar H (zb2 P pt x n H)).R,D b):Snd P g base H D w (XR.ar H (zb2 P pt x n H)) (Builtin.unsafeString_ #[pt,it] ty #[xc,nc]):=by
 cases hq:zb2 P pt x n H with
 |none=>rw[hq]at hp;exact hp.elim
 |some q=>
  rw[hq]at hD;clear hp;unfold zb2 at hq;split at hq;rotate_left;·cases hq
  rename_i m;obtain rfl:=hn.inv_int;split at hq
  ·rename_i hm;obtain rfl:m=0:=by simpa using hm
   split at hq
   ·cases hq;cases hx;exact Snd.val h _ (Lib.run_unsafeString_none w pt it ty none) (.str rfl)
   ·cases hq;obtain⟨T,_,rfl⟩:=hx.inv_ptr;exact Snd.val h _ (Lib.run_unsafeString_none w pt it ty _) (.str rfl)
   cases hq
  split at hq;rotate_left;·cases hq
  rename_i b e hu;split at hq;rotate_left;·cases hq
  rename_i t cs hg;split at hq;rotate_left;·cases hq
  rename_i l hc hb;cases hq;simp only[Yn]at hc;obtain⟨rfl,hsz,h0,hle,h63,hcb⟩:=hc;have hDb:=hD b (by simp[XR.ar]);obtain⟨T,hm,rfl⟩:=hx.inv_ptr;obtain⟨T1,o,m1,p1,h1,r1⟩:=h.cont b _ hDb hg;obtain rfl:=ZT hm m1;obtain⟨arr,rfl,hs,hbd,hsh,hpw⟩:=r1.ty_row;obtain⟨ns,e1,e2⟩:=zdS hb;have hlen:ns.length=m.toNat:=by have:=Ya1 List.length e1;simp at this;omega
  have hll:l.length=m.toNat:=by rw[e2];simp[hlen]
  have hbytes:∀(j:Nat)(hj:j<ns.length)(x:UInt8),l[j]? =some x→ns[j]=(x.toNat:Int):=by intro j hj x hx';have hb':(cs.take m.toNat).all isByte=true:=hcb;rw[Yl]at hb';have hm:=hb' (.int .u8 ns[j]) (by rw[e1];exact YZ.2 ⟨_,Y1 hj,rfl⟩);rw[e2]at hx';simp only[YT,Yb hj,Yap,Yx]at hx';subst hx';simp only[isByte,Yj,Yn]at hm;simp;omega
  have hcell:∀j x,l[j]? =some x→w.cell? ((⟨T1.c,0,none⟩:Addr).add j)=some (.int .u8 x.toNat):=by
   intro j x hx';have hj:j<ns.length:=by have:=(Ys.1 hx').1;omega
   rw[za1,cell_of h1];obtain⟨v,hv,rv⟩:=(hpw.take m.toNat) j (.int .u8 ns[j]) (by rw[e1];simp[hj]);have hv':arr[T1.sh+j]? =some v:=hv;rw[hsh]at hv';rw[hv',rv.inv_int];have hns:ns[j]=(x.toNat:Int):=by obtain⟨v,hv,rv⟩:=hpw j (.int .u8 ns[j]) (by have:=Ya1 (fun l=>l[j]?) e1;simp only[Yba,YT]at this;rw[Yi Zo]at this;rw[this];simp[hj]);exact hbytes j hj x hx'
   rw[hns]
  have hrun:=Lib.run_unsafeString_row w pt it ty t hu (cellsOf_size hsz) T1.c arr.size (by simp[World.shape?,h1]) l (by intro e;rw[e]at hll;simp at hll;omega) Zo Zo hcell;rw[hll]at hrun;have hmm:((m.toNat:Nat):Int)=m:=Int.toNat_of_nonneg Zo;rw[hmm]at hrun;have hfz:∀(a:Addr)(n:Nat),a.block=T1.c→(∀c,c≠T1.c→(w.freeze a n).heap[c]? =w.heap[c]?)∧(w.freeze a n).heap.size=w.heap.size∧(w.freeze a n).os=w.os∧Tp w (w.freeze a n)∧(w.freeze a n).output=w.output:=by
   intro a n ha;unfold World.freeze;split
   ·exact⟨fun _ _=>rfl,rfl,rfl,⟨rfl,Yc _⟩,rfl⟩
   refine⟨fun c hc=>?_,Zs,rfl,⟨rfl,Yc _⟩,rfl⟩;simp only[YaF];rw[Ye (by rw[ha];exact fun e=>hc e.symm)]
  obtain⟨f1,f2,f3,f4,f5⟩:=hfz ⟨T1.c,0,none⟩ m.toNat rfl;refine⟨g,w.freeze ⟨T1.c,0,none⟩ m.toNat,.string ⟨l.toArray⟩,?_,.str rfl,Post.dead h hDb hg hm f1 f2 f3 f4 f5⟩;rw[hsh];exact hrun
def zj9 {m:Option Nat}{bs left:ZN}{since last:Nat}{cur:Option Nat}{T:Tgt}{o:Obj}(r:BlkRel g (.it m bs left since last cur) T o):T.sh=0∧((m=none∧∃seen,o=.mapIter none since seen last)∨∃k Tm seen,m=some k∧g.mu k=some Tm∧o=.mapIter (some Tm.c) since seen last∧(∀n∈bs,seen.contains n= !left.contains n)∧seen.back? =cur):=by
 cases r with
 |it0 h=>exact⟨h,.inl ⟨rfl,_,rfl⟩⟩
 |it h hm hs hc=>exact⟨h,.inr ⟨_,_,_,rfl,hm,rfl,hs,hc⟩⟩
def set_iter {w:World}{c:Nat}{m:Option Nat}{s:Nat}{seen:Array Nat}{l:Nat}(h:w.heap[c]? =some (.mapIter m s seen l))(o':Obj):(setObj c o').run P w=.ok () { w with heap:=w.heap.setIfInBounds c o' }:=by simp[setObj,Sem.run,h]
def zsA {es:List (Nat×V×V)}{clock:Nat}{o:Obj}{arr:Array MapEntry}(mi:MapIs g es clock o arr)(p:Nat→Bool):∀c∈arr.toList.filter (fun e=>p e.born),∃e∈es.filter (fun e=>p e.1),c.born=e.1∧VRel g e.2.1 c.key∧VRel g e.2.2 c.val:=by
 intro c hc;obtain⟨h1,h2⟩:=YaH.1 hc;obtain⟨j,hj,he⟩:=Ybs h1;have hjs:j<es.length:=by have:=mi.size;simp at hj;omega
 have hc':arr[j]? =some c:=by rw[←YF,Yb hj,he]
 obtain⟨e1,e2,e3⟩:=mi.ent j es[j] c (by simp[hjs]) hc';exact⟨es[j],YaH.2 ⟨Y1 hjs,by rw[←e1];exact h2⟩,e1,e2,e3⟩
def filter_nil {es:List (Nat×V×V)}{clock:Nat}{o:Obj}{arr:Array MapEntry}(mi:MapIs g es clock o arr)(p:Nat→Bool)(h:arr.toList.filter (fun e=>p e.born)=[]):es.filter (fun e=>p e.1)=[]:=by
 rw[List.filter_eq_nil_iff]at h ⊢;intro e he;obtain⟨j,hj,hej⟩:=Ybs he;have hja:j<arr.size:=by have:=mi.size;omega
 have:=(mi.ent j e arr[j] (by rw[Yb hj,hej]) (by simp[hja])).1;have h2:=h arr[j] Zs;rw[this]at h2;exact h2
def xNext_ok(h:Inv g base H D w){ty:TypeId}{x:V}{xc:Value}{l:List XR}(hx:VRel g x xc)(hq:zqJ x H=some l)(hD:∀q∈l,∀b∈q.R,D b):∃q∈l,Snd P g base H D w ⟨True,q.v,q.h,q.R,q.W⟩ (Instr.next xc false ty):=by
 unfold zqJ at hq;split at hq;rotate_left;·cases hq
 rename_i b;obtain⟨T,hm,rfl⟩:=hx.inv_ptr;split at hq
 ·rename_i bs left since last cur hg;cases hq;have hDb:=hD _ (YK ..) b Zs;obtain⟨T1,o,m1,p1,h1,r1⟩:=h.cont b _ hDb hg;obtain rfl:=ZT hm m1;obtain⟨hsh,⟨_,seen,rfl⟩|⟨k,Tm,seen,e,_⟩⟩:=zj9 r1;rotate_left;·cases e
  refine⟨_,YK ..,g,w,.tuple #[.bool false],?_,Xf rfl fun i y hy=>?_,(Post.refl h rfl rfl ⟨rfl,Yc _⟩ rfl).kill⟩
  ·rw[hsh];simp[Instr.next,getObj,Sem.run,h1]
  match i,hy with
  |0,hy=>cases hy;exact⟨_,rfl,.bool _⟩
 ·rename_i m bs left since last cur hg;split at hq;rotate_left;·cases hq
  rename_i es clock hgm;split at hq;rotate_left;·cases hq
  rename_i hc;simp only[Yj,Yn,Yl]at hc;obtain⟨⟨hbs,hsl⟩,hold⟩:=hc;have hDbm:D b∧D m:=by
   split at hq
   ·cases hq;exact⟨hD _ (YK ..) b Zs,hD _ (YK ..) m Zs⟩
   cases hq;exact⟨hD _ (YK ..) b Zs,hD _ (YK ..) m Zs⟩
  obtain⟨hDb,hDm⟩:=hDbm;obtain⟨T1,o,m1,p1,h1,r1⟩:=h.cont b _ hDb hg;obtain rfl:=ZT hm m1;obtain⟨hsh,⟨e,_⟩|⟨k,Tm,seen,e,hmk,rfl,hsn,hcur⟩⟩:=zj9 r1
  ·cases e
  cases e;obtain⟨T2,o2,m2,p2,h2,r2⟩:=h.cont m _ hDm hgm;obtain rfl:T2=Tm:=by rw[hmk]at m2;exact(Yh m2).symm
  obtain⟨arr,mi⟩:=r2.mapIs;obtain rfl:=mi.obj;have hborn:∀c∈arr.toList,c.born∈bs:=by
   intro c hc;obtain⟨j,hj,he⟩:=Ybs hc;have hjs:j<es.length:=by have:=mi.size;simp at hj;omega
   have hc':arr[j]? =some c:=by rw[←YF,Yb hj,he]
   rw[(mi.ent j es[j] c (by simp[hjs]) hc').1,←hbs];exact YZ.2 ⟨_,Y1 hjs,rfl⟩
  have hold':∀c∈arr.toList,c.born<since:=fun c hc=>by have:=hold _ (hborn c hc);exact Nat.blt_eq▸this
  have htest:=next_test_false seen arr since last hold' hsl;have hL:(arr.filter fun e=> !seen.contains e.born)=(arr.toList.filter fun e=>left.contains e.born).toArray:=by obtain⟨al⟩:=arr;simp only[List.filter_toArray',List.size_toArray];congr 1;apply List.filter_congr;intro e he;rw[hsn _ (hborn e he),Bool.not_not]
  have hmem:∀c∈arr.toList.filter (fun e=>left.contains e.born),c∈arr.toList:=fun c hc=>(YaH.1 hc).1;generalize hLd:arr.toList.filter (fun e=>left.contains e.born)=L at hL hmem;have eold:(L.toArray.filter fun x=>decide (x.born<since))=L.toArray:=Array.filter_eq_self.2 fun x hx=>by simpa using hold' x (hmem x (by simpa using hx))
  have enew:(L.toArray.filter fun x=>decide (x.born≥since))=#[]:=by rw[Array.filter_eq_empty_iff];intro x hx;have:=hold' x (hmem x (by simpa using hx));simp;omega
  have hrun0:(Instr.next (.pointer (some ⟨T1.c,T1.sh+0,none⟩)) false ty).run P w=
   ((do
    match ((if L.toArray.isEmpty then #[none]else #[])++L.toArray.map some)[←choose (.mapNext ((if L.toArray.isEmpty then #[none]else #[])++L.toArray.map some).size)]? with
    |some (some e)=>
     setObj T1.c (.mapIter (some T2.c) since (seen.push e.born) clock)
     pure (.tuple #[.bool true,e.key,e.val])
    |some none=>pure (.tuple #[.bool false])
    |none=>stuck "Next: no such candidate"):Sem Value).run P w:=by
   rw[hsh]
   simp only[Instr.next,getObj,Sem.run_bind,Sem.run,h1,h2,Result.andThen,htest,Y2,if_false,hL,eold,enew,Array.append_empty]
   rfl
  cases hLe:L with
  |nil=>
   have hes:=filter_nil mi (fun n=>left.contains n) (hLd.trans hLe);rw[hes]at hq;cases hq;refine⟨_,YK ..,g,w,.tuple #[.bool false],?_,Xf rfl fun i y hy=>?_,(Post.refl h rfl rfl ⟨rfl,Yc _⟩ rfl).kill⟩
   ·rw[hrun0,hLe];simp[choose,Sem.run,Question.forced]
   match i,hy with
   |0,hy=>cases hy;exact⟨_,rfl,.bool _⟩
  |cons c0 L0=>
   have hne:L.toArray.isEmpty=false:=by rw[hLe];rfl
   have hch:∃(j:Nat)(w1:World),j<L.length∧w1.heap=w.heap∧w1.os=w.os∧Tp w w1∧w1.output=w.output∧(choose (Question.mapNext L.length)).run P w=.ok j w1:=by
    by_cases hf:L.length≤1
    ·exact⟨0,w,by rw[hLe];simp,rfl,rfl,.refl _,rfl,by simp[choose,Sem.run,Question.forced,hf]⟩
    refine⟨_,{ w with drawn:=w.drawn+1 },YaL (w.tape w.drawn (Question.mapNext L.length)) (show 0<L.length by omega),rfl,rfl,⟨rfl,zsF (Ya7 _)⟩,rfl,?_⟩;simp only[choose,Sem.run,Question.forced,Yn,hf,if_false,Question.cut]
   obtain⟨j,w1,hj,a1,a2,a3,a4,hrun⟩:=hch;have hcj:L[j]∈arr.toList.filter (fun e=>left.contains e.born):=by rw[hLd];exact Y1 hj
   obtain⟨e,hel,e1,e2,e3⟩:=zsA mi (fun n=>left.contains n) _ hcj;have hql:(XR.mk (.tup [.bool true,e.2.1,e.2.2]) (H.put b (.it (some m) bs (left.filter fun n=> !Nat.beq n e.1) since clock (some e.1))) [b,m] [b])∈l:=by
    split at hq
    ·rename_i hes;rw[hes]at hel;cases hel
    rename_i x y hes;rw[hes]at hel;cases hq;exact YZ.2 ⟨e,hel,rfl⟩
   refine⟨_,hql,g,{ w1 with heap:=w1.heap.setIfInBounds T1.c (.mapIter (some T2.c) since (seen.push (L[j]).born) clock) },.tuple #[.bool true,(L[j]).key,(L[j]).val],?_,?_,?_⟩
   ·have h1':w1.heap[T1.c]? =some (.mapIter (some T2.c) since seen last):=by rw[a1];exact h1
    rw[hrun0];simp only[hne,Y2,if_false,Array.empty_append,Array.size_map,List.size_toArray,Sem.run_bind,hrun,Result.andThen_ok,Yby,List.getElem?_toArray,Yb hj,Yap,
     set_iter h1']
    rfl
   ·refine Xf rfl fun i y hy=>?_;match i,hy with
    |0,hy=>cases hy;exact⟨_,rfl,.bool _⟩
    |1,hy=>cases hy;exact⟨_,rfl,e2⟩
    |2,hy=>cases hy;exact⟨_,rfl,e3⟩
   obtain⟨s1,s2,s3⟩:=zd0 h1 (.mapIter (some T2.c) since (seen.push (L[j]).born) clock);refine Post.put h hDb hg hm (o:=.mapIter (some T2.c) since (seen.push (L[j]).born) clock) (by rw[a1];exact s1) (fun k hk=>by rw[a1];exact s2 k hk) (by rw[a1];exact s3) a2 ⟨a3.eq,a3.le⟩ a4 ?_;refine .it hsh hmk (fun n hn=>?_) (by rw[Array.back?_push,e1]);have hsn':=hsn n hn;rw[e1];by_cases hne':n=e.1
   ·subst hne';have:(left.filter fun n=> !Nat.beq n e.1).contains e.1=false:=Zs;rw[this];simp
   have h3:(seen.push e.1).contains n=seen.contains n:=by simp[hne']
   have h4:(left.filter fun n=> !Nat.beq n e.1).contains n=left.contains n:=by
    rw[Ybn];simp only[Ybl,YaH];constructor
    ·exact fun q=>q.1
    intro q;refine⟨q,?_⟩;have:Nat.beq n e.1=false:=by
     cases hb:Nat.beq n e.1 with
     |false=>rfl
     |true=>exact absurd (Ybm hb) hne'
    rw[this];rfl
   rw[h3,h4,hsn']
 cases hq
def zhw {n:Nat}{kv:V×V}:∀(es:List (Nat×V×V))(l:List MapEntry),ze2 n es=some kv→l.length=es.length→(∀(j:Nat)(e:Nat×V×V)(c:MapEntry),es[j]? =some e→l[j]? =some c→c.born=e.1∧VRel g e.2.1 c.key∧VRel g e.2.2 c.val)→∃c,l.find? (fun e=>e.born==n)=some c∧VRel g kv.1 c.key∧VRel g kv.2 c.val
 |[],_,h,_,_=>by cases h
 |e::es,l,h,hl,hr=>by
  match l,hl,hr with
  |c::l,hl,hr=>
   have h0:=hr 0 e c rfl rfl;unfold ze2 at h;split at h
   ·rename_i hb;cases h;have hb':=Ybm hb;exact⟨c,by simp[h0.1,hb'],h0.2⟩
   rename_i hb;have hb':¬e.1=n:=fun e'=>by rw[e',Nat.beq_refl]at hb;cases hb
   obtain⟨c',i1,i2⟩:=zhw es l h (by simpa using hl) (fun j e' c' he hc=>hr (j+1) e' c' (by simpa using he) (by simpa using hc));exact⟨c',by simp[h0.1,hb',i1],i2⟩
def ztx(h:Inv g base H D w){x:V}{xc:Value}(hx:VRel g x xc)(hp:(XR.ar H (zeE x H)).pre)(hD:∀b∈(XR.ar H (zeE x H)).R,D b):Snd P g base H D w (XR.ar H (zeE x H)) (Instr.entry xc):=by
 cases hq:zeE x H with
 |none=>rw[hq]at hp;exact hp.elim
 |some q=>
  rw[hq]at hD;clear hp;unfold zeE at hq;split at hq;rotate_left;·cases hq
  rename_i b;split at hq;rotate_left;·cases hq
  rename_i m bs left since last c hg;split at hq;rotate_left;·cases hq
  rename_i es clock hgm;split at hq;rotate_left;·cases hq
  rename_i kv hcl hfb;cases hq;have hDb:=hD b (by simp[XR.ar]);have hDm:=hD m (by simp[XR.ar]);obtain⟨T,hm,rfl⟩:=hx.inv_ptr;obtain⟨T1,o,m1,p1,h1,r1⟩:=h.cont b _ hDb hg;obtain rfl:=ZT hm m1;obtain⟨hsh,⟨e,_⟩|⟨k,Tm,seen,e,hmk,rfl,hsn,hcur⟩⟩:=zj9 r1
  ·cases e
  cases e;obtain⟨T2,o2,m2,p2,h2,r2⟩:=h.cont m _ hDm hgm;obtain rfl:T2=Tm:=by rw[hmk]at m2;exact(Yh m2).symm
  obtain⟨arr,mi⟩:=r2.mapIs;obtain rfl:=mi.obj;obtain⟨ce,f1,f2,f3⟩:=zhw es arr.toList hfb (by simpa using mi.size) (fun j e c he hc=>mi.ent j e c he (by simpa using hc));have f1':arr.find? (fun e=>e.born==c)=some ce:=by rw[←Array.find?_toList];exact f1
  have hcl':=Ybm hcl;subst hcl';refine Snd.val h _ (v:=.tuple #[ce.key,ce.val]) ?_ (zjg f2 f3);rw[hsh];simp only[Instr.entry,getObj,Sem.run_bind,Sem.run,h1,h2,Result.andThen,hcur,bne_self_eq_false,Y2,if_false,f1'];rfl
end
end Go.Ab
