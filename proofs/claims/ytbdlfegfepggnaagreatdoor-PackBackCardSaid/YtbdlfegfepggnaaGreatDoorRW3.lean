/- Pack's reader: strings, and weights. -/
import Derived.Test.YtbdlfegfepggnaaGreatDoorRA3
set_option linter.all false
set_option maxHeartbeats 16000000
set_option maxRecDepth 100000
noncomputable section
namespace Go.Proofs
open Tryz Go.Ab Go.Pl Go.Cnt
attribute [local go_sem] zaO
def AXa.fzW {C:Cfg}{P:Program}{K:Out→St→Prop}{st:List Fr}{y:Code}{env env':Env}{bs bs':ZH}{n n':Nat}(fl:ZN)(hW:∀b∈C.Wm,b<C.nx∧(zG bs b).isSome=true)(hl:∀b∈fl,C.nx≤b∧(zG bs b).isSome=true) (he:fzE (· ∈fl) n' ⟨bs,n⟩ env env') (hh:fzH (· ∈fl) n' bs bs') (hel:∀b,b<C.nx→zG bs' b=zG bs b) (hn:C.nx≤n') (hx:AXa C P K st y env' ⟨bs',n'⟩):AXa C P K st y env ⟨bs,n⟩:=
 AXa.fz3 fl bs' hW hl he (fun b x' e=>let ⟨h1,h2,x,h3,h4⟩:=zwm hh b x' ((zC bs' b).trans e);⟨h1,h2,x,h3,.inl h4⟩) hel hn hx
def zdt(most:Nat):Nat→Str→ZL→Option (List Str×ZL)
 |0,_,l=>some ([],l)
 |k+1,last,l=>
  match vdec 5 l with
  |none=>none
  |some (a,l1)=>
   if a≤last.length then
    match vdec 5 l1 with
    |none=>none
    |some (b,l2)=>if a+b≤most∧b≤l2.length then(zdt most k (last.take a++l2.take b) (l2.drop b)).map fun p=>((last.take a++l2.take b)::p.1,p.2)else none
   else none
def zmc {most k:Nat}{last:Str}{l:ZL}{sr:List Str}{r:ZL}(h:zdt most (k+1) last l=some (sr,r)):∃a l1 b l2 sr',vdec 5 l=some (a,l1)∧a≤last.length∧vdec 5 l1=some (b,l2)∧a+b≤most∧b≤l2.length∧zdt most k (last.take a++l2.take b) (l2.drop b)=some (sr',r)∧sr=(last.take a++l2.take b)::sr':=by
 rw[zdt]at h;cases h1:vdec 5 l with
 |none=>rw[h1]at h;cases h
 |some p=>
  obtain⟨a,l1⟩:=p;rw[h1]at h;dsimp only at h;split at h
  ·rename_i ha;cases h2:vdec 5 l1 with
   |none=>rw[h2]at h;cases h
   |some p=>
    obtain⟨b,l2⟩:=p;rw[h2]at h;dsimp only at h;split at h
    ·rename_i hb;obtain⟨⟨sr',r'⟩,f1,f2⟩:=YN.1 h;cases f2;exact⟨a,l1,b,l2,sr',rfl,ha,h2,hb.1,hb.2,f1,rfl⟩
    cases h
  cases h
def xfV(l:List Str):V:=match l with|[]=>.nilS|_::_=>.sl 1 0 l.length 1 none
def xfB(l:List Str)(x:Blk):ZH:=match l with|[]=>[(0,x)]|_::_=>[(1,.cells (strs l)),(0,x)]
def xfN(l:List Str):Nat:=match l with|[]=>1|_::_=>2
def xfold_N(l:ZL)(q:Int)(n most:Nat)(ss:List Str)(r:ZL)(hl:l.length≤80000000)(hm:most≤1000000)(hn:n≤100000000)(hv:zdt most n [] l=some (ss,r)):NCall prog 72 [.ptr 0 0,.int .i64 n,.int .i64 most] [rdB l q] [0] (.fs (strs ss) ss.length) ⟨[(0,rdB r q)],1⟩:=by
 unfold rdB;refine Xi (rs:=[.tmp 6]) [0,1,2,6,7,8,9,10,11] [] 1 [0] mixed (zh) (zkQ) call72 func72 rfl ntmps72 rfl Zk Zs Zs Zs Zs ?_;simp only[go_sem];refine AXs.loop mixed (zh) (zkQ) (ι:=Nat×Str×ZL×List Str) (fun i=>[(10,.int .i64 (i.1:Nat)),(9,.int .i64 (n:Nat)),(7,.str i.2.1),(6,xfV i.2.2.2),(2,.int .i64 (most:Nat)),(0,.ptr 0 0)]) (fun i=>⟨xfB i.2.2.2 (.cells [.fs (i.2.2.1.map zq) i.2.2.1.length,.int .i64 q]),xfN i.2.2.2⟩) (fun i=>i.1≤n∧i.2.2.2.length=i.1∧i.2.1.length≤most∧i.2.2.1.length≤80000000∧(zdt most (n-i.1) i.2.1 i.2.2.1).map (fun p=>(i.2.2.2++p.1,p.2))=some (ss,r)) (fun i=>n-i.1) (0,[],l,[]) Zk ⟨Yk _,rfl,Yk _,hl,by show (zdt most n [] l).map _=_;rw[hv];rfl⟩ (Xg [] rfl ?_ ?_ ?_ ?_) ?_
 ·show subE _ (fun b=>b<1) _ [(10,.int .i64 0),(9,.int .i64 n),(7,.str []),(6,.nilS),(2,.int .i64 most),(0,.ptr 0 0)];simp only[go_sem]
 ·show subH _ 1 _ [(0,.cells [.fs (l.map zq) l.length,.int .i64 q])];simp only[go_sem]
 ·show 1≤1;decide
 ·exact ZD
 rintro⟨i,last,d,acc⟩ ⟨h1,h2,h3,h4,h5⟩;dsimp only at h1 h2 h3 h4 h5;obtain⟨⟨sr,r'⟩,g1,gp⟩:=YN.1 h5;obtain⟨g2,rfl⟩:acc++sr=ss∧r'=r:=by simpa using gp
 clear gp;by_cases hlt:i<n
 ·obtain⟨j,hj⟩:∃j,n-i=j+1:=⟨n-i-1,Zo⟩;rw[hj]at g1;obtain⟨a,l1,b,l2,sr',v1,ha,v2,hab,hbl,g3,rfl⟩:=zmc g1;have hl1:=(zb3 _ _ _ _ v1).2;have hl2:=(zb3 _ _ _ _ v2).2;have dI:decide ((i:Int)<n)=true:=Yf Zo;have em:(most:Int)-(a:Nat)=((most-a:Nat):Int):=Zo;have tl:(l2.take b).length=b:=by rw[Y0];omega
  have c1:=fun c k q most bs nx=>zcZ c k a d l1 q most bs nx v1;have c2:=fun c k q most bs nx=>zcZ c k b l1 l2 q most bs nx v2;have cB:=fun H=>zd6 (l2.take b) b H tl.symm;have hsl:(last.take a++l2.take b).length≤most:=by rw[Yg,Y0,Y0];omega
  have hml:min a (List.length last)+min b l2.length≤2000000:=Zo;have hld:(l2.drop b).length=l2.length-b:=Yai;have h4':(l2.drop b).length≤80000000:=Zo;have ei:(i:Int)+1=((i+1:Nat):Int):=Zo;cases acc with
  |nil=>
   dsimp only[xfV,xfB,xfN];simp(disch:=try exact Zp)only[go_sem,dI,c1,c2,em,zoX,cB];refine⟨rfl,⟨Zo,Zo⟩,rfl,rfl,Zo,AXk.intro Zk ?_⟩;clear c1 c2 cB;generalize hs':last.take a++l2.take b=s' at*;generalize hd':l2.drop b=d' at*;have hq:l2.length-b=d'.length:=hld.symm;simp(disch:=try exact Zp)only[go_sem,dI,ei,hq];refine zi (i+1,s',d',[s']) ⟨by show i+1≤n;omega,by show 1=i+1;have:0=i:=h2;omega,hsl,h4',?_⟩ (by show n-(i+1)<n-i;omega) (Xg [(1,2)] rfl ?_ ?_ ?_ ?_)
   ·show (zdt most (n-(i+1)) s' d').map _=_;rw[show n-(i+1)=j by omega,g3,←g2];rfl
   ·show subE _ (fun b=>b<2) _ [(10,.int .i64 ((i+1:Nat):Int)),(9,.int .i64 n),(7,.str s'),(6,.sl 1 0 1 1 none),(2,.int .i64 most),(0,.ptr 0 0)];simp only[go_sem]
   ·show subH _ 2 _ [(1,.cells [.str s']),(0,.cells [.fs (d'.map zq) d'.length,.int .i64 q])];simp only[go_sem]
   ·show 1≤2;decide
   exact ZD
  |cons y acc=>
   have h2':acc.length+1=i:=h2;dsimp only[xfV,xfB,xfN];simp(disch:=try exact Zp)only[go_sem,dI,c1,c2,em,zoX,cB];refine⟨rfl,⟨Zo,Zo⟩,rfl,rfl,Zo,AXk.intro Zk ?_⟩;clear c1 c2 cB;generalize hs':last.take a++l2.take b=s' at*;generalize hd':l2.drop b=d' at*;have hq:l2.length-b=d'.length:=hld.symm;simp(disch:=try exact Zp)only[go_sem,dI,ei,hq,Ym];refine⟨Zo,zi (i+1,s',d',y::(acc++[s'])) ⟨by show i+1≤n;omega,by simp;omega,hsl,h4',?_⟩ (by show n-(i+1)<n-i;omega) (Xg [(1,3)] rfl ?_ ?_ ?_ ?_)⟩
   ·show (zdt most (n-(i+1)) s' d').map _=_;rw[show n-(i+1)=j by omega,g3,←g2];simp
   ·show subE _ (fun b=>b<2) _ [(10,.int .i64 ((i+1:Nat):Int)),(9,.int .i64 n),(7,.str s'),(6,.sl 1 0 (acc++[s']).length.succ 1 none),(2,.int .i64 most),(0,.ptr 0 0)];simp only[go_sem,Yv,Yg,Ya8,YQ,Nat.succ_eq_add_one]
   ·show subH _ 2 _ [(1,.cells (strs (y::(acc++[s'])))),(0,.cells [.fs (d'.map zq) d'.length,.int .i64 q])];simp only[go_sem]
   ·show 1≤2;decide
   exact ZD
 obtain rfl:i=n:=Zo;rw[YaK,zdt]at g1;obtain⟨rfl,rfl⟩:sr=[]∧d=r':=by simpa[eq_comm]using g1
 rw[Yab]at g2;subst g2;have dI:decide ((i:Int)<i)=false:=Yd Zo;cases acc with
 |nil=>dsimp only[xfV,xfB,xfN];simp(disch:=try exact Zp)only[go_sem,dI];refine AXa.go mixed (zh) (zkQ) Zk ?_;simp(disch:=try exact Zp)only[go_sem];refine⟨[(6,.fs [] 0)],Xg [] rfl Zg Zg Zd ?_,rfl⟩;exact ZD
 |cons y acc=>
  dsimp only[xfV,xfB,xfN];simp(disch:=try exact Zp)only[go_sem,dI];refine AXa.fzW [1] (fun b hb=>by obtain rfl:=YB.1 hb;exact⟨Nat.zero_lt_one,rfl⟩) (fun b hb=>by obtain rfl:=YB.1 hb;exact⟨Yc 1,rfl⟩) (env':=[(6,.fs (strs (y::acc)) (y::acc).length)]) (bs':=[(0,.cells [.fs (d.map zq) d.length,.int .i64 q])]) (n':=1) ?_ ?_ (fun b hb=>by rcases b with _|b;rfl;exact absurd hb Zs) (Yc 1) ?_
  ·simp only[go_sem];right;exact FrzF.slp Zs rfl rfl (by simp[strs]) (by rw[YW,Yas,show acc.length+1=(y::acc).length from rfl,zeL,Ym]) (zaP _)
  ·simp only[go_sem];simp
  refine AXa.go mixed (zh) (zkQ) Zk ?_;simp(disch:=try exact Zp)only[go_sem];refine⟨[(6,.fs (strs (y::acc)) (acc.length+1))],Xg [] rfl Zg Zg Zd ?_,rfl⟩;exact ZD
def zpr:RSt:=fun l q rest=>match rest with
 |[.int .i64 n,.int .i64 most]=>if 0≤n∧n≤100000000∧0≤most∧most≤1000000∧l.length≤80000000 then(zdt most.toNat n.toNat [] l).map fun p=>(.fs (strs p.1) p.1.length,p.2,q)else none
 |_=>none
def xfold_ok:∀args H r,RdR zpr args H r→HCall prog 72 args H r:=zlu fun l q rest v l' q' hs=>by
 unfold zpr at hs;split at hs
 ·rename_i n most;split at hs
  ·rename_i hx;obtain⟨⟨ss,r⟩,h1,h2⟩:=YN.1 hs;cases h2;obtain⟨n,rfl⟩:∃m:Nat,n=m:=⟨n.toNat,Zo⟩;obtain⟨most,rfl⟩:∃m:Nat,most=m:=⟨most.toNat,Zo⟩;exact⟨.fs (zaP _),by simp[zaz],xfold_N l q n most ss r hx.2.2.2.2 Zo Zo h1⟩
  cases hs
 cases hs
def Δf:FuncId→ZA→Hp→Option AR:=zaQ 72 (conD (RdR zpr)) Δnu
def Δf_ok:zay prog Δf:=zK (zT xfold_ok) ztq
def zo0(b k n most:Nat)(l r:ZL)(ss:List Str)(q:Int)(bs:ZH)(nx:Nat)(hv:zdt most n [] l=some (ss,r))(hb:zG bs b=some (.cells [.fs (l.map zq) k,.int .i64 q]))(hn:k=l.length)(hl:l.length≤80000000)(h1:n≤100000000)(h2:most≤1000000)(hk:((keysB bs).all fun b=>decide (b<nx))=true):Δf 72 [.ptr b 0,.int .i64 n,.int .i64 most] ⟨bs,nx⟩=some ⟨True,.fs (strs ss) ss.length,(⟨bs,nx⟩:Hp).put b (.cells [.fs (r.map zq) r.length,.int .i64 q]),[b],[b]⟩:=
 zrv (st:=zpr) (l:=l) (v:=.fs (strs ss) ss.length) (l':=r) (q':=q) hb hn ((Yi ⟨Zo,Zo,Zo,Zo,hl⟩).trans (by rw[Yq,Yq,hv];rfl)) hk
def wgtX(L:List Str)(l:ZL)(q:Nat):Option (Str×ZL×Nat):=(numR (widI ((L.length:Int)-1)) 0 l q).bind fun p=>if p.1<L.length then some (L.getD p.1 [],p.2)else none
def zgr(n:Nat):widI ((n:Int)-1)=widI ((n-1:Nat):Int):=by unfold widI;rw[show ((n:Int)-1).toNat=((n-1:Nat):Int).toNat by omega]
def xwgt_N(l:ZL)(q:Nat)(L:List Str)(s:Str)(r:ZL)(q':Nat)(hl:l.length≤80000000)(hq:q≤7)(hL:L.length≤100000000)(hv:wgtX L l q=some (s,r,q')):NCall prog 87 [.ptr 0 0,.fs (strs L) L.length] [rdB l q] [0] (.str s) ⟨[(0,rdB r q')],1⟩:=by
 obtain⟨⟨n,r',p⟩,v1,h2⟩:=Option.bind_eq_some_iff.1 hv;dsimp only at h2;split at h2
 ·rename_i hn;have hw:widI ((L.length:Int)-1)≤60:=by rw[zgr];exact Yw (zi8 (k:=27) (by show L.length-1<134217728;omega) Zo) Zo
  have c1:=fun b k bs nx=>zc0 b k n q _ p l r' bs nx v1;have dn:decide ((n:Int)<L.length)=true:=Yf Zo;unfold rdB;refine Xi (rs:=[.tmp 4]) [0,1,4,5] [] 1 [0] mixed (zf zb5 (zf zbC zh)) (ztq) call87 func87 rfl ntmps87 rfl Zk Zs Zs Zs Zs ?_;simp(disch:=try exact Zp)only[go_sem,zN,zcT,c1,dn];cases h2;refine⟨rfl,⟨Zo,Zo⟩,Zo,[(4,.str (L.getD n []))],Xg [] rfl Zg Zg Zd ?_,rfl⟩;exact ZD
 cases h2
def unS:ZA→Option (List Str)
 |[]=>some []
 | .str a::l=>(unS l).map (a::·)
 |_::_=>none
def zpc:∀L:List Str,unS (strs L)=some L
 |[]=>rfl
 |a::L=>by show (unS (strs L)).map _=_;rw[zpc L];rfl
def ztI:∀ {cs:ZA} {L:List Str},unS cs=some L→cs=strs L
 |[],L,h=>by cases h;rfl
 | .str a::l,L,h=>by obtain⟨L',h1,rfl⟩:=YN.1 (show (unS l).map (a::·)=some L from h);rw[ztI h1];rfl
 | .bool _::_,_,h| .int _ _::_,_,h| .nilS::_,_,h| .sl .. ::_,_,h| .fs .. ::_,_,h| .ptr .. ::_,_,h| .fp .. ::_,_,h| .nilP::_,_,h| .map .. ::_,_,h| .nilM::_,_,h| .fn .. ::_,_,h| .ifc .. ::_,_,h| .nilI::_,_,h| .agg .. ::_,_,h| .tup .. ::_,_,h| .any::_,_,h| .bnd .. ::_,_,h=>by cases h
def rxWgt:RSt:=fun l q rest=>match rest with
 |[.fs cs n]=>(unS cs).bind fun L=>if n=L.length∧L.length≤100000000∧0≤q∧q≤7∧l.length≤80000000 then(wgtX L l q.toNat).map fun p=>(.str p.1,p.2.1,(p.2.2:Int))else none
 |_=>none
def xwgt_ok:∀args H r,RdR rxWgt args H r→HCall prog 87 args H r:=zlu fun l q rest v l' q' hs=>by
 unfold rxWgt at hs;split at hs
 ·rename_i cs n;obtain⟨L,h0,hs2⟩:=Option.bind_eq_some_iff.1 hs;obtain rfl:=ztI h0;split at hs2
  ·rename_i hx;obtain⟨⟨s,r,p⟩,h1,h2⟩:=YN.1 hs2;cases h2;obtain⟨rfl,h3,h4,h5,h6⟩:=hx;obtain⟨q,rfl⟩:∃m:Nat,q=m:=⟨q.toNat,Zo⟩;exact⟨.str _,fun x hx=>by obtain rfl:=YB.1 hx;exact .fs (zaP _),xwgt_N l q L s r p h6 Zo h3 h1⟩
  cases hs2
 cases hs
def Δg:FuncId→ZA→Hp→Option AR:=zaQ 87 (conD (RdR rxWgt)) Δf
def zgi:zay prog Δg:=zK (zT xwgt_ok) Δf_ok
def ztr(b k q q':Nat)(l r:ZL)(L:List Str)(s:Str)(bs:ZH)(nx:Nat)(hv:wgtX L l q=some (s,r,q'))(hb:zG bs b=some (.cells [.fs (l.map zq) k,.int .i64 (q:Nat)]))(hn:k=l.length)(hl:l.length≤80000000)(hL:L.length≤100000000)(hq:q≤7)(hk:((keysB bs).all fun b=>decide (b<nx))=true):Δg 87 [.ptr b 0,.fs (strs L) L.length] ⟨bs,nx⟩=some ⟨True,.str s,(⟨bs,nx⟩:Hp).put b (.cells [.fs (r.map zq) r.length,.int .i64 (q':Nat)]),[b],[b]⟩:=
 zrv (st:=rxWgt) (l:=l) (l':=r) (q':=q') hb hn (by show (unS (strs L)).bind _=_;rw[zpc];exact(Yi ⟨rfl,hL,Zo,Zo,hl⟩).trans (by rw[Yq,hv];rfl)) hk
end Go.Proofs

namespace Go.Proofs
open Go.Ab Go.Pl Go.Cnt
abbrev RM(α:Type):=ZL→Nat→Option (α×ZL×Nat)
def bndR {α β:Type}(m:RM α)(f:α→RM β):RM β:=fun l q=>(m l q).bind fun p=>f p.1 p.2.1 p.2.2
def retR {α:Type}(a:α):RM α:=fun l q=>some (a,l,q)
def zU {α β:Type}{m:RM α}{f:α→RM β}{l:ZL}{q:Nat}{b:β}{r:ZL}{p:Nat}(h:bndR m f l q=some (b,r,p)):∃a l1 q1,m l q=some (a,l1,q1)∧f a l1 q1=some (b,r,p):=by obtain⟨⟨a,l1,q1⟩,h1,h2⟩:=Option.bind_eq_some_iff.1 h;exact⟨a,l1,q1,h1,h2⟩
def zbD {α β:Type}{m:RM α}{f:α→RM β}{l:ZL}{q:Nat}{a:α}{l1:ZL}{q1:Nat}(h:m l q=some (a,l1,q1)):bndR m f l q=f a l1 q1:=by unfold bndR;rw[h];rfl
def arcM(nm st:Nat)(L:List Str):RM Arc:=
 bndR (numR 1 0) fun e=>bndR (numR (widI nm) 0) fun i=>bndR (if e=1 then retR i else numR (widI nm) 0) fun o=>
  bndR (wgtX L) fun w=>bndR (numR (widI ((st:Int)-1)) 0) fun t=>retR ⟨i,o,w,t⟩
def zfe(nm st:Nat)(L:List Str):Nat→RM (List Arc)
 |0=>retR []
 |k+1=>bndR (arcM nm st L) fun a=>bndR (zfe nm st L k) fun r=>retR (a::r)
def staM(nm st ar:Nat)(L:List Str):RM Sta:=
 bndR (numR 1 0) fun e=>bndR (if e=1 then wgtX L else retR []) fun f=>bndR (numR (widI ar) 0) fun n=>bndR (zfe nm st L n) fun a=>retR ⟨f,a⟩
def za8:∀(k n:Nat) (l:ZL) (q:Nat) {m:Nat} {r:ZL} {p:Nat},numR k n l q=some (m,r,p)→q≤7→r.length≤l.length∧p≤7
 |0,_,_,_,_,_,_,h,hq=>by cases h;exact⟨Yc _,hq⟩
 |_+1,_,[],_,_,_,_,h,_=>by cases h
 |k+1,n,c::l,q,m,r,p,h,hq=>by
  rw[numR]at h;split at h
  ·obtain⟨h1,h2⟩:=za8 k _ l 0 h Zo;exact⟨Yw h1 (Ya7 _),h2⟩
  exact za8 k _ (c::l) (q+1) h Zo
def zjb {L:List Str}{l:ZL}{q:Nat}{s:Str}{r:ZL}{p:Nat}(h:wgtX L l q=some (s,r,p))(hq:q≤7):r.length≤l.length∧p≤7:=by
 obtain⟨⟨n,r',p'⟩,h1,h2⟩:=Option.bind_eq_some_iff.1 h;dsimp only at h2;split at h2
 ·cases h2;exact za8 _ _ _ _ h1 hq
 cases h2
def zmR {nm st:Nat}{L:List Str}:∀ {k:Nat} {l:ZL} {q:Nat} {a:List Arc} {r:ZL} {p:Nat},zfe nm st L k l q=some (a,r,p)→a.length=k
 |0,_,_,_,_,_,h=>by cases h;rfl
 |k+1,l,q,a,r,p,h=>by obtain⟨x,l1,q1,_,h2⟩:=zU h;obtain⟨y,l2,q2,h3,h4⟩:=zU h2;cases h4;show y.length+1=k+1;rw[zmR h3]
end Go.Proofs

namespace Go.Ab
def NCall.freeze {P:Program}{f:FuncId}{args:ZA}{F:List Blk}{W:ZN}{v0:V}{Hc0:Hp}(hN:NCall P f args F W v0 Hc0){v:V}{Hc:Hp}(fl:ZN) (hfl:∀b∈fl,F.length≤b∧∃x,Hc0.get b=some x) (hW:∀b∈W,∃x,Hc0.get b=some x) (hv:Rn id (fun b=>¬b∈fl∧b<Hc.next) v v0∨FrzF Hc0 (· ∈fl) v0 v) (hh:∀b x',Hc.get b=some x'→b<Hc.next∧¬b∈fl∧∃x,Hc0.get b=some x∧FzB Hc0 (· ∈fl) Hc.next x' x) (hel:∀b,b<F.length→Hc.get b=Hc0.get b) (hn:F.length≤Hc.next):NCall P f args F W v Hc:=by
 refine⟨hN.call,hN.sub,hn,fun g base w vs hgl hinv hvs hpw=>(hN.run g base w vs hgl hinv hvs hpw).mono fun e w' ⟨g1,vc,he,hv1,hp⟩=>?_⟩;let C:Cfg:=⟨1,za2 [],noΓ,noΔ,F.length,W,za2 [],[]⟩
 have hent:Entry C base (fun _=>True) g ⟨numB 0 F,F.length⟩ w:=⟨hinv,rfl,fun _ _=>trivial⟩;have hr:Rel C base (fun _=>True) g ⟨numB 0 F,F.length⟩ w g1 ⟨[(0,v0)],Hc0⟩ { tmps:=#[vc],defers:=[] } w':=by
  refine⟨⟨hgl.mono hp.le.2,by simp[C],fun t x e=>?_⟩,rfl,hp⟩;rw[YE]at e;by_cases ht:t=0
  ·subst ht;simp only[YaU,Yx]at e;subst e;exact hv1
  have hb:(t==0)=false:=by simp[ht]
  simp only[hb]at e;cases e
 have henv:∀t v',([(0,v)]:Env).lookup t=some v'→v'=.any∨∃u,([(0,v0)]:Env).lookup t=some u∧(Rn id (fun b=>¬b∈fl∧b<Hc.next) v' u∨FrzF Hc0 (· ∈fl) u v'):=fun t v' e=>by
  rw[YE]at e;by_cases ht:t=0
  ·subst ht;simp only[YaU,Yx]at e;subst e;exact .inr ⟨v0,Zs,hv⟩
  have hb:(t==0)=false:=by simp[ht]
  simp only[hb]at e;cases e
 obtain⟨g2,h4⟩:=hr.freeze3 (F:=(· ∈fl)) (s':=⟨[(0,v)],Hc⟩) hent (fun b hb=>⟨hN.sub b hb,hW b hb⟩) ⟨henv,hh,hfl,hel,hn⟩;exact⟨g2,vc,he,by simpa using h4.env.rel 0 v Zs,h4.post⟩
end Go.Ab

namespace Go.Proofs
open Tryz Go.Ab Go.Pl Go.Cnt
attribute [local go_sem] zaO zbE zas
theorem zqE(args:ZA)(H:Hp):Δg 74 args H=Δnu 74 args H:=rfl
def zkR(b k n q q':Nat)(l r:ZL)(bs:ZH)(nx:Nat)(hv:numR 1 0 l q=some (n,r,q'))(hb:zG bs b=some (.cells [.fs (l.map zq) k,.int .i64 (q:Nat)]))(hn:k=l.length)(hl:l.length≤80000000)(hq:q≤7)(hk:((keysB bs).all fun b=>decide (b<nx))=true):Δnu 74 [.ptr b 0,.int .i64 1] ⟨bs,nx⟩=some ⟨True,.int .i64 n,(⟨bs,nx⟩:Hp).put b (.cells [.fs (r.map zq) r.length,.int .i64 (q':Nat)]),[b],[b]⟩:=zc0 b k n q 1 q' l r bs nx hv hb hn hl Zd hq hk
def zi9(n:Nat)(h:n≤100000000):widI (n:Int)≤60:=Yw (zi8 (k:=27) (by show n<134217728;omega) Zo) Zo
def layX(nm wt st ar:Nat):ZA:=[.int .i64 nm,.int .i64 wt,.int .i64 st,.int .i64 ar,.nilM]
def xsH(acc:List Arc)(f:Str)(lay rd ct:Blk):Hp:=match acc with
 |[]=>⟨[(3,.cells [.str f,.nilS]),(2,lay),(0,rd),(1,ct)],4⟩
 |_::_=>⟨[(4,.cells (arcs acc)),(3,.cells [.str f,.sl 4 0 acc.length 4 none]),(2,lay),(0,rd),(1,ct)],5⟩
def xsV(f:Str)(a:List Arc):V:=match a with
 |[]=>.agg [.str f,.nilS]
 |_::_=>.agg [.str f,.sl 2 0 a.length 4 none]
def xsB(f:Str)(a:List Arc)(rd ct:Blk):Hp:=match a with
 |[]=>⟨[(2,.cells [.str f,.nilS]),(0,rd),(1,ct)],3⟩
 |_::_=>⟨[(3,.cells [.str f,.sl 2 0 a.length 4 none]),(2,.cells (arcs a)),(0,rd),(1,ct)],4⟩
def xsB_two(f:Str)(a:List Arc)(rd ct:Blk):2≤(xsB f a rd ct).next:=by cases a<;>simp[xsB]
attribute [local simp] xsB_two
def zmQ(y:Arc)(acc:List Arc)(x:Arc):(arcs (y::acc)).take ((acc.length+1)*4)++[.int .i64 x.i,.int .i64 x.o,.str x.w,.int .i64 x.t]=arcs (y::(acc++[x])):=by have h1:arcs (y::(acc++[x]))=arcs (y::acc)++arcs [x]:=arcR.cells_append (y::acc) [x];have h2:(arcs (y::acc)).length=(acc.length+1)*4:=zgf (y::acc);rw[h1,←h2,Ym];rfl
def xsta_N0(nm wt st ar:Nat)(L:List Str)(l:ZL)(q A:Nat)(s:Sta)(r:ZL)(q':Nat)(hnm:nm≤100000000)(hst:st≤100000000)(har:ar≤100000000)(hL:L.length≤100000000)(hl:l.length≤80000000)(hq:q≤7) (hv:staM nm st ar L l q=some (s,r,q')) (hA:A+s.a.length≤30000):NCall prog 75 [.ptr 0 0,.agg (layX nm wt st ar),.fs (strs L) L.length,.ptr 1 0] [rdB l q,.cells [.int .i64 A]] [0,1] (xsV s.f s.a) (xsB s.f s.a (rdB r q') (.cells [.int .i64 (A+s.a.length:Nat)])):=by
 obtain⟨e,l1,q1,v1,hv⟩:=zU hv;obtain⟨f,l2,q2,v2,hv⟩:=zU hv;obtain⟨n,l3,q3,v3,hv⟩:=zU hv;obtain⟨a,l4,q4,v4,hv⟩:=zU hv;cases hv;have hn:a.length=n:=zmR v4;obtain⟨b1,b1'⟩:=za8 _ _ _ _ v1 hq;have hb2:l2.length≤l1.length∧q2≤7:=by
  split at v2
  ·exact zjb v2 b1'
  cases v2;exact⟨Yc _,b1'⟩
 obtain⟨b2,b2'⟩:=hb2;obtain⟨b3,b3'⟩:=za8 _ _ _ _ v3 b2';dsimp only at hA;have w1:=zi9 nm hnm;have w2:=zi9 ar har;have w3:widI ((st:Int)-1)≤60:=by rw[zgr];exact zi9 _ Zo
 unfold rdB layX;have hΓ:=zf zb5 (zf zbC zh);refine Xt (rs:=[.cell 8 44]) [0,1,2,3,5,8,9,10,11,14,35,36,37,51] [] 2 [0,1] mixed (hΓ) (zgi) call75 func75 rfl ntmps75 rfl Zk Zs Zs Zs Zs ?_;refine AXa.cutTo 2 [(8,.ptr 3 0),(5,.ptr 2 0),(3,.ptr 1 0),(2,.fs (strs L) L.length),(0,.ptr 0 0)] ⟨[(3,.cells [.str f,.nilS]),(2,.cells [.int .i64 nm,.int .i64 wt,.int .i64 st,.int .i64 ar,.nilM]),(0,.cells [.fs (l2.map zq) l2.length,.int .i64 (q2:Nat)]),(1,.cells [.int .i64 A])],4⟩ rfl mixed hΓ zgi Zk ?_ ?_
 ·have c1:=fun b k bs nx=>zkR b k e q q1 l l1 bs nx v1;simp(disch:=try exact Zp)only[go_sem,zqE,c1];refine⟨rfl,Xc (fun he=>?_) (fun he=>?_)⟩
  ·have he':e=1:=Zo;rw[Yi he']at v2;have c2:=fun b k bs nx=>ztr b k q1 q2 l1 l2 L f bs nx v2;simp(disch:=try exact Zp)only[go_sem,c2];exact⟨rfl,.inl (Xg [] rfl Zg Zg Zd (by exact ZE))⟩
  have he':¬e=1:=Zo;rw[Ye he']at v2;cases v2;simp(disch:=try exact Zp)only[go_sem];exact .inl (Xg [] rfl Zg Zg Zd (by exact ZE))
 have c3:=fun b k bs nx=>zc0 b k n q2 _ q3 l2 l3 bs nx v3;refine AXa.go mixed (hΓ) (zgi) Zk ?_;have dA:decide ((A:Int)+(n:Int)≤30000)=true:=Yf Zo;simp(disch:=try exact Zp)only[go_sem,zqE,c3,zN,dA,zcT];refine⟨rfl,rfl,?_⟩;have eAn:(A:Int)+(n:Int)=((A+n:Nat):Int):=Zo;refine AXs.loop mixed (hΓ) (zgi) (ι:=Nat×List Arc×ZL×Nat) (fun i=>[(36,.int .i64 (i.1:Nat)),(35,.int .i64 (n:Nat)),(8,.ptr 3 0),(5,.ptr 2 0),(2,.fs (strs L) L.length),(0,.ptr 0 0)])
  (fun i=>xsH i.2.1 f (.cells [.int .i64 nm,.int .i64 wt,.int .i64 st,.int .i64 ar,.nilM]) (.cells [.fs (i.2.2.1.map zq) i.2.2.1.length,.int .i64 (i.2.2.2:Nat)]) (.cells [.int .i64 (A+n:Nat)]))
  (fun i=>i.1≤n∧i.2.1.length=i.1∧i.2.2.1.length≤80000000∧i.2.2.2≤7∧(zfe nm st L (n-i.1) i.2.2.1 i.2.2.2).map (fun x=>(i.2.1++x.1,x.2))=some (a,r,q')) (fun i=>n-i.1) (0,[],l3,q3) Zk ⟨Yk _,rfl,by show l3.length≤_;omega,b3',by show (zfe nm st L n l3 q3).map _=_;rw[v4];rfl⟩ (Xg [] rfl ?_ ?_ ?_ ?_) ?_
 ·simp only[go_sem]
 ·show subH _ 4 _ [(3,.cells [.str f,.nilS]),(2,.cells [.int .i64 nm,.int .i64 wt,.int .i64 st,.int .i64 ar,.nilM]),(0,.cells [.fs (l3.map zq) l3.length,.int .i64 (q3:Nat)]),(1,.cells [.int .i64 (A+n:Nat)])];simp only[go_sem,eAn]
 ·show 2≤4;decide
 ·intro b hb hw;exact absurd hb (by match b with|0=>simp at hw|1=>simp at hw|b+2=>simp)
 rintro⟨i,acc,d,p⟩ ⟨h1,h2,h3,h4,h5⟩;dsimp only at h1 h2 h3 h4 h5;obtain⟨⟨sr,r',p'⟩,g1,gp⟩:=YN.1 h5;obtain⟨g2,rfl,rfl⟩:acc++sr=a∧r'=r∧p'=q':=by simpa using gp
 clear gp h5;by_cases hlt:i<n
 ·obtain⟨j,hj⟩:∃j,n-i=j+1:=⟨n-i-1,Zo⟩;rw[hj]at g1;obtain⟨x,d6,p6,u6,g1⟩:=zU g1;obtain⟨sr',d7,p7,g3,g1⟩:=zU g1;obtain⟨rfl,rfl,rfl⟩:x::sr'=sr∧d7=r'∧p7=p':=by simpa[retR]using g1
  obtain⟨e1,d1,p1,u1,u6⟩:=zU u6;obtain⟨xi,d2,p2,u2,u6⟩:=zU u6;obtain⟨xo,d3,p3,u3,u6⟩:=zU u6;obtain⟨xw,d4,p4,u4,u6⟩:=zU u6;obtain⟨xt,d5,p5,u5,u6⟩:=zU u6;obtain⟨rfl,rfl,rfl⟩:(⟨xi,xo,xw,xt⟩:Arc)=x∧d5=d6∧p5=p6:=by simpa[retR]using u6
  clear g1 u6;obtain⟨y1,y1'⟩:=za8 _ _ _ _ u1 h4;obtain⟨y2,y2'⟩:=za8 _ _ _ _ u2 y1';have y3:d3.length≤d2.length∧p3≤7:=by
   split at u3
   ·cases u3;exact⟨Yc _,y2'⟩
   exact za8 _ _ _ _ u3 y2'
  obtain⟨y3,y3'⟩:=y3;obtain⟨y4,y4'⟩:=zjb u4 y3';obtain⟨y5,y5'⟩:=za8 _ _ _ _ u5 y4';have dI:decide ((i:Int)<n)=true:=Yf Zo;have ei:(i:Int)+1=((i+1:Nat):Int):=Zo;have z1:=fun b k bs nx=>zkR b k e1 p p1 d d1 bs nx u1;have z2:=fun b k bs nx=>zc0 b k xi p1 _ p2 d1 d2 bs nx u2;have z4:=fun b k bs nx=>ztr b k p3 p4 d3 d4 L xw bs nx u4;have z5:=fun b k bs nx=>zc0 b k xt p4 _ p5 d4 d5 bs nx u5;by_cases he:e1=1
  ·have dE:decide ((e1:Int)=1)=true:=Yf Zo;rw[Yi he]at u3;obtain⟨rfl,rfl,rfl⟩:xi=xo∧d2=d3∧p2=p3:=by simpa[retR]using u3
   cases acc with
   |nil=>
    dsimp only[xsH];simp(disch:=try exact Zp)only[go_sem,dI,ei,zqE,z1,z2,z4,z5,zN,dE];refine⟨rfl,rfl,rfl,rfl,zi (i+1,[⟨xi,xi,xw,xt⟩],d5,p5) ⟨by show i+1≤n;omega,by show 1=i+1;have:0=i:=h2;omega,by show d5.length≤_;omega,y5',?_⟩ (by show n-(i+1)<n-i;omega) (Xg [(4,6)] rfl ?_ ?_ ?_ ?_)⟩
    ·show (zfe nm st L (n-(i+1)) d5 p5).map _=_;rw[show n-(i+1)=j by omega,g3,←g2];rfl
    ·show subE _ (fun b=>b<5) _ [(36,.int .i64 ((i+1:Nat):Int)),(35,.int .i64 (n:Nat)),(8,.ptr 3 0),(5,.ptr 2 0),(2,.fs (strs L) L.length),(0,.ptr 0 0)];simp only[go_sem]
    ·show subH _ 5 _ [(4,.cells [.int .i64 xi,.int .i64 xi,.str xw,.int .i64 xt]),(3,.cells [.str f,.sl 4 0 1 4 none]),(2,.cells [.int .i64 nm,.int .i64 wt,.int .i64 st,.int .i64 ar,.nilM]),(0,.cells [.fs (d5.map zq) d5.length,.int .i64 (p5:Nat)]),(1,.cells [.int .i64 (A+n:Nat)])];simp only[go_sem]
    ·show 2≤5;decide
    intro b hb hw;exact absurd hb (by match b with|0=>simp at hw|1=>simp at hw|b+2=>simp)
   |cons y acc=>
    have h2':acc.length+1=i:=h2;have eT:=zmQ y acc ⟨xi,xi,xw,xt⟩;dsimp only at eT;dsimp only[xsH];simp(disch:=try exact Zp)only[go_sem,dI,ei,zqE,z1,z2,z4,z5,zN,dE];refine⟨rfl,rfl,rfl,rfl,⟨Zo,Zo⟩,zi (i+1,y::(acc++[⟨xi,xi,xw,xt⟩]),d5,p5) ⟨by show i+1≤n;omega,by simp;omega,by show d5.length≤_;omega,y5',?_⟩ (by show n-(i+1)<n-i;omega) (Xg [(4,7)] rfl ?_ ?_ ?_ ?_)⟩
    ·show (zfe nm st L (n-(i+1)) d5 p5).map _=_;rw[show n-(i+1)=j by omega,g3,←g2];simp
    ·show subE _ (fun b=>b<5) _ [(36,.int .i64 ((i+1:Nat):Int)),(35,.int .i64 (n:Nat)),(8,.ptr 3 0),(5,.ptr 2 0),(2,.fs (strs L) L.length),(0,.ptr 0 0)];simp only[go_sem]
    ·show subH _ 5 _ [(4,.cells (arcs (y::(acc++[⟨xi,xi,xw,xt⟩])))),(3,.cells [.str f,.sl 4 0 (acc++[(⟨xi,xi,xw,xt⟩:Arc)]).length.succ 4 none]),(2,.cells [.int .i64 nm,.int .i64 wt,.int .i64 st,.int .i64 ar,.nilM]),(0,.cells [.fs (d5.map zq) d5.length,.int .i64 (p5:Nat)]),(1,.cells [.int .i64 (A+n:Nat)])];simp only[go_sem,eT,Yg,YQ,Yv,Ya8,Nat.succ_eq_add_one]
    ·show 2≤5;decide
    intro b hb hw;exact absurd hb (by match b with|0=>simp at hw|1=>simp at hw|b+2=>simp)
  have dE:decide ((e1:Int)=1)=false:=Yd Zo;rw[Ye he]at u3;have z3:=fun b k bs nx=>zc0 b k xo p2 _ p3 d2 d3 bs nx u3;cases acc with
  |nil=>
   dsimp only[xsH];simp(disch:=try exact Zp)only[go_sem,dI,ei,zqE,z1,z2,z4,z5,zN,dE,z3];refine⟨rfl,rfl,rfl,rfl,rfl,zi (i+1,[⟨xi,xo,xw,xt⟩],d5,p5) ⟨by show i+1≤n;omega,by show 1=i+1;have:0=i:=h2;omega,by show d5.length≤_;omega,y5',?_⟩ (by show n-(i+1)<n-i;omega) (Xg [(4,6)] rfl ?_ ?_ ?_ ?_)⟩
   ·show (zfe nm st L (n-(i+1)) d5 p5).map _=_;rw[show n-(i+1)=j by omega,g3,←g2];rfl
   ·show subE _ (fun b=>b<5) _ [(36,.int .i64 ((i+1:Nat):Int)),(35,.int .i64 (n:Nat)),(8,.ptr 3 0),(5,.ptr 2 0),(2,.fs (strs L) L.length),(0,.ptr 0 0)];simp only[go_sem]
   ·show subH _ 5 _ [(4,.cells [.int .i64 xi,.int .i64 xo,.str xw,.int .i64 xt]),(3,.cells [.str f,.sl 4 0 1 4 none]),(2,.cells [.int .i64 nm,.int .i64 wt,.int .i64 st,.int .i64 ar,.nilM]),(0,.cells [.fs (d5.map zq) d5.length,.int .i64 (p5:Nat)]),(1,.cells [.int .i64 (A+n:Nat)])];simp only[go_sem]
   ·show 2≤5;decide
   intro b hb hw;exact absurd hb (by match b with|0=>simp at hw|1=>simp at hw|b+2=>simp)
  |cons y acc=>
   have h2':acc.length+1=i:=h2;have eT:=zmQ y acc ⟨xi,xo,xw,xt⟩;dsimp only at eT;dsimp only[xsH];simp(disch:=try exact Zp)only[go_sem,dI,ei,zqE,z1,z2,z4,z5,zN,dE,z3];refine⟨rfl,rfl,rfl,rfl,rfl,⟨Zo,Zo⟩,zi (i+1,y::(acc++[⟨xi,xo,xw,xt⟩]),d5,p5) ⟨by show i+1≤n;omega,by simp;omega,by show d5.length≤_;omega,y5',?_⟩ (by show n-(i+1)<n-i;omega) (Xg [(4,7)] rfl ?_ ?_ ?_ ?_)⟩
   ·show (zfe nm st L (n-(i+1)) d5 p5).map _=_;rw[show n-(i+1)=j by omega,g3,←g2];simp
   ·show subE _ (fun b=>b<5) _ [(36,.int .i64 ((i+1:Nat):Int)),(35,.int .i64 (n:Nat)),(8,.ptr 3 0),(5,.ptr 2 0),(2,.fs (strs L) L.length),(0,.ptr 0 0)];simp only[go_sem]
   ·show subH _ 5 _ [(4,.cells (arcs (y::(acc++[⟨xi,xo,xw,xt⟩])))),(3,.cells [.str f,.sl 4 0 (acc++[(⟨xi,xo,xw,xt⟩:Arc)]).length.succ 4 none]),(2,.cells [.int .i64 nm,.int .i64 wt,.int .i64 st,.int .i64 ar,.nilM]),(0,.cells [.fs (d5.map zq) d5.length,.int .i64 (p5:Nat)]),(1,.cells [.int .i64 (A+n:Nat)])];simp only[go_sem,eT,Yg,YQ,Yv,Ya8,Nat.succ_eq_add_one]
   ·show 2≤5;decide
   intro b hb hw;exact absurd hb (by match b with|0=>simp at hw|1=>simp at hw|b+2=>simp)
 obtain rfl:i=n:=Zo;rw[YaK]at g1;obtain⟨rfl,rfl,rfl⟩:[]=sr∧d=r'∧p=p':=by simpa[zfe,retR]using g1
 rw[Yab]at g2;subst g2;have dI:decide ((i:Int)<i)=false:=Yd Zo;cases acc with
 |nil=>
  dsimp only[xsH];simp(disch:=try exact Zp)only[go_sem,dI];refine AXa.go mixed (hΓ) (zgi) Zk ?_;simp(disch:=try exact Zp)only[go_sem];dsimp only[xsB,xsV,List.length_nil];refine⟨[(8,.ptr 2 0)],Xg [(2,3)] rfl Zg ?_ Zd ?_,?_⟩
  ·simp only[go_sem];rw[show A+i=A by have:0=i:=h2;omega]
  ·intro b hb hw;exact absurd hb (by match b with|0=>simp at hw|1=>simp at hw|b+2=>simp)
  simp(disch:=try exact Zp)only[go_sem]
 |cons y acc=>
  have h2':acc.length+1=i:=h2;dsimp only[xsH];simp(disch:=try exact Zp)only[go_sem,dI];refine AXa.go mixed (hΓ) (zgi) Zk ?_;simp(disch:=try exact Zp)only[go_sem];dsimp only[xsB,xsV];refine⟨[(8,.ptr 3 0)],Xg [(3,3),(2,4)] rfl Zg ?_ Zd ?_,?_⟩
  ·simp only[go_sem];rw[show A+i=A+(acc.length+1)by omega]
  ·intro b hb hw;exact absurd hb (by match b with|0=>simp at hw|1=>simp at hw|b+2=>simp)
  simp(disch:=try exact Zp)only[go_sem]
def xsta_N(nm wt st ar:Nat)(L:List Str)(l:ZL)(q A:Nat)(s:Sta)(r:ZL)(q':Nat)(hnm:nm≤100000000)(hst:st≤100000000)(har:ar≤100000000)(hL:L.length≤100000000)(hl:l.length≤80000000)(hq:q≤7) (hv:staM nm st ar L l q=some (s,r,q')) (hA:A+s.a.length≤30000):NCall prog 75 [.ptr 0 0,.agg (layX nm wt st ar),.fs (strs L) L.length,.ptr 1 0] [rdB l q,.cells [.int .i64 A]] [0,1] (staV s) ⟨[(0,rdB r q'),(1,.cells [.int .i64 (A+s.a.length:Nat)])],2⟩:=by
 have hN:=xsta_N0 nm wt st ar L l q A s r q' hnm hst har hL hl hq hv hA;obtain⟨f,a⟩:=s;dsimp only at hN ⊢;have hct:∀ {N:Nat→Prop} {k:Int},RnB id N (.cells [.int .i64 k]) (.cells [.int .i64 k]):=.cells (zB fun x hx=>by obtain rfl:=YB.1 hx;exact .int _ _);unfold staV;dsimp only;cases a with
 |nil=>
  refine hN.freeze [] (fun b hb=>by cases hb) (fun b hb=>?_) (.inr ?_) (fun b x' e=>?_) (fun b hb=>?_) (Yc 2)
  ·rcases Yy.1 hb with rfl|hb
   ·exact⟨_,rfl⟩
   obtain rfl:=YB.1 hb;exact⟨_,rfl⟩
  ·refine .agg rfl fun i x y hx hy=>?_;match i with
   |0=>cases hx;cases hy;exact .pure (.str _)
   |1=>cases hx;cases hy;exact .nil0
   |i+2=>simp at hx
  ·match b with
   |0=>cases e;exact⟨by show 0<2;decide,Zs,_,rfl,.inl (ziu _ _)⟩
   |1=>cases e;exact⟨by show 1<2;decide,Zs,_,rfl,.inl hct⟩
   |b+2=>cases e
  match b with
  |0=>rfl
  |1=>rfl
  |b+2=>exact absurd hb Zs
 |cons y a=>
  refine hN.freeze [2] (fun b hb=>?_) (fun b hb=>?_) (.inr ?_) (fun b x' e=>?_) (fun b hb=>?_) (Yc 2)
  ·obtain rfl:=YB.1 hb;exact⟨Yc _,_,rfl⟩
  ·rcases Yy.1 hb with rfl|hb
   ·exact⟨_,rfl⟩
   obtain rfl:=YB.1 hb;exact⟨_,rfl⟩
  ·refine .agg rfl fun i x y hx hy=>?_;match i with
   |0=>cases hx;cases hy;exact .pure (.str _)
   |1=>cases hx;cases hy;exact FrzF.slp Zs rfl rfl (by rw[zgf];omega) (by rw[YW,←zgf,Ym]) (zhH _)
   |i+2=>simp at hx
  ·match b with
   |0=>cases e;exact⟨by show 0<2;decide,Zs,_,rfl,.inl (ziu _ _)⟩
   |1=>cases e;exact⟨by show 1<2;decide,Zs,_,rfl,.inl hct⟩
   |b+2=>cases e
  match b with
  |0=>rfl
  |1=>rfl
  |b+2=>exact absurd hb Zs
end Go.Proofs

namespace Go.Proofs
open Go.Ab Go.Pl Go.Cnt
def zfQ {B:ZL}(h:∀b∈B,b.toNat<2)(i:Nat):bt B i<2:=by
 unfold bt;rw[Ya];by_cases hi:i<B.length
 ·rw[Yb hi];exact h _ (Y1 hi)
 rw[Yo Zo];decide
def byt_bit {B:ZL}(h:∀b∈B,b.toNat<2)(i r:Nat)(hr:r<8):(UInt8.ofNat (byt B i)).toNat/2^(7-r)%2=bt B (8*i+r):=by
 have h0:=zfQ h (8*i);have h1:=zfQ h (8*i+1);have h2:=zfQ h (8*i+2);have h3:=zfQ h (8*i+3);have h4:=zfQ h (8*i+4);have h5:=zfQ h (8*i+5);have h6:=zfQ h (8*i+6);have h7:=zfQ h (8*i+7);have hb:(UInt8.ofNat (byt B i)).toNat=byt B i:=by rw[UInt8.toNat_ofNat'];unfold byt;omega
 rw[hb];unfold byt;rcases(show r=0∨r=1∨r=2∨r=3∨r=4∨r=5∨r=6∨r=7 by omega)with rfl|rfl|rfl|rfl|rfl|rfl|rfl|rfl
 ·show _/128%2=bt B (8*i);omega
 ·show _/64%2=_;omega
 ·show _/32%2=_;omega
 ·show _/16%2=_;omega
 ·show _/8%2=_;omega
 ·show _/4%2=_;omega
 ·show _/2%2=_;omega
 show _/1%2=_;omega
def RdAt(R l:ZL)(q:Nat):Prop:=∃P:ZL,P.length%8=q∧(∀b∈P++R,b.toNat<2)∧l=(zdQ (P++R) (((P++R).length+7)/8)).drop (P.length/8)
def zmC(B:ZL)(k:Nat):(zdQ B k).length=k:=by simp[zdQ]
def RdAt.step {b:UInt8}{R l:ZL}{q:Nat}(h:RdAt (b::R) l q):∃c l',l=c::l'∧c.toNat/2^(7-q)%2=b.toNat∧(if q=7 then RdAt R l' 0 else RdAt R (c::l') (q+1)):=by
 obtain⟨P,hq,hb,rfl⟩:=h;have e:P++b::R=(P++[b])++R:=Zs;have hl:(P++b::R).length=P.length+1+R.length:=by simp;omega
 have hi:P.length/8<(zdQ (P++b::R) (((P++b::R).length+7)/8)).length:=by rw[zmC,hl];omega
 refine⟨_,_,Yaw hi,?_,?_⟩
 ·have e1:(zdQ (P++b::R) (((P++b::R).length+7)/8))[P.length/8]=UInt8.ofNat (byt (P++b::R) (P.length/8)):=by simp[zdQ]
  rw[e1,byt_bit hb _ _ Zo,show 8*(P.length/8)+q=P.length by omega];unfold bt;rw[Ya,Yak (Yc _),YaK];rfl
 split
 ·refine⟨P++[b],by rw[Yg];show (P.length+1)%8=0;omega,by rw[←e];exact hb,?_⟩;rw[←e,show (P++[b]).length/8=P.length/8+1 by rw[Yg];show (P.length+1)/8=_;omega]
 refine⟨P++[b],by rw[Yg];show (P.length+1)%8=_;omega,by rw[←e];exact hb,?_⟩;rw[←e,show (P++[b]).length/8=P.length/8 by rw[Yg];show (P.length+1)/8=_;omega];exact(Yaw hi).symm
def bin_step(n0 n z:Nat):(2*n0+n/2^z%2)*2^z+n%2^z=n0*2^(z+1)+n%2^(z+1):=by rw[YG,Nat.mod_mul];generalize 2^z=K;generalize n/K%2=x;generalize n%K=y;rw[Y5,Yac 2 n0,YY,Yac 2 K,Yac x K];omega
def znF:∀(z n n0:Nat) {R l:ZL} {q:Nat},RdAt (bitF z n++R) l q→∃l' q',numR z n0 l q=some (n0*2^z+n%2^z,l',q')∧RdAt R l' q'
 |0,n,n0,R,l,q,h=>⟨l,q,by rw[numR];simp[Nat.mod_one],h⟩
 |z+1,n,n0,R,l,q,h=>by
  obtain⟨c,l',rfl,hc,h'⟩:=RdAt.step (show RdAt (UInt8.ofNat (n/2^z%2)::(bitF z n++R)) l q from h);have hb:(UInt8.ofNat (n/2^z%2)).toNat=n/2^z%2:=by rw[UInt8.toNat_ofNat'];omega
  rw[numR,hc,hb,←bin_step];split at h'
  ·rename_i hq;rw[Yi hq];exact znF z n _ h'
  rename_i hq;rw[Ye hq];exact znF z n _ h'
def zfL {z n:Nat}(hn:n<2^z){R l:ZL}{q:Nat}(h:RdAt (bitF z n++R) l q):∃l' q',numR z 0 l q=some (n,l',q')∧RdAt R l' q':=by have:=znF z n 0 h;rw[Ybo,Yae,Ybi hn]at this;exact this
def ziD {n m:Nat}(hm:m<18446744073709551616)(h:n≤m):n<2^widI (m:Int):=by
 unfold widI;rw[Yq];refine Ybb h ?_;rcases YR m with rfl|h0
 ·decide
 exact(Lib.bitLenAux_bounds 64 m hm Zo).2.2
def wgt_at {L:List Str}{w:Str}(hw:w∈L)(hL:L.length≤100000000){R l:ZL}{q:Nat}(h:RdAt (bitF (widI ((L.length:Int)-1)) (L.idxOf w)++R) l q):∃l' q',wgtX L l q=some (w,l',q')∧RdAt R l' q':=by
 have hi:=List.idxOf_lt_length_iff.2 hw;have hl:L.idxOf w<2^widI ((L.length:Int)-1):=by rw[zgr];exact ziD Zo Zo
 obtain⟨l',q',h1,h2⟩:=zfL hl h;refine⟨l',q',?_,h2⟩;unfold wgtX;rw[h1];show (if _ then _ else _)=_;rw[Yi hi];congr 2;rw[Ya,Yb hi];exact List.getElem_idxOf hi
structure ArcIn(x:Lay)(e:Ens)(L:List Str)(a:Arc):Prop where
 i0:0≤a.i
 i:a.i≤x.nm
 o0:0≤a.o
 o:a.o≤x.nm
 t0:0≤a.t
 t:a.t<x.st
 w:a.w∈L
 e:valS e a.w=(L.idxOf a.w:Nat)
def arcM_at {x:Lay}{e:Ens}{L:List Str}{a:Arc}(hx:x.nm≤100000000∧x.st≤100000000)(hL:x.wt=L.length)(hl:L.length≤100000000)(ha:ArcIn x e L a){R l:ZL}{q:Nat}(h:RdAt (zb6 (arcP x e a)++R) l q):∃l' q',arcM x.nm x.st L l q=some (a,l',q')∧RdAt R l' q':=by
 obtain⟨i,o,w,t⟩:=a;obtain⟨i0,i1,o0,o1,t0,t1,w1,e1⟩:=ha;dsimp only at i0 i1 o0 o1 t0 t1 w1 e1;obtain⟨i,rfl⟩:∃n:Nat,i=n:=⟨i.toNat,Zo⟩;obtain⟨o,rfl⟩:∃n:Nat,o=n:=⟨o.toNat,Zo⟩;obtain⟨t,rfl⟩:∃n:Nat,t=n:=⟨t.toNat,Zo⟩;unfold arcP at h;dsimp only at h;rw[e1,hL,Yq,Yq,Yq,Yq,zaU,zaU,za9,zaU,zaU,YH,YH,YH,YH,YH]at h;dsimp only at h;have hpos:1≤x.st:=Zo;obtain⟨l1,q1,v1,hA⟩:=zfL (z:=1) (b2n_lt _) h;obtain⟨l2,q2,v2,hB⟩:=zfL (ziD (n:=i) (m:=x.nm) Zo Zo) hA;clear h hA;have key:∃l3 q3,(if b2n (decide ((i:Int)=o))=1 then retR i else numR (widI x.nm) 0) l2 q2=some (o,l3,q3)∧RdAt (bitF (widI ((L.length:Int)-1)) (L.idxOf w)++(bitF (widI ((x.st:Int)-1)) t++(zb6 []++R))) l3 q3:=by
  by_cases ho:(i:Int)=o
  ·rw[Yi ho]at hB;rw[Yf ho,Yi (show b2n true=1 from rfl)];obtain rfl:i=o:=Zo;exact⟨l2,q2,rfl,hB⟩
  rw[Ye ho,zaU,YH]at hB;rw[Yd ho,Ye (show ¬b2n false=1 by decide)];exact zfL (ziD (n:=o) (m:=x.nm) Zo Zo) hB
 obtain⟨l3,q3,v3,h⟩:=key;obtain⟨l4,q4,v4,h⟩:=wgt_at w1 hl h;have hst:(x.st:Int)-1=((x.st-1:Nat):Int):=Zo;have h':=h;rw[hst]at h';obtain⟨l5,q5,v5,h⟩:=zfL (ziD (n:=t) (m:=x.st-1) Zo Zo) h';refine⟨l5,q5,?_,h⟩;unfold arcM;rw[zbD v1,zbD v2,zbD v3,zbD v4,hst,zbD v5];rfl
def zqA {x:Lay}{e:Ens}{L:List Str}(hx:x.nm≤100000000∧x.st≤100000000)(hL:x.wt=L.length)(hl:L.length≤100000000):∀(A:List Arc) {R l:ZL} {q:Nat},(∀a∈A,ArcIn x e L a)→RdAt (zb6 (A.flatMap (arcP x e))++R) l q→∃l' q',zfe x.nm x.st L A.length l q=some (A,l',q')∧RdAt R l' q'
 |[],R,l,q,_,h=>⟨l,q,rfl,h⟩
 |a::A,R,l,q,ha,h=>by rw[List.flatMap_cons,za9,YH]at h;obtain⟨l1,q1,v1,h⟩:=arcM_at hx hL hl (ha a (YK ..)) h;obtain⟨l2,q2,v2,h⟩:=zqA hx hL hl A (fun b hb=>ha b (Yaa _ hb)) h;refine⟨l2,q2,?_,h⟩;show zfe x.nm x.st L (A.length+1) l q=_;rw[zfe,zbD v1,zbD v2];rfl
structure StaIn(x:Lay)(e:Ens)(L:List Str)(s:Sta):Prop where
 n:s.a.length≤x.ar
 f:s.f≠[]→s.f∈L∧valS e s.f=(L.idxOf s.f:Nat)
 a:∀a∈s.a,ArcIn x e L a
def staM_at {x:Lay}{e:Ens}{L:List Str}{s:Sta}(hx:x.nm≤100000000∧x.st≤100000000)(har:x.ar≤100000000)(hL:x.wt=L.length)(hl:L.length≤100000000)(hs:StaIn x e L s){R l:ZL}{q:Nat}(h:RdAt (zb6 (staP x e s)++R) l q):∃l' q',staM x.nm x.st x.ar L l q=some (s,l',q')∧RdAt R l' q':=by
 obtain⟨f,A⟩:=s;obtain⟨s1,s2,s3⟩:=hs;dsimp only at s1 s2 s3;unfold staP at h;dsimp only at h;rw[hL,zaU,za9,zaU,YH,YH,YH]at h;dsimp only at h;obtain⟨l1,q1,v1,hB⟩:=zfL (z:=1) (b2n_lt _) h;clear h;have key:∃l2 q2,(if b2n (!decide (f=[]))=1 then wgtX L else retR []) l1 q1=some (f,l2,q2)∧RdAt (bitF (widI x.ar) A.length++(zb6 (A.flatMap (arcP x e))++R)) l2 q2:=by
  by_cases hf:f=[]
  ·rw[Yi hf]at hB;rw[Yf hf,Ye (show ¬b2n (!true)=1 by decide),hf];exact⟨l1,q1,rfl,hB⟩
  obtain⟨w1,w2⟩:=s2 hf;rw[Ye hf,w2,Yq,zaU,YH]at hB;rw[Yd hf,Yi (show b2n (!false)=1 from rfl)];exact wgt_at w1 hl hB
 obtain⟨l2,q2,v2,h⟩:=key;obtain⟨l3,q3,v3,h⟩:=zfL (ziD (n:=A.length) (m:=x.ar) Zo Zo) h;obtain⟨l4,q4,v4,h⟩:=zqA hx hL hl A s3 h;refine⟨l4,q4,?_,h⟩;unfold staM;rw[zbD v1,zbD v2,zbD v3,zbD v4];rfl
def zgH(nm st ar:Nat)(L:List Str):Nat→RM (List Sta)
 |0=>retR []
 |k+1=>bndR (staM nm st ar L) fun s=>bndR (zgH nm st ar L k) fun r=>retR (s::r)
def zjR(z:Nat):Nat→RM Unit
 |0=>retR ()
 |k+1=>bndR (numR z 0) fun _=>zjR z k
def zpk {x:Lay}{e:Ens}{L:List Str}(hx:x.nm≤100000000∧x.st≤100000000)(har:x.ar≤100000000)(hL:x.wt=L.length)(hl:L.length≤100000000):∀(q:List Sta) {R l:ZL} {p:Nat},(∀s∈q,StaIn x e L s)→RdAt (zb6 (q.flatMap (staP x e))++R) l p→∃l' p',zgH x.nm x.st x.ar L q.length l p=some (q,l',p')∧RdAt R l' p'
 |[],R,l,q,_,h=>⟨l,q,rfl,h⟩
 |s::A,R,l,q,ha,h=>by rw[List.flatMap_cons,za9,YH]at h;obtain⟨l1,q1,v1,h⟩:=staM_at hx har hL hl (ha s (YK ..)) h;obtain⟨l2,q2,v2,h⟩:=zpk hx har hL hl A (fun b hb=>ha b (Yaa _ hb)) h;refine⟨l2,q2,?_,h⟩;show zgH x.nm x.st x.ar L (A.length+1) l q=_;rw[zgH,zbD v1,zbD v2];rfl
def zpA(z:Nat):∀(N:ZN) {R l:ZL} {p:Nat},(∀n∈N,n<2^z)→RdAt (zb6 (N.map fun n=>(n,z))++R) l p→∃l' p',zjR z N.length l p=some ((),l',p')∧RdAt R l' p'
 |[],R,l,q,_,h=>⟨l,q,rfl,h⟩
 |n::N,R,l,q,hn,h=>by rw[Y7,zaU,YH]at h;obtain⟨l1,q1,v1,h⟩:=zfL (hn n (YK ..)) h;obtain⟨l2,q2,v2,h⟩:=zpA z N (fun b hb=>hn b (Yaa _ hb)) h;refine⟨l2,q2,?_,h⟩;show zjR z (N.length+1) l q=_;rw[zjR,zbD v1,v2]
def RdAt.start {B:ZL}(h:∀b∈B,b.toNat<2):RdAt B (zdQ B ((B.length+7)/8)) 0:=⟨[],rfl,h,rfl⟩
def zx7:∀(k n:Nat),∀b∈bitF k n,b.toNat<2
 |0,_,_,h=>by cases h
 |k+1,n,b,h=>by
  rcases Yy.1 h with rfl|h
  ·rw[UInt8.toNat_ofNat'];omega
  exact zx7 k n b h
def zqr(L:List (Nat×Nat)):∀b∈zb6 L,b.toNat<2:=fun b hb=>by obtain⟨p,_,h⟩:=Yay.1 hb;exact zx7 _ _ b h
def ztF:∀(k n:Nat),n<128^(k+1)→varF (k+1) n=varF k n
 |0,n,h=>by
  have h':n<128:=by simpa using h
  rw[varF.eq_2,Yi h',varF.eq_1]
 |k+1,n,h=>by
  rw[varF,varF.eq_2 n k];split
  ·rfl
  rw[ztF k (n/128) (Nat.div_lt_of_lt_mul (by rw[Yac,←YG];exact h))]
def zeH(n:Nat)(r:ZL)(h:n<34359738368):vdec 5 (varF 5 n++r)=some (n,r):=by rw[ztF 4 n h];exact zkX 4 n r h
def cpl_take(a b:ZL):a.take (cpl a b)=b.take (cpl a b):=by
 obtain⟨h1,h2⟩:=zqb a b;apply YaI;intro i;by_cases hi:i<cpl a b
 ·rw[List.getElem?_take_of_lt hi,List.getElem?_take_of_lt hi,zwT a b i hi]
 rw[Yo (by rw[Y0];omega),Yo (by rw[Y0];omega)]
def zkk(most:Nat):∀(l:List Str)(last:Str)(r:ZL),(∀s∈l,s.length≤most)→most≤1000000→last.length≤1000000→zdt most l.length last (zbc last l++r)=some (l,r)
 |[],_,_,_,_,_=>rfl
 |s::l,last,r,h,hm,hl=>by
  obtain⟨h1,h2⟩:=zqb last s;have hs:=h s (YK ..);have e1:zbc last (s::l)++r=varF 5 (cpl last s)++(varF 5 (s.length-cpl last s)++(s.drop (cpl last s)++(zbc s l++r))):=by show (varF 5 (cpl last s)++(varF 5 (s.length-cpl last s)++(s.drop (cpl last s)++zbc s l)))++r=_;simp
  have hd:(s.drop (cpl last s)).length=s.length-cpl last s:=Yai;rw[e1];show zdt most (l.length+1) last _=_;rw[zdt,zeH _ _ Zo];dsimp only;rw[Yi h1,zeH _ _ Zo];dsimp only;have e2:last.take (cpl last s)++(s.drop (cpl last s)++(zbc s l++r)).take (s.length-cpl last s)=s:=by rw[cpl_take,←hd,List.take_left,Yaf]
  rw[Yi ⟨Zo,by rw[Yg];omega⟩,e2,←hd,List.drop_left,zkk most l s r (fun x hx=>h x (Yaa _ hx)) hm Zo];rfl
end Go.Proofs
