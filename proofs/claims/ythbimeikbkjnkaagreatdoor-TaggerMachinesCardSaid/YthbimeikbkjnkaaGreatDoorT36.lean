/- Machines: what the statement's own function asks of the plain law. -/
import Derived.Test.YthbimeikbkjnkaaGreatDoorT35
import Derived.Test.YthbimeikbkjnkaaGreatDoorCards
import Derived.Test.YthbimeikbkjnkaaGreatDoorTie
import Derived.ProofKit
import Derived.LaidMore
import Derived.OpenShut
import Derived.Stop.Joined
import Derived.Stop.LaidErr
import Derived.SevenTiedAt
import Derived.Lib.LaidTab
import Derived.Carry
set_option linter.all false
set_option maxHeartbeats 16000000
set_option maxRecDepth 100000
namespace Go.Proofs
open Go.Ab Go.Cnt Go.Pl Go.Tg
theorem zyg {m:Mdl}(hv:vmB m=true):Mod m:=by obtain⟨h1,h2⟩:=zhl hv;exact⟨fun i j hi hj=>(zla h1 (by omega) (by omega)).1,fun j c hj hc=>(zla h2 hj (by omega)).1⟩
def zqS(s:Sta):Prop:=∀ a∈s.a,a.w.length≤1000
theorem zBK(m:Mdl)(c b i:Nat)(f:Int):∀ j,∀ a∈(arcF m c b i f j).1,a.w.length≤1000
 |0=>fun a h=>by simp [arcF]at h
 |j+1=>by
  rw [arcF];dsimp only;split
  ·exact zBK m c b i f j
  ·intro a ha;rcases Yaf.1 ha with ha|ha
   ·exact zBK m c b i f j a ha
   ·obtain rfl:=Yah.1 ha;exact tm_len _ _ _
theorem zw9(m:Mdl)(c b t:Nat){s:MS}(hs:∀ x∈s.q,zqS x):∀ i,∀ x∈(rowM m c b t s i).q,zqS x
 |0=>hs
 |i+1=>by
  rw [rowM];split
  ·exact zw9 m c b t hs i
  ·intro x hx;rcases zpq hx with hx|rfl
   ·exact zw9 m c b t hs i x hx
   ·exact zBK m c b i _ _
theorem wrdM_w(m:Mdl)(cs:List Nat):∀ t,∀ x∈(wrdM m cs t).q,zqS x
 |0=>fun x h=>by
  have:x=⟨[],[]⟩:=by simpa [wrdM] using h
  subst this;intro a ha;cases ha
 |t+1=>by
  rw [wrdM];refine zw9 m _ _ _ (fun x hx=>?_) _;rcases Yaf.1 hx with hx|hx
  ·exact wrdM_w m cs t x hx
  ·obtain⟨_,rfl⟩:=YbG.1 hx;intro a ha;cases ha
theorem pm_lt {x y:Nat}{k:Nat}(hk:k≤400)(hx:x≤y)(hy:y<10 ^ k):x<10 ^ 400∧y<10 ^ 400:=by have h:=Yo hy (YI (by decide) hk);exact⟨YaN hx h,h⟩
theorem pm_small {a b:Str}(ha:p01 a=true)(hb:p01 b=true)(sa:a.countP (· ≠47)≤4)(sb:b.countP (· ≠47)≤4):(pmul a b).2=0:=by
 obtain⟨x,y,i1,h1,r1⟩:=zhO ha;obtain⟨u,v,i2,h2,r2⟩:=zhO hb;rcases zec i1 i2 with⟨h,_⟩|⟨_,hn⟩
 ·exact h
 ·exfalso;have s1:=zjr r1 sa;have s2:=zjr r2 sb;refine hn (pm_lt (k:=4+4) (by decide) (Yak h1 h2) ?_);rw [Ycn];exact Nat.mul_lt_mul'' s1 s2
theorem small_z {m:Mdl}{ws:List Str}(hv:vmB m=true)(hs:zfm m ws=true){cs:List Nat}(hc:∀ t,t<cs.length→cs.getD t 0≤m.words.length):∀ t,t≤cs.length→(wrdM m cs t).f=0:=by
 obtain⟨h1,h2⟩:=zhl hv;have hs':=hs;unfold zfm at hs';simp only [Yc,Yh]at hs';have key:∀ i j c,i≤m.tags.length→j<m.tags.length→c≤m.words.length→(pmul (nx m i j) (em m j c)).2=0:=fun i j c hi hj hc=>by obtain⟨a1,a2⟩:=zla h1 (i:=i) (j:=j) (by omega) (by omega);obtain⟨b1,b2⟩:=zla h2 (i:=j) (j:=c) hj (by omega);exact pm_small a1 b1 (a2 hs'.2.1) (b2 hs'.2.2)
 have kz:∀ {a b:Str},(pmul a b).2=0→(tm 0 a b).2=0:=fun {a b} h=>by unfold tm kn;rw [Yd (by simp [h])]
 have ka:∀ c b i,c≤m.words.length→i≤m.tags.length→∀ j,j≤m.tags.length→(arcF m c b i 0 j).2=0:=fun c b i hc hi j=>by
  induction j with
  |zero=>intro _;rfl
  |succ j ih=>intro hj;rw [arcF,ih (by omega)];exact kz (key i j c hi (by omega) hc)
 have kr:∀ c b t s,c≤m.words.length→s.f=0→∀ i,i≤m.tags.length+1→(rowM m c b t s i).f=0:=fun c b t s hc hz i=>by
  induction i with
  |zero=>intro _;exact hz
  |succ i ih=>
   intro hi;rw [rowM];split
   ·exact ih (by omega)
   ·dsimp only;rw [ih (by omega)];exact ka c b i hc (by omega) _ (Ye _)
 intro t;induction t with
 |zero=>intro _;rfl
 |succ t ih=>intro ht;rw [wrdM];exact kr _ _ _ (newM m.tags.length (wrdM m cs t)) (hc t (by omega)) (ih (by omega)) _ (Ye _)
theorem zzN(m:Mdl)(ws:List Str):∀ t,t<(zH m ws).length→(zH m ws).getD t 0≤m.words.length:=fun t ht=>by
 have hl:(zH m ws).length=ws.length:=by simp [zH]
 rw [zim m ws t (by omega)];exact zia _ _
theorem tgM_ok {m:Mdl}(hv:vmB m=true){cs:List Nat}(hc:∀ t,t<cs.length→cs.getD t 0≤m.words.length)(hn:m.tags.length≤3)(hT:cs.length≤4)(hz:(wrdM m cs cs.length).f=0)(hl:∀ i j,(nx m i j).length≤1000000000)
 {x:List Int} (hx:x.length≤1000000):AccOK (tgM m cs) x:=by
 have hm:=zyg hv
 obtain⟨g1,g2,_⟩:=zq1 hm hc hn hT hz
 have hmul:cs.length*m.tags.length≤4*3:=Yak hT hn
 have hN:(tgM m cs).q.length=1+cs.length*m.tags.length:=by rw [zoG,zdF,zbn]
 have key:∀ s∈(tgM m cs).q,s.f.length≤1000000000∧zqS s:=by
  intro s hs;obtain⟨i,hi,rfl⟩:=Yaj.1 hs;rw [hN]at hi;have hil:i<(wrdM m cs cs.length).q.length:=by rw [zbn];exact hi
  have hq:(wrdM m cs cs.length).q[i]∈(wrdM m cs cs.length).q:=YZ _;have w1:=wrdM_w m cs _ _ hq;have f1:=zwn m cs _ _ hq;have e:(tgM m cs).q[i]'(by omega)=if (decide (lastB m.tags.length cs.length≤i)&&decide (i - lastB m.tags.length cs.length<zaF m.tags.length cs.length))=true then⟨endT m cs.length (i - lastB m.tags.length cs.length),((wrdM m cs cs.length).q[i]).a⟩else(wrdM m cs cs.length).q[i]:=by simp only [tgM,finQ,List.getElem_mapIdx]
  rw [e];split
  ·refine⟨?_,w1⟩;dsimp only;unfold endT;split
   ·simp
   ·exact hl _ _
  ·exact⟨by rw [f1];simp,w1⟩
 have ha:∀ s∈(tgM m cs).q,∀ a∈s.a,0≤a.t∧a.t<(tgM m cs).q.length:=fun s hs a has=>by
  have h1:ze0 (tgM m cs)=true:=by unfold accB at g1;simp only [Yc]at g1;exact g1.1
  unfold ze0 at h1;simp only [Yc,Yg]at h1;have h2:=h1.1.2 s hs;unfold staB at h2;simp only [Yc,Yg]at h2;have h3:=h2.2 a has;unfold arcB at h3;simp only [Yc,Yh]at h3;exact⟨h3.1.1.2,h3.1.2⟩
 have hal:∀ s∈(tgM m cs).q,s.a.length≤30000:=fun s hs=>by
  have h1:arcN (tgM m cs).q≤30000:=by unfold accB ze0 at g1;simp only [Yc,Yh]at g1;exact g1.1.2
  obtain⟨i,hi,rfl⟩:=Yaj.1 hs;have e:nthQ (tgM m cs).q i=(tgM m cs).q[i]:=by rw [zc9,Ya,Yb hi];rfl
  have:=zhr (tgM m cs).q i hi;have h2:=zl9 (tgM m cs).q (i:=i+1) (by omega) (Ye _);rw [zkh]at h2;rw [←e];omega
 exact⟨⟨by omega,fun s hs=>Yn (hal s hs) (by decide),show ([49]:Str).length≤1000000000 from by decide,fun s hs=>(key s hs).1,fun s hs a has=>Yn ((key s hs).2 a has) (by decide)⟩,by omega,ha,fun s hs a has=>by have:=g2 s hs a has;omega,show ([49]:Str).length≤1000 from by decide,⟨YbX _,by rw [hN];show (0:Int)<_;omega⟩,hx⟩
def lowX(n:Nat)(x:List Int):List Int:=(x.filter fun a=>decide (a≤(n:Int))).map fun a=>a - 1
theorem zys(n:Nat)(x:List Int)(i:Nat)(h:i<x.length):lowX n (x.take (i+1))=if x.getD i 0≤(n:Int)then lowX n (x.take i)++[x.getD i 0 - 1]else lowX n (x.take i):=by
 have e:x.take (i+1)=x.take i++[x.getD i 0]:=by rw [Ya8,Yb h,Ya,Yb h];rfl
 unfold lowX;rw [e,List.filter_append,Yau];by_cases hx:x.getD i 0≤(n:Int)
 ·rw [Yf hx,YaC,Yf (YB hx)];rfl
 ·rw [Yd hx,YaC,Yd (by simpa using hx)];simp
theorem lowX_len(n:Nat)(x:List Int):(lowX n x).length≤x.length:=by unfold lowX;rw [Yb5];exact List.length_filter_le _ _
theorem lowX_all {n:Nat}{x:List Int}:(lowX n x).length=x.length↔∀ k,k<x.length→x.getD k 0≤(n:Int):=by
 unfold lowX;rw [Yb5,List.length_filter_eq_length_iff];constructor
 ·intro h k hk;have:=h (x.getD k 0) (by rw [Ya,Yb hk];exact YZ _);simpa using this
 ·intro h a ha;obtain⟨k,hk,rfl⟩:=Yaj.1 ha;have:=h k hk;rw [Ya,Yb hk]at this;simpa using this
theorem lowX_js {n:Nat}{x:List Int}(h:∀ k,k<x.length→x.getD k 0≤(n:Int))(h1:∀ k,k<x.length→1≤x.getD k 0):ints .i64 (lowX n x)=nats .i64 (jsOf x):=by
 have e:x.filter (fun a=>decide (a≤(n:Int)))=x:=by rw [List.filter_eq_self];intro a ha;obtain⟨k,hk,rfl⟩:=Yaj.1 ha;have:=h k hk;rw [Ya,Yb hk]at this;simpa using this
 unfold lowX jsOf ints nats;rw [e,YcJ,YcJ];apply YbR;intro a ha;obtain⟨k,hk,rfl⟩:=Yaj.1 ha;have:=h1 k hk;rw [Ya,Yb hk]at this;simp only [YbT]at this;show V.int .i64 (x[k] - 1)=V.int .i64 (((x[k] - 1).toNat:Nat):Int);congr 1;omega
theorem wordB_at {x:List Int}(h:zdY x=true):x.length≤200∧∀ k,k<x.length→1≤x.getD k 0∧x.getD k 0≤500:=by unfold zdY at h;simp only [Yc,Yh,Yg]at h;refine⟨h.1,fun k hk=>?_⟩;have:=h.2 (x.getD k 0) (by rw [Ya,Yb hk];exact YZ _);unfold symB at this;simpa using this
end Go.Proofs

namespace Go.Ab
def TellF(C:Cfg)(s s':St):Prop:=Sub C s s'∨∃ s1,(C.Wm=[]∧∃ F,Fz2 C.nx F s s1)∧Sub C s1 s'
def LoopF(C:Cfg)(ι:Type)(inv:ι→St)(p:ι→Prop)(m:ι→Nat)(i:ι)(K:Out→St→Prop):Out→St→Prop:=zgs (fun s'=>∃ j,p j∧m j<m i∧TellF C s' (inv j)) K
theorem zyu {C:Cfg}{P:Program}{ι:Type}{inv:ι→St}{p:ι→Prop}{m:ι→Nat}{i:ι}{K:Out→St→Prop}{st:List Fr}(env:Env)(h:Hp):LoopF C ι inv p m i (unst C P K st) .ret ⟨env,h⟩=AXs C P K st .ret env h:=rfl
theorem ztZ {C:Cfg}{P:Program}{ι:Type}{inv:ι→St}{p:ι→Prop}{m:ι→Nat}{i:ι}{K:Out→St→Prop}{st:List Fr}(k:Nat)(env:Env)(h:Hp):LoopF C ι inv p m i (unst C P K st) (.exit k) ⟨env,h⟩=AXs C P K st (.exit k) env h:=rfl
attribute [go_sem] zyu ztZ
theorem zlg {H:Hp}{F:Nat→Prop}{n:Nat}:∀ {l:List V},(∀ x∈l,Pure x)→lFz H F n l l
 |[],_=>trivial
 |x::l,h=>⟨.inl (.same (h x (by simp))),zlg fun y hy=>h y (by simp [hy])⟩
end Go.Ab

namespace Go.Proofs
open Tryz Go.Ab Go.Cnt Go.Pl Go.Tg
def slI(b:Nat)(l:List Int):V:=if l=[]then .nilS else .sl b 0 l.length 1 none
def blkI(b:Nat)(l:List Int)(r:List (Nat×Blk)):List (Nat×Blk):=if l=[]then r else(b,.cells (ints .i64 l))::r
theorem zkq(b:Nat):slI b []=.nilS:=rfl
theorem zfP(b:Nat)(r:List (Nat×Blk)):blkI b [] r=r:=rfl
theorem zmm(b:Nat){l:List Int}(h:l≠[]):slI b l=.sl b 0 l.length 1 none:=Yd h
theorem zfa(b:Nat){l:List Int}(h:l≠[])(r:List (Nat×Blk)):blkI b l r=(b,.cells (ints .i64 l))::r:=Yd h
theorem zmV(m:Mdl)(ws:List Str)(x:List Int)(hi:InM m ws)(hx:x.length≤1000000000000000):PCall prog 6 [mdlV m,.fs (strs ws) ws.length,.fs (ints .i64 x) x.length] (.ret (.bool true)):=by
 have hΓ:=zf zvr (zf cTAwk_ok (zf zgj (zf zAk (zf cTRVM_ok (zf zvz (zf zqc (zf zr8 (zf cProb_ok (zf znT zh)))))))));have e1:=zvs m ws hi;have e2:=zgk x hx;have hfit:=fitB_fit hi;refine PCall.walk (rs:=[.tmp 6]) [0,1,2,3,6,7,8,9,10,11,12,13,14,15,28,43,50,69,73,83,103,112] [25] mixed (hΓ) (zg) call6 func6 rfl ntmps6 rfl (by kernel_rfl) (by simp) (by simp [push_cast,zcY]) ?_;cases hb:(!fitB m ws||decide (6<(x.length:Int))|| !zdY x)with
 |true=>
  generalize fitB m ws=fb at e1 hb;generalize zdY x=wb at e2 hb;clear hfit;obtain⟨T,W,N,E⟩:=m;unfold mdlV at e1 ⊢;dsimp only at e1 ⊢;simp (disch:=first|exact Zq|fail) only [go_sem,e1,e2];rw [hb];simp (disch:=first|exact Zq|fail) only [go_sem]
 |false=>
  have hb':fitB m ws=true∧x.length≤6∧zdY x=true:=by simp only [YcB,Bool.not_eq_false',YS]at hb;exact⟨hb.1.1,by omega,hb.2⟩
  obtain⟨hfb,hx6,hwx⟩:=hb';obtain⟨hf,h4,hl⟩:=hfit hfb;have h3:m.tags.length≤3:=by unfold fitB at hfb;simp only [Yc,Yh]at hfb;exact hfb.1.1
  have e3:=zAl m ws ⟨hf,show ws.length≤1000 by omega,hl⟩;have e4:=cTRVM_eq m hf;have e5:=zvA ws (by omega) hi.s;have e6:=zqd m ws hf (by omega);obtain⟨hx2,hx1⟩:=wordB_at hwx;have hcl:(zH m ws).length=ws.length:=by simp [zH]
  have hcc:=zzN m ws;rw [hfb]at e1;rw [hwx]at e2;have e0:decide (6<(x.length:Int))=false:=Yy (by omega);by_cases hvw:(vmB m&&zb1 ws)=true;rotate_left
  ·have hr:zfA m ws=(noM,1):=by unfold zfA;rw [Yf (by simpa using hvw)]
   rw [hr]at e3;have hnm:zah noM=.agg [.int .i64 0,.int .i64 0,.str [],.fs [] 0]:=rfl;rw [hnm]at e3;have hvn:(!vmB m|| !zb1 ws)=true:=by rw [←YbY];simp only [Ycx]at hvw;rw [hvw];rfl
   generalize vmB m=vb at e4 hvn;generalize zb1 ws=wb at e5 hvn;clear hfit hfb hvw hr hx1 hcc hcl e6;obtain⟨T,W,N,E⟩:=m;unfold mdlV at e1 e3 e4 ⊢;dsimp only at e1 e3 e4 ⊢;simp (disch:=first|exact Zq|fail) only [go_sem,e0,e1,e2,e3,e4,e5];rw [hvn];simp (disch:=first|exact Zq|fail) only [go_sem]
  have hv:vmB m=true:=by simp only [Yc]at hvw;exact hvw.1
  have hw:zb1 ws=true:=by simp only [Yc]at hvw;exact hvw.2
  rw [hv]at e4;rw [hw]at e5;have h12:m.tags.length*ws.length≤3*4:=Yak h3 h4;by_cases hz:(wrdM m (zH m ws) ws.length).f=0;rotate_left
  ·have hr:zfA m ws=(noM,2):=by
    unfold zfA
    rw [Yd (by simp [hvw]),Yd (by omega),Yf (.inl hz)]
   have hs:zfm m ws=false:=by
    cases h:zfm m ws with
    |false=>rfl
    |true=>exact absurd (small_z hv h hcc _ (by omega)) hz
   rw [hr]at e3
   have hnm:zah noM=.agg [.int .i64 0,.int .i64 0,.str [],.fs [] 0]:=rfl
   rw [hnm]at e3
   rw [hs]at e6
   clear hfit hfb hvw hr hx1 hcc hcl h12 hz
   obtain⟨T,W,N,E⟩:=m
   unfold mdlV at e1 e3 e4 e6 ⊢
   dsimp only at e1 e3 e4 e6 ⊢
   simp (disch:=first|exact Zq|fail) only [go_sem,e0,e1,e2,e3,e4,e5,e6]
  have hz':(wrdM m (zH m ws) (zH m ws).length).f=0:=by rw [hcl];exact hz
  obtain⟨g1,_,g3⟩:=zq1 (zyg hv) hcc h3 (by omega) hz';have hr:zfA m ws=(tgM m (zH m ws),0):=by
   unfold zfA;rw [hcl]at g3;rw [Yd (by simp [hvw]),Yd (by omega),Yd];rintro(h|h)
   ·exact h hz
   ·omega
  have hok:=tgM_ok hv hcc h3 (by omega) hz' (fun i j=>(hl i j).1) (x:=x) (by omega);have e7:=zr9 _ hok.f;have e8:=znU _ x hok g1 hwx;have law:=acc_law (zyg hv) hcc hz' (x:=x) (fun k hk=>(hx1 k hk).1);rw [hr]at e3;rw [g1]at e7;have hk3:(tgM m (zH m ws)).k=3:=rfl;have e9:=fun js h=>cProb_eq m ws js h;have hpo:∀ js:List Nat,js.length=ws.length→(∀ i,i<js.length→js.getD i 0<m.tags.length)→zCl (m,ws,js):=fun js h1 h2=>⟨hf,hv,by dsimp only;omega,h1,h2,hl⟩;have lA:=lowX_all (n:=m.tags.length) (x:=x);have lJ:=lowX_js (n:=m.tags.length) (x:=x);have jA:=fun k h=>zpz (x:=x) (k:=k) h;have lT:=zys m.tags.length x;have lL:=fun i=>lowX_len m.tags.length (x.take i);generalize accR (tgM m (zH m ws)) x=ac at e8 law;generalize tgM m (zH m ws)=A at e3 e7 e8 hk3;clear hfit hfb hvw hr hcc h12 hz hz' g1 g3 hok;obtain⟨T,W,N,E⟩:=m;obtain⟨k,s,l,q⟩:=A;unfold mdlV at e1 e3 e4 e6 e9 ⊢;unfold zah at e3 e7 e8;dsimp only at e1 e3 e4 e6 e7 e8 e9 hk3 h3 hpo lA lJ lT lL ⊢;subst hk3;simp (disch:=first|exact Zq|fail) only [go_sem,e0,e1,e2,e3,e4,e5,e7];obtain⟨LX,hLX⟩:∃ f:List Int→List Int,f=lowX T.length:=⟨_,rfl⟩;rw [←hLX]at lA lJ lT lL;have l0:LX []=[]:=by rw [hLX];rfl
  refine AXs.loop mixed (hΓ) (zg) (fun i:Nat=>[(1,.fs (strs ws) ws.length),(2,.fs (ints .i64 x) x.length),(3,.fp [.fs (strs T) T.length,.fs (strs W) W.length,.fs (zI N) N.length,.fs (zI E) E.length]),(7,.ptr 0 0),(9,.str [48]),(10,slI 1 (LX (x.take i))),(11,.int .i64 i)]) (fun i=>⟨blkI 1 (LX (x.take i)) [(0,.cells [.int .i64 3,.int .i64 s,.str l,.fs (stas q) q.length])],2⟩) (fun i=>i≤x.length) (fun i=>x.length - i) 0 (by kernel_rfl) (Yk _) ?_ ?_
  ·rw [Ybk,l0,zkq,zfP];refine Sub.of0 [(0,0)] rfl rfl ?_ ?_
   ·simp only [go_sem]
   ·simp only [go_sem]
  intro i k1;have lLi:=lL i;have lTi:=lT i;rw [YG,YaK k1]at lLi;simp (disch:=first|exact Zq|fail) only [go_sem];refine AXc.introP (fun k2=>?_) (fun k2=>?_)
  ·have hil:i<x.length:=by omega
   replace lTi:=lTi hil;have hxi:=hx1 i hil;generalize LX (x.take i)=L at lTi lLi ⊢;generalize hxx:x.getD i 0=xi at lTi hxi;have tk:List.take L.length L=L:=YQ;have tk':List.take L.length (ints .i64 L)=ints .i64 L:=Yj (by rw [zae];exact Ye _);simp (disch:=first|exact Zq|fail) only [go_sem,hxx];try (repeat refine sdC ?_)
   refine AXc.introP (fun k3=>?_) (fun k3=>?_)
   ·rw [Yf k3]at lTi;have nn:L++[xi - 1]≠[]:=by simp
    have nl:(L++[xi - 1]).length=L.length+1:=by simp
    by_cases ne:L=[]
    ·subst ne;simp (disch:=first|exact Zq|fail) only [go_sem,zkq,zfP,hxx];try (repeat refine sdC ?_)
     refine zi (i+1) (by omega) (by omega) ?_;rw [lTi,zmm 1 nn,zfa 1 nn];refine Sub.of0 [(0,0),(1,3)] rfl rfl ?_ ?_
     ·simp only [go_sem];simp
     ·simp only [go_sem];rfl
    ·simp (disch:=first|exact Zq|fail) only [go_sem,zmm 1 ne,zfa 1 ne,hxx,tk'];try (repeat refine sdC ?_)
     refine zi (i+1) (by omega) (by omega) ?_;rw [lTi,zmm 1 nn,zfa 1 nn,nl];refine Sub.of0 [(0,0),(1,3)] rfl rfl ?_ ?_
     ·simp only [go_sem];simp
     ·simp only [go_sem];simp [ints]
   ·rw [Yd k3]at lTi;simp (disch:=first|exact Zq|fail) only [go_sem];refine zi (i+1) (by omega) (by omega) ?_;rw [lTi];by_cases ne:L=[]
    ·rw [ne,zkq,zfP];refine Sub.of0 [(0,0)] rfl rfl ?_ ?_
     ·simp only [go_sem];simp
     ·simp only [go_sem]
    ·rw [zmm 1 ne,zfa 1 ne];refine Sub.of0 [(0,0),(1,1)] rfl rfl ?_ ?_
     ·simp only [go_sem];simp
     ·simp only [go_sem]
  obtain rfl:i=x.length:=by omega
  rw [YQ]at lLi ⊢;clear lTi lT lL;generalize LX x=L at lLi lA lJ ⊢;simp only [go_sem];refine AXa.fz2 (if L=[]then []else [1]) [(0,[.int .i64 3,.int .i64 s,.str l,.fs (stas q) q.length])] (env':=[(1,.fs (strs ws) ws.length),(2,.fs (ints .i64 x) x.length),(3,.fp [.fs (strs T) T.length,.fs (strs W) W.length,.fs (zI N) N.length,.fs (zI E) E.length]),(7,.ptr 0 0),(9,.str [48]),(10,.fs (ints .i64 L) L.length)]) (n':=2) rfl rfl ?_ ?_ ?_ ?_
  ·by_cases ne:L=[]
   ·rw [Yf ne];rfl
   ·rw [Yd ne,zfa 1 ne];rfl
  ·by_cases ne:L=[]
   ·rw [Yf ne,ne,zkq,zfP];simp only [go_sem];exact⟨.inl ⟨by simp,rfl⟩,.inl rfl⟩
   ·rw [Yd ne,zmm 1 ne,zfa 1 ne];simp only [go_sem];exact⟨.inl ⟨by simp,rfl⟩,.inr (FrzF.slp (by simp) rfl rfl (by simp [ints]) (by rw [Y2,Yap];exact(Yj (by simp [ints])).symm) (zfs _ _))⟩
  ·by_cases ne:L=[]
   ·rw [Yf ne,ne,zfP];exact⟨⟨by decide,by simp,zlg (mach4 _ _ _ _)⟩,trivial⟩
   ·rw [Yd ne,zfa 1 ne];exact⟨⟨by decide,by simp,zlg (mach4 _ _ _ _)⟩,trivial⟩
  refine AXa.go mixed (hΓ) (zg) (by kernel_rfl) ?_;simp (disch:=first|exact Zq|fail) only [go_sem,zvi,YM,Ya5];by_cases hgd:L.length=x.length∧x.length=ws.length
  ·have eg:(decide ((L.length:Int)=(x.length:Int))&&decide ((x.length:Int)=(ws.length:Int)))=true:=by
    rw [YB (by omega:(L.length:Int)=(x.length:Int)),YB (by omega:(x.length:Int)=(ws.length:Int))];rfl
   have hall:=lA.1 hgd.1
   have hJ:=lJ hall fun k hk=>(hx1 k hk).1
   have hjl:(jsOf x).length=x.length:=by simp [jsOf]
   have e10:=e9 (jsOf x) (hpo _ (by omega) fun i hi=>by have h1:=jA i (by omega);have h2:=hall i (by omega);have h3:=hx1 i (by omega);rw [h1];omega)
   have law1:=fun h=>(law h).1 ⟨by rw [hcl];exact hgd.2,hall⟩
   rw [eg,hJ,show L.length=(jsOf x).length by omega]
   generalize prob ⟨T,W,N,E⟩ (zH ⟨T,W,N,E⟩ ws) (jsOf x)=z at e10 law1
   obtain⟨z1,z2⟩:=z
   obtain⟨a1,a2⟩:=ac
   dsimp only at e10 e8 law1
   simp (disch:=first|exact Zq|fail) only [go_sem,e10]
   refine AXc.introN (fun h5=>?_) (fun h5=>?_)
   ·simp (disch:=first|exact Zq|fail) only [go_sem]
   ·simp (disch:=first|exact Zq|fail) only [go_sem,e8];by_cases h6:a2=0
    ·rw [law1 h6];simp
    ·rw [Yy h6];rfl
  ·have eg:(decide ((L.length:Int)=(x.length:Int))&&decide ((x.length:Int)=(ws.length:Int)))=false:=by
    rw [YbJ,YS,YS]
    omega
   have law2:=fun h=>(law h).2 fun⟨h1,h2⟩=>hgd ⟨lA.2 h2,by rw [h1,hcl]⟩
   obtain⟨a1,a2⟩:=ac
   dsimp only at e8 law2
   rw [eg]
   simp (disch:=first|exact Zq|fail) only [go_sem,e8]
   by_cases h6:a2=0
   ·rw [law2 h6];simp
   ·rw [Yy h6];rfl
end Go.Proofs

namespace Go.Proofs
open Tryz Go.Ab Go.Cnt Go.Pl
theorem dIntX:Dec prog 3 (intR .i64) (fun n=>(Lit.int .i64 n).wf=true):=Dec.int Tryz.underlying3 (by kernel_rfl)
def okI(l:List Int):Prop:=l.length≤reachBytes∧∀ n∈l,(Lit.int .i64 n).wf=true
theorem dInts:Dec prog 38 (slR (intR .i64)) okI:=dIntX.slice Tryz.underlying38 (by kernel_rfl) (YaD (by kernel_rfl))
theorem zjL(k:IntKind):∀ l:List Int,(intR k).cells l=ints k l
 |[]=>rfl
 |a::l=>by rw [Row.cells_cons,zjL k l];rfl
theorem machines_in(p:MdlT)(w:List Str)(x:List Int)(h:okM p)(hw:okS w)(hx:okI x):
 PCall prog 6 [.agg (mdlR.enc p),.fs (strR.cells w) w.length,.fs ((intR .i64).cells x) x.length] (.ret (.bool true)):=by
 rw [mdl_enc,zex,zjL]
 exact zmV _ w x (inM_of h hw) (zcv hx.1)
end Go.Proofs

namespace Go.Proofs.YthbimeikbkjnkaaGreatDoor
open Go.ChangeShapes Go.WideShapes Go.ChangeAt Go.WideMaps Go.WideElems Go.RowKit
theorem ownK:ownKnob Tryz.prog.godebug=none:=by kernel_rfl
theorem zlf:laidOutB Tryz.prog=true:=by kernel_rfl
abbrev zpw:List (String×DataW Unit):=[("math/bits.deBruijn32tab",Rows.laid_math_bits_deBruijn32tab),("math/bits.deBruijn64tab",Rows.laid_math_bits_deBruijn64tab),("internal/strconv.uint64pow10",Rows.laid_internal_strconv_uint64pow10)]
theorem door_met(os:Os):laidMetH Tryz.prog zpw ((World.doorLaid Tryz.prog 400 os).forCall (fun _ _=>0) ⟨#[],#[.agg #[.slice none 0 0,.slice none 0 0,.slice none 0 0,.slice none 0 0],.slice none 0 0,.slice none 0 0],[]⟩).memory:=
 laidMetH_of_parts3 (fuel:=8) (laidMet_of_run' 8 (by kernel_rfl) (by kernel_rfl)) (by kernel_rfl) (by kernel_rfl)
def tens:List Int:=(List.range 20).map fun i=>((10 ^ i:Nat):Int)
theorem zsP:(Rows.laid_internal_strconv_uint64pow10:DataW Unit)=Lib.tabData .u64 tens:=by kernel_rfl
theorem gTab:Tryz.prog.globalNamed "internal/strconv.uint64pow10" =some 1:=by kernel_rfl
theorem gTabT:(Tryz.prog.globals[1]?).map (·.type)=some 262:=by kernel_rfl
theorem underA:Tryz.prog.underlying 262=some (.array 20 185):=by kernel_rfl
theorem underU:Tryz.prog.underlying 185=some (.int .u64):=by kernel_rfl
theorem cellsU:Tryz.prog.cellsOf 185=1:=by kernel_rfl
theorem cellsA:Tryz.prog.cellsOf 262=20:=by kernel_rfl
theorem tab_of {W:World}(h:laidMetH Tryz.prog zpw W):∃ t fr,W.heap[1]? =some (.cells (tens.map fun z=>Value.int .u64 z).toArray t fr):=by
 rw [MakeChecks.laidMetH_plain _ _ _ (by kernel_rfl)]at h;have h2:=h.tail.tail;rw [zsP]at h2;have h3:W.var? Tryz.prog "internal/strconv.uint64pow10" =some (tens.map fun z=>Value.int .u64 z).toArray:=Lib.tabIs_of_head gTab gTabT underA underU cellsU cellsA h2;unfold World.var? at h3;rw [gTab]at h3;simp only [Option.bind_some]at h3;cases hb:W.heap[1]? with
 |none=>rw [hb]at h3;cases h3
 |some o=>
  rw [hb]at h3;cases o<;>first|(cases h3;exact⟨_,_,rfl⟩)|cases h3
theorem gok_of {W:World}(h:laidMetH Tryz.prog zpw W):Go.Ab.GOK (Go.Ab.gW W):=by
 obtain⟨t,fr,hb⟩:=tab_of h;have hphi:=Go.Ab.gW_of hb;intro k cs e;have e':(if k=1 then some Go.Ab.pow10V else none)=some cs:=e;split at e';rotate_left;·cases e'
 rename_i hk;cases e';subst hk;have hsz:(tens.map fun z=>Value.int .u64 z).toArray.size=Go.Ab.pow10V.length:=by kernel_rfl
 refine⟨Go.Ab.VRel.mk_fp hphi ?_,_,hphi,hsz⟩;intro i x hx;have hi:i<20:=(Yx.1 hx).1;refine⟨.int .u64 ((10 ^ i:Nat):Int),?_,?_⟩
 ·show (tens.map fun z=>Value.int .u64 z).toArray[0+i]? =_;rw [Yal];simp [tens,hi]
 ·have:Go.Ab.pow10V[i]? =some (.int .u64 ((10 ^ i:Nat):Int)):=by simp [Go.Ab.pow10V,hi]
  rw [this]at hx;cases hx;exact .int _ _
theorem call_of {W:World}(h:laidMetH Tryz.prog zpw W){args:Array Value}{vs:List Go.Ab.V}(hc:Go.Ab.PCall Tryz.prog 6 vs (.ret (.bool true)))(hs:args.size=vs.length)(hp:Go.Ab.PW (Go.Ab.gW W) vs (fun i=>args[i]?)):
 Calls Tryz.prog 6 args W fun e W'=>e=.returned (.bool true)∧Below W.heap.size W W':=by
 have hc':=hc (Go.Ab.gW W) W args (gok_of h) Go.Ab.gW_frz hs hp
 refine(zeu (Go.Ab.canB_ok (by kernel_rfl)) hc').mono fun e W' q=>?_
 obtain⟨phi',vc,_,hbel,rfl,hv⟩:=q
 rw [hv.inv_bool]
 exact⟨rfl,hbel.os,hbel.tape.eq,hbel.output,hbel.size,hbel.block⟩
theorem zxM:Tryz.f6.params.toList=[25,22,38]:=by kernel_rfl
theorem stand22:Tryz.pinned.checked.prog.wantsStandIn (22:Nat)=false:=by kernel_rfl
theorem stand25:Tryz.pinned.checked.prog.wantsStandIn (25:Nat)=false:=by kernel_rfl
theorem stand38:Tryz.pinned.checked.prog.wantsStandIn (38:Nat)=false:=by kernel_rfl
theorem lifted(os:Os)(started:os.Started)(H:Type)(enc:TypeId×Value→H):
 ReturnsInHanded {} Tryz.checked os 6 .any (fun w args=>(Rows.taggerMachinesSpec.pre enc Tryz.prog Tryz.f6 [] false w args∧laidMetH Tryz.prog zpw w)∧sizedMet enc Tryz.prog Tryz.f6 (OpenSpec.ofChange Rows.taggerMachinesSpec) false w args)
  (Rows.taggerMachinesSpec.post enc Tryz.prog Tryz.f6 false true false false):=by
 refine returnsInHanded_of_change_and (C:=Tryz.checked) (X:=fun w _=>laidMetH Tryz.prog zpw w) (fun _ _ _ hh h=>h.of_heap hh) ownK started (by kernel_rfl) Tryz.func6
  (ChangeSpec.witness_shaped (enc:=enc) (C:=Tryz.checked) (os:=os) (X:=fun w _=>laidMetH Tryz.prog zpw w) false (World.doorLaid Tryz.prog 400 os) #[.agg #[.slice none 0 0,.slice none 0 0,.slice none 0 0,.slice none 0 0],.slice none 0 0,.slice none 0 0] 8 rfl (World.shaped_of_RefB (by kernel_rfl) (by kernel_rfl)) (by kernel_rfl) (by kernel_rfl) (by kernel_rfl) (door_met os)) ?_
 intro W base args ds gs before hval0 hW _ hwt hL _
 have hW':=hW
 obtain⟨p,q,hA0,hV,rfl,hfz,hnd⟩:=hW
 have hA:DataW.TrodAll enc Tryz.prog W 0 (fun _=>true) true Tryz.f6.params.toList args.toList ds p:=hA0
 rw [zxM]at hA
 obtain⟨v0,v1,v2,d0,d1,d2,p0,p1,p2,rfl,rfl,rfl,h0,h1,h2⟩:=trodAll_three hA
 obtain⟨rfl,rfl⟩:=trodVars_none hV
 have hlt:=DataW.TrodAll.lt hA
 have hwt':∀ n∈DataW.weightsEach Tryz.prog [25,22,38] [d0,d1,d2],n≤reachBytes:=fun n hn=>by have:=Yg.1 hwt n (by rw [zxM,show Rows.taggerMachinesSpec.plain.varTypes Tryz.checked.prog=[]from rfl,Ybt,Ybt];exact hn);simpa using this
 simp only [Go.Ab.weightsEach_cons]at hwt'
 have w0:∀ n∈d0.weights Tryz.prog 25,n≤reachBytes:=fun n hn=>hwt' n (Yp _ hn)
 have w1:∀ n∈d1.weights Tryz.prog 22,n≤reachBytes:=fun n hn=>hwt' n (Yt _ (Yp _ hn))
 have w2:∀ n∈d2.weights Tryz.prog 38,n≤reachBytes:=fun n hn=>hwt' n (Yt _ (Yt _ (Yp _ hn)))
 have hv0:Value.okWide Tryz.prog W .any base 25 v0:=hval0 0 25 v0 rfl rfl
 have c0:∃ cs,v0=.agg cs:=by obtain⟨cs,e,_⟩:=okWide_struct Tryz.underlying25 hv0;exact⟨cs,e⟩
 obtain⟨a0,o0,r0⟩:=Go.Proofs.dMdl.argS h0 c0 w0
 have hv1:Value.okWide Tryz.prog W .any base 22 v1:=hval0 1 22 v1 rfl rfl
 have c1:v1.cells=#[v1]:=by obtain⟨_,_,_,e⟩:=okWide_slice Tryz.underlying22 hv1;rw [e];rfl
 obtain⟨a1,o1,r1⟩:=Go.Proofs.dStrs.arg1 h1 c1 w1
 replace r1:=r1 _ rfl
 have hv2:Value.okWide Tryz.prog W .any base 38 v2:=hval0 2 38 v2 rfl rfl
 have c2:v2.cells=#[v2]:=by obtain⟨_,_,_,e⟩:=okWide_slice Tryz.underlying38 hv2;rw [e];rfl
 obtain⟨a2,o2,r2⟩:=Go.Proofs.dInts.arg1 h2 c2 w2
 replace r2:=r2 _ rfl
 refine(call_of hL (Go.Proofs.machines_in a0 a1 a2 o0 o1 o2) rfl (fun i x hx=>by
  match i with
  |0=>cases hx;exact⟨v0,rfl,r0⟩
  |1=>cases hx;exact⟨v1,rfl,r1⟩
  |2=>cases hx;exact⟨v2,rfl,r2⟩
  |i+3=>simp at hx)).mono fun e W' ⟨he,bel⟩=>?_
 subst he
 have k0:=Below.trod zlf (by kernel_rfl) (YaD (by kernel_rfl)) h0 bel (fun x hx=>hlt x (Yp _ (Yp _ hx)))
 have k1:=Below.trod zlf (by kernel_rfl) (YaD (by kernel_rfl)) h1 bel (fun x hx=>hlt x (Yp _ (Yt _ hx)))
 have k2:=Below.trod zlf (by kernel_rfl) (YaD (by kernel_rfl)) h2 bel (fun x hx=>hlt x (Yt _ hx))
 exact⟨_,rfl,_,_,_,[],_,[],hW',trodAll_mk1 (shut_bool Tryz.underlying4 _),trodAll_mk3 k0 k1 k2,rfl,bel.frame _,fun h=>by cases h⟩
theorem said:Rows.TaggerMachinesSaid:=
 OpenClaim.holds_of_wide 6 Tryz.f6 rfl rfl rfl rfl rfl rfl rfl ⟨rfl,rfl,rfl,rfl,rfl⟩ rfl rfl rfl rfl rfl (by kernel_rfl) Tryz.func6 (by kernel_rfl)
  (YaD (by kernel_rfl)) (by unfold Func.isWrapper;first|(rw [Yf (by decide+kernel)];kernel_rfl)|(rw [Yd (by decide+kernel)];exact⟨rfl,rfl⟩))
  (fun os started H enc _=>lifted os started H enc)
theorem machines_holds:Rows.TaggerMachinesCardSaid:=
 Claim7.holds_tied_plain_at .later [] [.data,.data,.data] true (true, "d3bf08ebd9ea1bcaa5cb35fb73af600287fdc0001c94dc43560aeefca0fab896") true
  said (fun _ h=>by cases h) (by kernel_rfl) (fun _ h=>by cases h) taggerMachines_row_tie rfl ⟨rfl,rfl⟩ (by kernel_rfl) rfl
  (fun f fn hf hfn=>by
   obtain rfl:f=6:=Yl ((show Tryz.prog.funcNamed "abugida/abugidalaw36.TaggerMachines" =some 6 by kernel_rfl).symm.trans hf) |>.symm
   obtain rfl:fn=Tryz.f6:=(Yl (Tryz.func6.symm.trans hfn)).symm;exact⟨by kernel_rfl,fun j t ht=>by
    rw [Tryz.params6]at ht;match j with
    |0=>exact(Yl ht:(25:Nat)=t)▸stand25
    |1=>exact(Yl ht:(22:Nat)=t)▸stand22
    |2=>exact(Yl ht:(38:Nat)=t)▸stand38
    |j+3=>simp at ht⟩)
  (by kernel_rfl)
#print axioms machines_holds
end Go.Proofs.YthbimeikbkjnkaaGreatDoor
