/- The statement's own function: Score. -/
import Derived.Test.YthbimeikbkjnkaaGreatDoorTT1
set_option linter.all false
set_option maxHeartbeats 16000000
set_option maxRecDepth 100000
namespace Go.Proofs
open Tryz Go.Ab Go.Cnt Go.Pl Go.Tg
noncomputable def cShort:List V→Option PR:=zu (fun M:List (List Str)=>[.fs (zI M) M.length]) (fun M=>M.length≤1000000∧(∀ r∈M,r.length≤1000000)∧∀ r∈M,∀ s∈r,s.length≤1000000) fun M=>.ret (.bool (zeN M))
theorem znJ(M:List (List Str))(h1:M.length≤1000000)(h2:∀ r∈M,r.length≤1000000)(h3:∀ r∈M,∀ s∈r,s.length≤1000000):cShort [.fs (zI M) M.length]=some (.ret (.bool (zeN M))):=
 zo (pat:=fun M:List (List Str)=>[.fs (zI M) M.length]) (fun x y h=>by simp at h;exact zci h.1) M ⟨h1,h2,h3⟩
theorem zAn:∀ args r,cShort args=some r→PCall prog 49 args r:=zn fun M h=>short_ok M h.1 h.2.1 h.2.2
theorem zs5(m:Mdl)(ws:List Str)(hf:Fit m)(hw:ws.length≤1000000):PCall prog 25 [mdlV m,.fs (strs ws) ws.length] (.ret (.bool (zfm m ws))):=by
 have e1:=znJ m.next (Yn hf.nl (by omega)) hf.nr hf.ns;have e2:=znJ m.emit (Yn hf.el (by omega)) hf.er hf.es;have hb:(decide (3<(m.tags.length:Int))||decide (4<(ws.length:Int)))= !(decide (m.tags.length≤3)&&decide (ws.length≤4)):=by rw [YaJ];simp only [Yae,Yaa,Yh,YbJ,YS];omega
 obtain⟨R,hR⟩:∃ R,R=zfm m ws:=⟨_,rfl⟩;rw [←hR];unfold zfm at hR;refine PCall.walk (rs:=[.tmp 4]) [0,1,2,4,13] [25] mixed (zf zAn zh) (zg) call25 func25 rfl ntmps25 rfl (by kernel_rfl) (by simp) (by simp [push_cast,zcY]) ?_;obtain⟨T,W,N,E⟩:=m;dsimp only at e1 e2 hb hR;simp (disch:=first|exact Zq|fail) only [go_sem,mdlV];rw [hb];cases hc:(decide (T.length≤3)&&decide (ws.length≤4))with
 |false=>
  rw [hc,Y7]at hR;rw [hR];simp (disch:=first|exact Zq|fail) only [go_sem]
 |true=>
  rw [hc,Yar]at hR;rw [hR];simp (disch:=first|exact Zq|fail) only [go_sem,e1,e2]
noncomputable def zrV:List V→Option PR:=zu (fun p:Mdl×List Str=>[mdlV p.1,.fs (strs p.2) p.2.length]) (fun p=>Fit p.1∧p.2.length≤1000000) fun p=>.ret (.bool (zfm p.1 p.2))
theorem mw_inj(x y:Mdl×List Str)(h:[mdlV x.1,V.fs (strs x.2) x.2.length]=[mdlV y.1,V.fs (strs y.2) y.2.length]):x=y:=by simp only [Yu,V.fs.injEq,Yam]at h;exact YT (zeG h.1) (zam h.2.1)
theorem zqd(m:Mdl)(ws:List Str)(hf:Fit m)(hw:ws.length≤1000000):zrV [mdlV m,.fs (strs ws) ws.length]=some (.ret (.bool (zfm m ws))):=
 zo (pat:=fun p:Mdl×List Str=>[mdlV p.1,.fs (strs p.2) p.2.length]) mw_inj (m,ws) ⟨hf,hw⟩
theorem zqc:∀ args r,zrV args=some r→PCall prog 25 args r:=zn fun p h=>zs5 p.1 p.2 h.1 h.2
structure InM(m:Mdl)(u:List Str):Prop where
 tl:m.tags.length≤1000000000000000
 wl:m.words.length≤1000000000000000
 nl:m.next.length≤1000000000000000
 el:m.emit.length≤1000000000000000
 ts:∀ s∈m.tags,s.length≤1000000000000000
 ws:∀ s∈m.words,s.length≤1000000000000000
 l:u.length≤1000000000000000
 s:∀ s∈u,s.length≤1000000000000000
theorem zrC {M:List (List Str)}(h:∀ r∈M,∀ s∈r,s.length≤12)(i j:Nat):((nthR M i).getD j []).length≤1000000000:=by
 by_cases hi:i<M.length
 ·by_cases hj:j<(nthR M i).length
  ·exact Yn (h _ (rowR.nth_mem hi) _ (zbr hj)) (by omega)
  ·rw [Ya,Ys (by omega)];simp
 ·have:nthR M i=[]:=by
   show M.getD i []=[]
   rw [Ya,Ys (by omega)];rfl
  rw [this];simp
theorem fitB_fit {m:Mdl}{ws:List Str}(hi:InM m ws)(h:fitB m ws=true):Fit m∧ws.length≤4∧∀ i j,(nx m i j).length≤1000000000∧(em m i j).length≤1000000000:=by
 unfold fitB at h;simp only [Yc,Yh,YbO,YcT,Yam]at h;obtain⟨hsz,hn,he⟩:=h;unfold zjl at hsz;obtain⟨s1,s2,s3,s4,s5⟩:=hsz;have key:∀ {M:List (List Str)},mat8 M=true→(∀ r∈M,r.length≤8)∧∀ r∈M,∀ s∈r,s.length≤12:=fun {M} h=>by unfold mat8 row8 at h;simp only [Yg,Yc,Yh]at h;refine⟨fun r hr=>(h r hr).1,fun r hr s hs=>?_⟩;have:=(h r hr).2 s hs;unfold zwJ at this;exact YaD this
 obtain⟨n1,n2⟩:=key hn;obtain⟨e1,e2⟩:=key he;refine⟨⟨by omega,by omega,by omega,by omega,hi.ts,hi.ws,fun r hr=>Yn (n1 r hr) (by omega),fun r hr=>Yn (e1 r hr) (by omega),fun r hr s hs=>Yn (n2 r hr s hs) (by omega),fun r hr s hs=>Yn (e2 r hr s hs) (by omega)⟩,s5,fun i j=>⟨zrC n2 i j,zrC e2 i j⟩⟩
noncomputable def zAm:List V→Option PR:=zu (fun p:Mdl×List Str=>[mdlV p.1,.fs (strs p.2) p.2.length]) (fun p=>InM p.1 p.2) fun p=>.ret (.bool (!fitB p.1 p.2))
theorem zvs(m:Mdl)(ws:List Str)(h:InM m ws):zAm [mdlV m,.fs (strs ws) ws.length]=some (.ret (.bool (!fitB m ws))):=
 zo (pat:=fun p:Mdl×List Str=>[mdlV p.1,.fs (strs p.2) p.2.length]) mw_inj (m,ws) h
theorem zvr:∀ args r,zAm args=some r→PCall prog 16 args r:=zn fun p h=>zww p.1 p.2 h.tl h.wl h.nl h.el h.l
noncomputable def cTAwk:List V→Option PR:=zu (fun _:Unit=>[]) (fun _=>True) fun _=>.ret (.bool true)
@[go_sem] theorem cTAwk_eq:cTAwk []=some (.ret (.bool true)):=zo (pat:=fun _:Unit=>([]:List V)) (fun _ _ _=>rfl) () trivial
theorem cTAwk_ok:∀ args r,cTAwk args=some r→PCall prog 15 args r:=zn fun _ _=>zvU
end Go.Proofs

namespace Go.Proofs
open Tryz Go.Ab Go.Cnt Go.Pl
theorem dStr:Dec prog 9 strR (fun s=>s.length≤reachBytes):=Dec.str Tryz.underlying9 (by kernel_rfl)
def okS(l:List Str):Prop:=l.length≤reachBytes∧∀ s∈l,s.length≤reachBytes
theorem dStrs:Dec prog 22 (slR strR) okS:=dStr.slice Tryz.underlying22 (by kernel_rfl) (YaD (by kernel_rfl))
theorem dRows:Dec prog 23 (slR (slR strR)) (fun l=>l.length≤reachBytes):=(dStrs.slice Tryz.underlying23 (by kernel_rfl) (YaD (by kernel_rfl))).cast (fun a=>a) rfl (fun _=>rfl) fun _ h=>h.1
abbrev MdlT:=((List Str×List Str)×List (List Str))×List (List Str)
def okM(p:MdlT):Prop:=((okS p.1.1.1∧okS p.1.1.2)∧p.1.2.length≤reachBytes)∧p.2.length≤reachBytes
abbrev mdlR:=zkL (zkL (zkL (slR strR) (slR strR)) (slR (slR strR))) (slR (slR strR))
theorem dMdl:Dec prog 25 mdlR okM:=Dec.four Tryz.underlying25 dStrs dStrs dRows dRows rfl rfl rfl rfl (by kernel_rfl)
theorem zcv {n:Nat}(h:n≤reachBytes):n≤1000000000000000:=Yn h (by unfold reachBytes;omega)
def mdlOf(p:MdlT):Mdl:=⟨p.1.1.1,p.1.1.2,p.1.2,p.2⟩
theorem mdl_enc(p:MdlT):V.agg (mdlR.enc p)=mdlV (mdlOf p):=by obtain⟨⟨⟨T,W⟩,N⟩,E⟩:=p;show V.agg ((([V.fs (strR.cells T) T.length]++[V.fs (strR.cells W) W.length])++[V.fs ((slR strR).cells N) N.length])++[V.fs ((slR strR).cells E) E.length])=_;rw [zex,zex,zw7,zw7];rfl
theorem inM_of {p:MdlT}{w:List Str}(h:okM p)(hw:okS w):InM (mdlOf p) w:=
 ⟨zcv h.1.1.1.1,zcv h.1.1.2.1,zcv h.1.2,zcv h.2,fun s hs=>zcv (h.1.1.1.2 s hs),fun s hs=>zcv (h.1.1.2.2 s hs),zcv hw.1,fun s hs=>zcv (hw.2 s hs)⟩
end Go.Proofs

namespace Go.Proofs
open Go.Ab Go.Cnt Go.Pl Go.Tg
structure Arc where
 i:Int
 o:Int
 w:Str
 t:Int
structure Sta where
 f:Str
 a:List Arc
structure Mach where
 k:Int
 s:Int
 l:Str
 q:List Sta
def arcR:Row Arc where
 enc a:=[.int .i64 a.i,.int .i64 a.o,.str a.w,.int .i64 a.t]
 n:=4
 dflt:=⟨0,0,[],0⟩
 len _:=rfl
 pos:=by decide
 pure a x h:=by
  simp only [YA,Y1,Ya0]at h;rcases h with rfl|rfl|rfl|rfl
  ·exact .int _ _
  ·exact .int _ _
  ·exact .str _
  ·exact .int _ _
 one _:=rfl
 inj a b h:=by obtain⟨a1,a2,a3,a4⟩:=a;obtain⟨b1,b2,b3,b4⟩:=b;simp only [Yu,V.str.injEq,V.int.injEq,Yam,Yan]at h;obtain⟨rfl,rfl,rfl,rfl⟩:=h;rfl
def arcs(l:List Arc):List V:=arcR.cells l
def nthA(l:List Arc)(i:Nat):Arc:=arcR.nth l i
def staR:Row Sta where
 enc s:=[.str s.f,.fs (arcs s.a) s.a.length]
 n:=2
 dflt:=⟨[],[]⟩
 len _:=rfl
 pos:=by decide
 pure a x h:=by
  simp only [YA,Y1,Ya0]at h;rcases h with rfl|rfl
  ·exact .str _
  ·exact .fs (arcR.pure_cells _)
 one _:=rfl
 inj a b h:=by obtain⟨a1,a2⟩:=a;obtain⟨b1,b2⟩:=b;simp only [Yu,V.str.injEq,V.fs.injEq,Yam,Yan]at h;obtain⟨rfl,h,_⟩:=h;rw [arcR.cells_inj h]
def stas(l:List Sta):List V:=staR.cells l
def nthQ(l:List Sta)(i:Nat):Sta:=staR.nth l i
theorem zlT(l:List Arc)(i:Nat)(h:i<l.length):(arcs l).drop (i*4)=.int .i64 (nthA l i).i::.int .i64 (nthA l i).o::.str (nthA l i).w::.int .i64 (nthA l i).t::arcs (l.drop (i+1)):=arcR.at_ l i h
theorem zeT(l:List Sta)(i:Nat)(h:i<l.length):(stas l).drop (i*2)=.str (nthQ l i).f::.fs (arcs (nthQ l i).a) (nthQ l i).a.length::stas (l.drop (i+1)):=staR.at_ l i h
theorem zhb(l:List Arc):(arcs l).length=l.length*4:=arcR.len_cells l
theorem zq6(l:List Sta):(stas l).length=l.length*2:=staR.len_cells l
theorem zes(l:List Arc):∀ x∈arcs l,Pure x:=arcR.pure_cells l
theorem zwT(l:List Sta):∀ x∈stas l,Pure x:=staR.pure_cells l
theorem zvY(l:List Arc):(∀ x∈arcs l,Pure x)↔True:=arcR.pure_cellsP l
theorem zs3(l:List Sta):(∀ x∈stas l,Pure x)↔True:=staR.pure_cellsP l
theorem arcs_rn {π:Nat→Nat}{N:Nat→Prop}(l:List Arc):LRel (Rn π N) (arcs l) (arcs l)↔True:=arcR.lrel_cells l
theorem arcs_inj {a b:List Arc}(h:arcs a=arcs b):a=b:=arcR.cells_inj h
theorem stas_inj {a b:List Sta}(h:stas a=stas b):a=b:=staR.cells_inj h
attribute [go_sem] zhb zq6 zvY zs3 arcs_rn
theorem drop_nth {l:List V}{k i:Nat}{r:List V}(h:l.drop k=r):nthV l (k+i)=nthV r i:=by rw [zce,zce, ←h,Yag]
theorem zwU(l:List Sta)(i:Nat)(h:i<l.length):nthV (stas l) (i*2)=.str (nthQ l i).f:=drop_nth (i:=0) (zeT l i h)
theorem zhz(l:List Sta)(i:Nat)(h:i<l.length):nthV (stas l) (i*2+1)=.fs (arcs (nthQ l i).a) (nthQ l i).a.length:=drop_nth (i:=1) (zeT l i h)
def zah(m:Mach):V:=.agg [.int .i64 m.k,.int .i64 m.s,.str m.l,.fs (stas m.q) m.q.length]
theorem mach4(k s:Int)(l:Str)(q:List Sta):∀ x∈[V.int .i64 k,.int .i64 s,.str l,.fs (stas q) q.length],Pure x:=fun x h=>by
 simp only [YA,Y1,Ya0]at h;rcases h with rfl|rfl|rfl|rfl
 ·exact .int _ _
 ·exact .int _ _
 ·exact .str _
 ·exact .fs (zwT _)
theorem mach4P(k s:Int)(l:Str)(q:List Sta):(∀ x∈[V.int .i64 k,.int .i64 s,.str l,.fs (stas q) q.length],Pure x)↔True:=⟨fun _=>trivial,fun _=>mach4 k s l q⟩
attribute [go_sem] mach4P
theorem zbm(m:Mach):Pure (zah m):=.agg (mach4 _ _ _ _)
theorem zbW {a b:Mach}(h:zah a=zah b):a=b:=by obtain⟨a1,a2,a3,a4⟩:=a;obtain⟨b1,b2,b3,b4⟩:=b;simp only [zah,V.agg.injEq,Yu,V.int.injEq,V.str.injEq,V.fs.injEq,Yam,Yan]at h;obtain⟨rfl,rfl,rfl,h,_⟩:=h;rw [stas_inj h]
def symB(i:Int):Bool:=decide (1≤i)&&decide (i≤500)
def zdY(x:List Int):Bool:=decide (x.length≤200)&&x.all symB
def ze5(k:Int):Bool:=decide (1≤k)&&decide (k≤3)
def infS:Str:=[105,110,102]
def minS:Str:=[45,105,110,102]
def zaa(k:Int)(a:Str):Bool:=
 ze5 k&&(if a=infS∨a=minS then decide (a=infS)||decide (k=1)else(ratP a).isSome&&(decide (k=1)||decide (0≤zbd a [48])))
def zaG(k:Int)(a:Str):Bool:=zaa k a&&decide (a≠infS)&&decide (a≠minS)&&(decide (k=1)||decide (a≠[48]))
def zaS(k:Int):Str:=if ze5 k=false then []else if k=1 then infS else [48]
def zbS(a b:Str):Int:=if a=b then 0 else if a=minS∨b=infS then -1 else if a=infS∨b=minS then 1 else zbd a b
def zcb(k:Int)(a b:Str):Int:=if (zaa k a&&zaa k b)=false then 0 else if k=1 then zbS a b else zbS b a
def zb2(k:Int)(a b:Str):Str×Int:=
 if (zaa k a&&zaa k b)=false then([],1)else
 if k≠2 then(if zcb k b a<0 then(b,0)else(a,0))else
 if a=infS∨b=infS then(infS,0)else padd a b
def zaQ(k:Int)(a b:Str):Str×Int:=
 if (zaa k a&&zaa k b)=false then([],1)else
 if a=zaS k∨b=zaS k then(zaS k,0)else
 if a=infS∨b=infS then(infS,0)else
 if a=minS∨b=minS then(minS,0)else
 if k=1 then padd a b else pmul a b
def arcB(k:Int)(n:Nat)(a:Arc):Bool:=decide (0≤a.i)&&decide (a.i≤500)&&decide (0≤a.o)&&decide (a.o≤500)&&decide (0≤a.t)&&decide (a.t<n)&&zaG k a.w
def staB(k:Int)(n:Nat)(s:Sta):Bool:=(decide (s.f=[])||zaG k s.f)&&s.a.all (arcB k n)
def arcN(q:List Sta):Nat:=(q.map fun s=>s.a.length).sum
def ze0(m:Mach):Bool:=ze5 m.k&&decide (1≤m.q.length)&&decide (m.q.length≤3000)&&decide (0≤m.s)&&decide (m.s<m.q.length)&&zaG m.k m.l&&m.q.all (staB m.k m.q.length)&&decide (arcN m.q≤30000)
def accB(m:Mach):Bool:=ze0 m&&m.q.all fun s=>s.a.all fun a=>decide (a.i=a.o)
def arcF(m:Mdl)(c b i:Nat)(f:Int):Nat→List Arc×Int
 |0=>([],f)
 |j+1=>(if (tm (arcF m c b i f j).2 (nx m i j) (em m j c)).1=[48]then(arcF m c b i f j).1 else(arcF m c b i f j).1++[⟨(j+1:Nat),(j+1:Nat),(tm (arcF m c b i f j).2 (nx m i j) (em m j c)).1,(b+j:Nat)⟩],
   (tm (arcF m c b i f j).2 (nx m i j) (em m j c)).2)
def befI(n t:Nat)(i:Nat):Option Nat:=if t=0 then(if i=n then some 0 else none)else if i<n then some (1+(t - 1)*n+i)else none
structure MS where
 q:List Sta
 f:Int
 c:Nat
def rowM(m:Mdl)(c b t:Nat)(s:MS):Nat→MS
 |0=>s
 |i+1=>match befI m.tags.length t i with
  |none=>rowM m c b t s i
  |some k=>⟨(rowM m c b t s i).q.set k ⟨[],(arcF m c b i (rowM m c b t s i).f m.tags.length).1⟩,(arcF m c b i (rowM m c b t s i).f m.tags.length).2,(rowM m c b t s i).c+(arcF m c b i (rowM m c b t s i).f m.tags.length).1.length⟩
def newM(n:Nat)(s:MS):MS:=⟨s.q++List.replicate n ⟨[],[]⟩,s.f,s.c⟩
def wrdM(m:Mdl)(cs:List Nat):Nat→MS
 |0=>⟨[⟨[],[]⟩],0,0⟩
 |t+1=>rowM m (cs.getD t 0) (wrdM m cs t).q.length t (newM m.tags.length (wrdM m cs t)) (m.tags.length+1)
def lastB(n T:Nat):Nat:=if T=0 then 0 else 1+(T - 1)*n
def zaF(n T:Nat):Nat:=if T=0 then 1 else n
def ze4(n T k:Nat):Nat:=if T=0 then n else k
def endT(m:Mdl)(T k:Nat):Str:=if nx m (ze4 m.tags.length T k) m.tags.length=[48]then []else nx m (ze4 m.tags.length T k) m.tags.length
def finQ(m:Mdl)(T:Nat)(q:List Sta)(d:Nat→Bool):List Sta:=q.mapIdx fun s st=>if (decide (lastB m.tags.length T≤s)&&d (s - lastB m.tags.length T))=true then⟨endT m T (s - lastB m.tags.length T),st.a⟩else st
def tgM(m:Mdl)(cs:List Nat):Mach:=⟨3,0,[49],finQ m cs.length (wrdM m cs cs.length).q fun k=>decide (k<zaF m.tags.length cs.length)⟩
theorem zoG(m:Mdl)(cs:List Nat):(tgM m cs).q=finQ m cs.length (wrdM m cs cs.length).q fun k=>decide (k<zaF m.tags.length cs.length):=rfl
def noM:Mach:=⟨0,0,[],[]⟩
noncomputable def zfA(m:Mdl)(ws:List Str):Mach×Int:=
 if (vmB m&&zb1 ws)=false then(noM,1)else
 if 3000<m.tags.length*ws.length+2 then(noM,2)else
 if (wrdM m (zH m ws) ws.length).f≠0∨30000<(wrdM m (zH m ws) ws.length).c then(noM,2)else(tgM m (zH m ws),0)
theorem zdx(m:Mdl)(c b t:Nat)(s:MS):∀ i,(rowM m c b t s i).q.length=s.q.length
 |0=>rfl
 |i+1=>by
  rw [rowM];split
  ·exact zdx m c b t s i
  ·simp only [YL];exact zdx m c b t s i
theorem zbn(m:Mdl)(cs:List Nat):∀ t,(wrdM m cs t).q.length=1+t*m.tags.length
 |0=>by simp [wrdM]
 |t+1=>by rw [wrdM,zdx,newM,Yi,Yw,zbn m cs t,YV,YaI];omega
theorem zdF(m:Mdl)(T:Nat)(q:List Sta)(d:Nat→Bool):(finQ m T q d).length=q.length:=by simp [finQ]
theorem kn_z {f:Int}{r:Str×Int}(h:(kn f r).2=0):f=0∧r.2=0∧(kn f r).1=r.1:=by
 unfold kn at h ⊢;by_cases hr:r.2=0
 ·rw [Yd (by simp [hr])]at h ⊢;exact⟨h,hr,rfl⟩
 ·rw [Yf hr]at h;dsimp only at h;exfalso;by_cases hf:f=0
  ·rw [Yf hf]at h;exact hr h
  ·rw [Yd hf]at h;exact hf h
theorem tm_z {f:Int}{a b:Str}(h:(tm f a b).2=0):f=0∧(pmul a b).2=0∧(tm f a b).1=(pmul a b).1:=kn_z h
theorem arcF_z {m:Mdl}{c b i:Nat}{f:Int}:∀ {j:Nat},(arcF m c b i f j).2=0→f=0
 |0,h=>h
 |j+1,h=>by rw [arcF]at h;exact arcF_z (tm_z h).1
theorem arcF_zj {m:Mdl}{c b i:Nat}{f:Int}{j k:Nat}(h:(arcF m c b i f j).2=0)(hk:k≤j):(arcF m c b i f k).2=0:=by
 induction j with
 |zero=>rw [show k=0 by omega];exact h
 |succ j ih=>
  rcases YaG j k with hl|hl
  ·rw [show k=j+1 by omega];exact h
  ·rw [arcF]at h;exact ih (tm_z h).1 hl
theorem zw8 {m:Mdl}{c b t:Nat}{s:MS}{i k:Nat}(h:(rowM m c b t s i).f=0)(hk:k≤i):(rowM m c b t s k).f=0:=by
 induction i with
 |zero=>rw [show k=0 by omega];exact h
 |succ i ih=>
  rcases YaG i k with hl|hl
  ·rw [show k=i+1 by omega];exact h
  ·rw [rowM]at h;split at h
   ·exact ih h hl
   ·exact ih (arcF_z h) hl
theorem wrdM_z {m:Mdl}{cs:List Nat}{t k:Nat}(h:(wrdM m cs t).f=0)(hk:k≤t):(wrdM m cs k).f=0:=by
 induction t with
 |zero=>rw [show k=0 by omega];exact h
 |succ t ih=>
  rcases YaG t k with hl|hl
  ·rw [show k=t+1 by omega];exact h
  ·rw [wrdM]at h;exact ih (zw8 h (Yk _)) hl
structure Mod(m:Mdl):Prop where
 n:∀ i j,i≤m.tags.length→j≤m.tags.length→p01 (nx m i j)=true
 e:∀ j c,j<m.tags.length→c≤m.words.length→p01 (em m j c)=true
theorem inf_no:ratP infS=none:=by decide
theorem min_no:ratP minS=none:=by decide
theorem Is.val {a:Str}{x y:Nat}(h:Is a x y)(k:Int)(hk:ze5 k=true):zaa k a=true∧a≠infS∧a≠minS:=by
 obtain⟨hy,n,d,hr,he⟩:=h;have h1:a≠infS:=by rintro rfl;rw [inf_no]at hr;cases hr
 have h2:a≠minS:=by rintro rfl;rw [min_no]at hr;cases hr
 refine⟨?_,h1,h2⟩;unfold zaa;rw [Yd (by simp [h1,h2]),hk,hr];have hc:=zrR (a:=a) (b:=[48]) (x:=x) (u:=0) (y:=y) ⟨hy,n,d,hr,he⟩ ⟨hy,0,1,ratP_0,by omega⟩;have:0≤zbd a [48]:=by
  rw [hc];split
  ·omega
  ·rw [Yd (by omega)];omega
 simp [this]
theorem Is.wei {a:Str}{x y:Nat}(h:Is a x y)(hx:0<x)(k:Int)(hk:ze5 k=true):zaG k a=true:=by obtain⟨h1,h2,h3⟩:=h.val k hk;unfold zaG;simp [h1,h2,h3,h.pos hx]
theorem mod_pm {a b:Str}(ha:p01 a=true)(hb:p01 b=true)(h:(pmul a b).2=0):∃ x y,Is (pmul a b).1 x y:=by
 obtain⟨x,y,i1,_,_⟩:=zhO ha;obtain⟨u,v,i2,_,_⟩:=zhO hb;rcases zec i1 i2 with⟨_,h2⟩|⟨h2,_⟩
 ·exact⟨_,_,h2⟩
 ·rw [h]at h2;cases h2
theorem Is.nz {a:Str}{x y:Nat}(h:Is a x y)(hn:a≠[48]):0<x:=by
 rcases YD x with h0|h0
 ·subst h0;exact absurd h.zero hn
 ·exact h0
def goodA(N:Nat)(a:Arc):Prop:=arcB 3 N a=true∧a.i=a.o∧1≤a.i
theorem zoo {m:Mdl}(hm:Mod m){c b i N:Nat}(hc:c≤m.words.length)(hi:i≤m.tags.length)(hn:m.tags.length≤500)(hN:b+m.tags.length≤N):
 ∀ {j:Nat},j≤m.tags.length→(arcF m c b i 0 j).2=0→(∀ a∈(arcF m c b i 0 j).1,goodA N a)∧(arcF m c b i 0 j).1.length≤j
 |0,_,_=>⟨fun a h=>by simp [arcF]at h,by simp [arcF]⟩
 |j+1,hj,h=>by
  rw [arcF]at h ⊢;obtain⟨h0,h1,h2⟩:=tm_z h;obtain⟨ih,il⟩:=zoo hm hc hi hn hN (j:=j) (by omega) h0;rw [h2];dsimp only;split
  ·exact⟨ih,by omega⟩
  ·rename_i hz;refine⟨fun a ha=>?_,by simp;omega⟩;rcases Yaf.1 ha with ha|ha
   ·exact ih a ha
   ·obtain rfl:=Yah.1 ha;obtain⟨x,y,hxy⟩:=mod_pm (hm.n i j hi (by omega)) (hm.e j c (by omega) hc) h1;have hw:=hxy.wei (hxy.nz hz) 3 (by decide);refine⟨?_,rfl,?_⟩
    ·unfold arcB;dsimp only;rw [hw];simp only [Yaw,Yc,Yh];omega
    ·dsimp only;omega
def goodS(n N:Nat)(s:Sta):Prop:=s.f=[]∧(∀ a∈s.a,goodA N a)∧s.a.length≤n
theorem znl(n N:Nat):goodS n N ⟨[],[]⟩:=⟨rfl,fun a h=>by simp at h,Yk _⟩
theorem zpq {α:Type}{l:List α}{k:Nat}{x y:α}(h:y∈l.set k x):y∈l∨y=x:=Ya7 h
theorem zms {m:Mdl}(hm:Mod m){c b t N:Nat}(hc:c≤m.words.length)(hn:m.tags.length≤500)(hN:b+m.tags.length≤N){s:MS}(hs:∀ x∈s.q,goodS m.tags.length N x):
 ∀ {i:Nat},i≤m.tags.length+1→(rowM m c b t s i).f=0→(∀ x∈(rowM m c b t s i).q,goodS m.tags.length N x)∧(rowM m c b t s i).c≤s.c+i*m.tags.length
 |0,_,_=>⟨hs,by simp [rowM]⟩
 |i+1,hi,h=>by
  have hz:=zw8 h (Ybg i);obtain⟨ih,il⟩:=zms hm hc hn hN hs (i:=i) (by omega) hz;rw [rowM]at h ⊢;split
  ·refine⟨ih,?_⟩;rw [YV,YaI];omega
  ·rename_i k hk;rw [hk]at h;dsimp only at h ⊢;rw [hz]at h ⊢;obtain⟨g1,g2⟩:=zoo hm hc (by omega:i≤m.tags.length) hn hN (Ye _) h;refine⟨fun x hx=>?_,by rw [YV,YaI];omega⟩;rcases zpq hx with hx|rfl
   ·exact ih x hx
   ·exact⟨rfl,g1,g2⟩
theorem zl5 {m:Mdl}(hm:Mod m){cs:List Nat}{N:Nat}(hc:∀ t,t<cs.length→cs.getD t 0≤m.words.length)(hn:m.tags.length≤500):∀ {t:Nat},t≤cs.length→1+t*m.tags.length≤N→(wrdM m cs t).f=0→
 (∀ x∈(wrdM m cs t).q,goodS m.tags.length N x)∧(wrdM m cs t).c≤t*((m.tags.length+1)*m.tags.length)
 |0,_,_,_=>⟨fun x h=>by
  have:x=⟨[],[]⟩:=by simpa [wrdM] using h
  subst this;exact znl _ _,by simp [wrdM]⟩
 |t+1,ht,hN,h=>by
  rw [YV,YaI]at hN;have hz:=wrdM_z h (Ybg t);obtain⟨ih,il⟩:=zl5 (N:=N) hm hc hn (t:=t) (by omega) (by omega) hz;rw [wrdM]at h ⊢;have:=zms (b:=(wrdM m cs t).q.length) (t:=t) (N:=N) (s:=newM m.tags.length (wrdM m cs t)) hm (hc t (by omega)) hn (by rw [zbn];omega) (fun x hx=>?_) (Ye _) h
  ·refine⟨this.1,Yn this.2 ?_⟩;show (wrdM m cs t).c+_≤_;rw [YV t,YaI];omega
  ·rcases Yaf.1 hx with hx|hx
   ·exact ih x hx
   ·obtain⟨_,rfl⟩:=YbG.1 hx;exact znl _ _
theorem zBJ {n:Nat}:∀ {q:List Sta},(∀ x∈q,x.a.length≤n)→arcN q≤q.length*n
 |[],_=>by simp [arcN]
 |x::q,h=>by have:=zBJ (q:=q) fun y hy=>h y (by simp [hy]);have h1:=h x (by simp);rw [show arcN (x::q)=x.a.length+arcN q by simp [arcN],Ym,YV,YaI];omega
theorem zle {n T k:Nat}(h:k<zaF n T):ze4 n T k≤n:=by
 unfold zaF at h;unfold ze4;split
 ·exact Ye _
 ·rename_i h0;rw [Yd h0]at h;omega
theorem zq1 {m:Mdl}(hm:Mod m){cs:List Nat}(hc:∀ t,t<cs.length→cs.getD t 0≤m.words.length)(hn:m.tags.length≤3)(hT:cs.length≤4)(h:(wrdM m cs cs.length).f=0):
 accB (tgM m cs)=true∧(∀ s∈(tgM m cs).q,∀ a∈s.a,1≤a.i)∧(wrdM m cs cs.length).c≤30000:=by
 have hmul:cs.length*m.tags.length≤4*3:=Yak hT hn
 obtain⟨g1,g2⟩:=zl5 (N:=1+cs.length*m.tags.length) hm hc (by omega) (Ye _) (Ye _) h
 have hl:=zbn m cs cs.length
 have hfl:(tgM m cs).q.length=1+cs.length*m.tags.length:=by rw [zoG,zdF,hl]
 have key:∀ s∈(tgM m cs).q,(s.f=[]∨zaG 3 s.f=true)∧(∀ a∈s.a,goodA (1+cs.length*m.tags.length) a)∧s.a.length≤3:=by
  intro s hs;obtain⟨i,hi,rfl⟩:=Yaj.1 hs;rw [hfl]at hi;have hq:(wrdM m cs cs.length).q[i]'(by omega)∈(wrdM m cs cs.length).q:=YZ _;obtain⟨q1,q2,q3⟩:=g1 _ hq;have e:(tgM m cs).q[i]'(by omega)=if (decide (lastB m.tags.length cs.length≤i)&&decide (i - lastB m.tags.length cs.length<zaF m.tags.length cs.length))=true then⟨endT m cs.length (i - lastB m.tags.length cs.length),((wrdM m cs cs.length).q[i]'(by omega)).a⟩else(wrdM m cs cs.length).q[i]'(by omega):=by simp only [tgM,finQ,List.getElem_mapIdx]
  rw [e];split
  ·rename_i hd;simp only [Yc,Yh]at hd;refine⟨?_,q2,Yn q3 hn⟩;dsimp only;unfold endT;split
   ·exact .inl rfl
   ·rename_i hz;obtain⟨x,y,hxy,_⟩:=zhO (hm.n _ _ (zle hd.2) (Ye _));exact .inr (hxy.wei (hxy.nz hz) 3 (by decide))
  ·exact⟨.inl q1,q2,Yn q3 hn⟩
 have w1:zaG 3 [49]=true:=is_one.wei (by decide) 3 (by decide)
 refine⟨?_,fun s hs a ha=>((key s hs).2.1 a ha).2.2,?_⟩
 ·unfold accB ze0
  have k1:(tgM m cs).q.all (staB 3 (tgM m cs).q.length)=true:=Yg.2 fun s hs=>by obtain⟨h1,h2,h3⟩:=key s hs;unfold staB;rw [hfl];simp only [Yc,Yae,Yh,Yg];exact⟨h1,fun a ha=>(h2 a ha).1⟩
  have k2:(tgM m cs).q.all (fun s=>s.a.all fun a=>decide (a.i=a.o))=true:=Yg.2 fun s hs=>Yg.2 fun a ha=>YB ((key s hs).2.1 a ha).2.1
  have k3:arcN (tgM m cs).q≤30000:=by have:=zBJ (n:=3) fun x hx=>(key x hx).2.2;rw [hfl]at this;omega
  have k4:(tgM m cs).k=3:=rfl
  have k5:(tgM m cs).s=0:=rfl
  have k6:(tgM m cs).l=[49]:=rfl
  rw [k4,k5,k6,k1,k2,w1,show ze5 3=true by decide]
  simp only [Yaw,Yc,Yh,Yar]
  omega
 ·refine Yn g2 ?_
  have h1:(m.tags.length+1)*m.tags.length≤4*3:=Yak (by omega) hn
  exact Yn (Yak hT h1) (by decide)
def zvR(k:Int)(n:Nat):List Str:=List.replicate n (zaS k)
def addR(k:Int)(l:List Str)(i:Nat)(a b:Str):List Str×Int:=
 if (zaQ k a b).2≠0 then(l,(zaQ k a b).2)else
 if (zb2 k (l.getD i []) (zaQ k a b).1).2≠0 then(l,(zb2 k (l.getD i []) (zaQ k a b).1).2)else(l.set i (zb2 k (l.getD i []) (zaQ k a b).1).1,0)
def zw1(x o:Int)(lo:Bool)(a:Arc):Bool:= !decide (a.i=x)||(!decide (a.o=o)&& !lo)
def stpA(k:Int)(v:Str)(x o:Int)(lo:Bool)(ar:List Arc)(l:List Str):Nat→List Str×Int
 |0=>(l,0)
 |j+1=>if (stpA k v x o lo ar l j).2≠0 then stpA k v x o lo ar l j else if zw1 x o lo (nthA ar j)=true then stpA k v x o lo ar l j else addR k (stpA k v x o lo ar l j).1 (nthA ar j).t.toNat v (nthA ar j).w
def stpQ(m:Mach)(v:List Str)(x o:Int)(lo:Bool):Nat→List Str×Int
 |0=>(zvR m.k m.q.length,0)
 |q+1=>if (stpQ m v x o lo q).2≠0 then stpQ m v x o lo q else if v.getD q []=zaS m.k then stpQ m v x o lo q else stpA m.k (v.getD q []) x o lo (nthQ m.q q).a (stpQ m v x o lo q).1 (nthQ m.q q).a.length
def zbY(m:Mach)(v:List Str)(x o:Int)(lo:Bool):List Str×Int:=if (stpQ m v x o lo m.q.length).2≠0 then([],(stpQ m v x o lo m.q.length).2)else stpQ m v x o lo m.q.length
def vecR(m:Mach)(x:List Int):Nat→List Str×Int
 |0=>((zvR m.k m.q.length).set m.s.toNat m.l,0)
 |i+1=>if (vecR m x i).2≠0 then vecR m x i else zbY m (vecR m x i).1 (x.getD i 0) 0 true
def finK(m:Mach)(v:List Str):Nat→List Str×Int
 |0=>([zaS m.k],0)
 |q+1=>if (finK m v q).2≠0 then finK m v q else if (nthQ m.q q).f=[]then finK m v q else addR m.k (finK m v q).1 0 (v.getD q []) (nthQ m.q q).f
def finV(m:Mach)(v:List Str):Str×Int:=if (finK m v m.q.length).2≠0 then([],(finK m v m.q.length).2)else((finK m v m.q.length).1.getD 0 [],0)
def accR(m:Mach)(x:List Int):Str×Int:=if (vecR m x x.length).2≠0 then([],(vecR m x x.length).2)else finV m (vecR m x x.length).1
theorem k3:ze5 3=true:=by decide
theorem zero3:zaS 3=[48]:=by decide
theorem inf48:([48]:Str)≠infS:=by decide
theorem min48:([48]:Str)≠minS:=by decide
theorem nil_no:ratP []=none:=by decide
theorem zv48:zaa 3 [48]=true:=((zda Nat.one_pos).val 3 k3).1
theorem zwz {a b:Str}{x y u v:Nat}(ha:Is a x y)(hb:Is b u v)(h1:a≠[48])(h2:b≠[48]):zaQ 3 a b=pmul a b:=by obtain⟨p1,p2,p3⟩:=ha.val 3 k3;obtain⟨q1,q2,q3⟩:=hb.val 3 k3;unfold zaQ;rw [p1,q1,zero3,Yd (by simp),Yd (by simp [h1,h2]),Yd (by simp [p2,q2]),Yd (by simp [p3,q3]),Yd (by decide)]
theorem zwy {b:Str}{u v:Nat}(hb:Is b u v):zaQ 3 [48] b=([48],0):=by obtain⟨q1,q2,q3⟩:=hb.val 3 k3;unfold zaQ;rw [zv48,q1,zero3,Yd (by simp),Yf (.inl rfl)]
theorem plus3z {p:Str}{x y:Nat}(hp:Is p x y)(hx:0<x):zb2 3 [48] p=(p,0):=by
 obtain⟨q1,q2,q3⟩:=hp.val 3 k3;have hb:zcb 3 p [48]<0:=by unfold zcb;rw [q1,zv48,Yd (by simp),Yd (by decide)];unfold zbS;rw [Yd (fun e=>hp.pos hx e.symm),Yd (by simp [min48,q2]),Yd (by simp [inf48,q3]),zrR (zda hp.1) hp,Yd (by omega),Yf hx];decide
 unfold zb2;rw [q1,zv48,Yd (by simp),Yf (by decide),Yf hb]
theorem plus3r {p:Str}{x y:Nat}(hp:Is p x y):zb2 3 p [48]=(p,0):=by
 obtain⟨q1,q2,q3⟩:=hp.val 3 k3;have hb:¬zcb 3 [48] p<0:=by
  unfold zcb;rw [q1,zv48,Yd (by simp),Yd (by decide)];unfold zbS;by_cases h:p=[48]
  ·rw [Yf h];decide
  ·rw [Yd h,Yd (by simp [min48,q2,q3,inf48]),Yd (by simp [q2,min48]),zrR hp (zda hp.1)];split
   ·decide
   ·rw [Yd (by omega)];decide
 unfold zb2;rw [q1,zv48,Yd (by simp),Yf (by decide),Yd hb]
theorem Is.small {a:Str}{x y:Nat}(h:Is a x y):∃ n d,Is a n d∧n<10 ^ 400∧d<10 ^ 400:=by obtain⟨hy,n,d,hr,he⟩:=h;obtain⟨hd,_,l1,l2⟩:=zbl hr;exact⟨n,d,⟨hd,n,d,hr,rfl⟩,zbs (k:=400) l1,zbs (k:=400) l2⟩
theorem zmI(k:Nat):0<10 ^ k:=YcO (by decide)
theorem zkJ {b:Str}{u v:Nat}(hb:Is b u v):pmul [48] b=([48],0):=by
 obtain⟨n,d,i,h1,h2⟩:=hb.small;rcases zec (zda Nat.one_pos) i with⟨k1,k2⟩|⟨_,k2⟩
 ·rw [Ybm]at k2;exact YT k2.zero k1
 ·exfalso;apply k2;rw [Ybm,YaI];exact⟨zmI 400,h2⟩
theorem zpb {a:Str}{u v:Nat}(ha:Is a u v):pmul a [48]=([48],0):=by
 obtain⟨n,d,i,h1,h2⟩:=ha.small;rcases zec i (zda Nat.one_pos)with⟨k1,k2⟩|⟨_,k2⟩
 ·rw [YY]at k2;exact YT k2.zero k1
 ·exfalso;apply k2;rw [YY,Yap];exact⟨zmI 400,h2⟩
def vec1(N c:Nat)(val:Str):List Str:=(zvR 3 N).set c val
theorem zou(N i:Nat)(h:i<N):(zvR 3 N).getD i []=[48]:=by unfold zvR;rw [Ya,Yby,Yf h];rfl
theorem zcD(N c:Nat):vec1 N c [48]=zvR 3 N:=by
 unfold vec1 zvR;rw [zero3];apply YaU;intro i;rw [Ybn];split
 ·rename_i h;subst h;rw [Yby,Yw]
 ·rfl
theorem zqU {N c i:Nat}{val:Str}(hi:i<N):(vec1 N c val).getD i []=if c=i then val else [48]:=by
 unfold vec1;rw [Ya,Ybn];split
 ·rename_i h;rw [Yf (by unfold zvR;simpa using (by omega:c<N))];rfl
 ·rw [←Ya,zou N i hi]
theorem zeR(k:Int)(N:Nat):(zvR k N).length=N:=by simp [zvR]
theorem ztN {ar:List Arc}{a:Arc}{j:Nat}(h:j<ar.length):nthA (ar++[a]) j=nthA ar j:=by unfold nthA Row.nth;rw [Ya,Ya,Y4 h]
theorem ztM {ar:List Arc}{a:Arc}:nthA (ar++[a]) ar.length=a:=by unfold nthA Row.nth;rw [Ya,YaF (Ye _),Ybp];rfl
theorem zji(k:Int)(v:Str)(x o:Int)(lo:Bool)(ar:List Arc)(a:Arc)(l:List Str):∀ j,j≤ar.length→stpA k v x o lo (ar++[a]) l j=stpA k v x o lo ar l j
 |0,_=>rfl
 |j+1,h=>by rw [stpA,stpA,zji k v x o lo ar a l j (by omega),ztN (by omega)]
theorem zmd {m:Mdl}{c b i N:Nat}{val:Str}(x:Nat)(hx:1≤x):∀ {j:Nat},(arcF m c b i 0 j).2=0→
 stpA 3 val x 0 true (arcF m c b i 0 j).1 (zvR 3 N) (arcF m c b i 0 j).1.length=if x≤j∧(pmul (nx m i (x - 1)) (em m (x - 1) c)).1≠[48]then addR 3 (zvR 3 N) (b+(x - 1)) val (pmul (nx m i (x - 1)) (em m (x - 1) c)).1 else(zvR 3 N,0)
 |0,_=>by rw [Yd (by omega)];rfl
 |j+1,h=>by
  rw [arcF]at h ⊢;obtain⟨h0,h1,h2⟩:=tm_z h;have ih:=zmd (m:=m) (c:=c) (b:=b) (i:=i) (N:=N) (val:=val) x hx (j:=j) h0;rw [h2];dsimp only;by_cases hz:(pmul (nx m i j) (em m j c)).1=[48]
  ·rw [Yf hz,ih];by_cases hxj:x=j+1
   ·subst hxj;rw [Yd (by omega),Yd (by simp [hz])]
   ·have:(x≤j)↔(x≤j+1):=⟨fun _=>by omega,fun _=>by omega⟩;simp only [this]
  ·rw [Yd hz,Yi,Yb6,stpA,zji _ _ _ _ _ _ _ _ _ (Ye _),ztM,ih];unfold zw1;dsimp only;by_cases hxj:x=j+1
   ·subst hxj;rw [Yd (fun k=>by omega:¬(j+1≤j∧(pmul (nx m i (j+1 - 1)) (em m (j+1 - 1) c)).1≠[48])),Yd (by simp),Yd (by simp),Yf ⟨Ye _,hz⟩];dsimp only;rw [YcN];rfl
   ·have e1:decide (((j+1:Nat):Int)=(x:Int))=false:=Yy (by omega);have:(x≤j)↔(x≤j+1):=⟨fun _=>by omega,fun _=>by omega⟩;rw [e1,Yf (by simp:(!false||(!decide (((j+1:Nat):Int)=0)&& !true))=true),ite_self];simp only [this]
section
variable {M:Mach}(hk:M.k=3)
include hk
theorem zmc {x o:Int}{lo:Bool}:∀ q,q≤M.q.length→stpQ M (zvR 3 M.q.length) x o lo q=(zvR 3 M.q.length,0)
 |0,_=>by rw [stpQ,hk]
 |q+1,h=>by rw [stpQ,zmc q (by omega),Yd (by simp),zou _ _ (by omega),hk,Yf zero3.symm]
theorem zq4 {x o:Int}{lo:Bool}{c:Nat}{val:Str}(hv:val≠[48]):∀ q,q≤M.q.length→stpQ M (vec1 M.q.length c val) x o lo q=if c<q then stpA 3 val x o lo (nthQ M.q c).a (zvR 3 M.q.length) (nthQ M.q c).a.length else(zvR 3 M.q.length,0)
 |0,_=>by rw [stpQ,hk,Yd (by omega)]
 |q+1,h=>by
  rw [stpQ,zq4 hv q (by omega),zqU (by omega),hk,zero3];rcases Ybq c q with hc|hc|hc
  ·rw [Yf hc,Yd (by omega:¬c=q),Yf rfl,ite_self,Yf (by omega:c<q+1)]
  ·subst hc;rw [Yd (by omega:¬c<c),Yd (by simp),Yf rfl,Yd hv,Yf (by omega:c<c+1)]
  ·rw [Yd (by omega:¬c<q),Yd (by simp),Yd (by omega:¬c=q),Yf rfl,Yd (by omega:¬c<q+1)]
theorem zfl {x o:Int}{lo:Bool}:zbY M (zvR 3 M.q.length) x o lo=(zvR 3 M.q.length,0):=by unfold zbY;rw [zmc hk _ (Ye _),Yd (by simp)]
theorem zgQ {x o:Int}{lo:Bool}{c:Nat}{val:Str}(hc:c<M.q.length)(hv:val≠[48])(h:(zbY M (vec1 M.q.length c val) x o lo).2=0):
 zbY M (vec1 M.q.length c val) x o lo=stpA 3 val x o lo (nthQ M.q c).a (zvR 3 M.q.length) (nthQ M.q c).a.length:=by
 unfold zbY at h ⊢
 rw [zq4 hk hv _ (Ye _),Yf hc]at h ⊢
 split
 ·rename_i he
  rw [Yf he]at h
  exact absurd h he
 ·rfl
theorem zzl {c:Nat}{val:Str}{x y:Nat}(hc:c<M.q.length)(hv:Is val x y)(hf:∀ q,q<M.q.length→(nthQ M.q q).f=[]∨∃ u v,Is (nthQ M.q q).f u v∧(nthQ M.q q).f≠[48]):
 ∀ q,q≤M.q.length→(finK M (vec1 M.q.length c val) q).2=0→(finK M (vec1 M.q.length c val) q).1=[if c<q∧(nthQ M.q c).f≠[]then(pmul val (nthQ M.q c).f).1 else [48]]∧(c<q∧(nthQ M.q c).f≠[]→(pmul val (nthQ M.q c).f).2=0)
 |0,_,_=>by rw [finK,hk,zero3,Yd (by omega)];exact⟨rfl,fun k=>by omega⟩
 |q+1,h,he=>by
  rw [finK]at he ⊢;by_cases h0:(finK M (vec1 M.q.length c val) q).2≠0
  ·rw [Yf h0]at he;exact absurd he h0
  rw [Yd h0]at he ⊢;obtain⟨i1,i2⟩:=zzl hc hv hf q (by omega) (Yb8.1 h0);by_cases hq:(nthQ M.q q).f=[]
  ·rw [Yf hq];have e:(c<q+1∧(nthQ M.q c).f≠[])↔(c<q∧(nthQ M.q c).f≠[]):=⟨fun⟨a,b⟩=>⟨by
    rcases YaG c q with h|h
    ·exact h
    ·exact absurd (by rw [show c=q by omega];exact hq) b,b⟩,fun⟨a,b⟩=>⟨by omega,b⟩⟩
   simp only [e];exact⟨i1,i2⟩
  ·rw [Yd hq]at he ⊢;obtain⟨u,v,hu,hn⟩:=(hf q (by omega)).resolve_left hq;rw [zqU (by omega),i1,hk]at he ⊢;by_cases hcq:c=q
   ·subst hcq;have hcc:¬(c<c∧(nthQ M.q c).f≠[]):=fun k=>by omega
    have hcd:c<c+1∧(nthQ M.q c).f≠[]:=⟨by omega,hq⟩;rw [Yd hcc,Yf rfl]at he ⊢;rw [Yf hcd];unfold addR at he ⊢;by_cases hz:val=[48]
    ·subst hz;rw [zwy hu]at he ⊢;rw [zkJ hu];simp only [ne_eq,not_true_eq_false,if_false,Ycj,Ycm]at he ⊢;rw [plus3r (zda Nat.one_pos)];exact⟨by simp,fun _=>trivial⟩
    ·rw [zwz hv hu hz hn]at he ⊢;by_cases hm:(pmul val (nthQ M.q c).f).2≠0
     ·rw [Yf hm]at he;exact absurd he hm
     ·rw [Yd hm];have hp:=(zec hv hu).resolve_right fun k=>hm (by rw [k.1];decide);simp only [Ycj,Ycm];rw [plus3z hp.2 (Ya1 (hv.nz hz) (hu.nz hn))];exact⟨by simp,fun _=>hp.1⟩
   ·have e:(c<q+1∧(nthQ M.q c).f≠[])↔(c<q∧(nthQ M.q c).f≠[]):=⟨fun⟨a,b⟩=>⟨by omega,b⟩,fun⟨a,b⟩=>⟨by omega,b⟩⟩;simp only [e];rw [Yd hcq];refine⟨?_,i2⟩;have hs:∃ x y,Is (if c<q∧(nthQ M.q c).f≠[]then(pmul val (nthQ M.q c).f).1 else [48]) x y:=by
     split
     ·rename_i hh;obtain⟨u',v',hu',_⟩:=(hf c hc).resolve_left hh.2;exact⟨_,_,((zec hv hu').resolve_right fun k=>by have:=i2 hh;rw [k.1]at this;exact absurd this (by decide)).2⟩
     ·exact⟨0,1,zda Nat.one_pos⟩
    obtain⟨a,b,hab⟩:=hs;unfold addR;rw [zwy hu];simp only [ne_eq,not_true_eq_false,if_false,Ycj,Ycm];rw [plus3r hab];simp
end
theorem zc9(q:List Sta)(k:Nat):nthQ q k=q.getD k ⟨[],[]⟩:=rfl
theorem zkW {q:List Sta}{k j:Nat}{x:Sta}(hk:k<q.length):nthQ (q.set k x) j=if k=j then x else nthQ q j:=by
 rw [zc9,zc9,Ya,Ybn,Ya];split
 ·rfl
 ·rfl
theorem zso {n t i j k:Nat}(h1:befI n t i=some k)(h2:befI n t j=some k):i=j:=by
 unfold befI at h1 h2;by_cases h0:t=0
 ·rw [Yf h0]at h1 h2;by_cases hi:i=n
  ·by_cases hj:j=n
   ·rw [hi,hj]
   ·rw [Yd hj]at h2;cases h2
  ·rw [Yd hi]at h1;cases h1
 ·rw [Yd h0]at h1 h2;by_cases hi:i<n
  ·by_cases hj:j<n
   ·rw [Yf hi]at h1;rw [Yf hj]at h2;simp only [Yv]at h1 h2;omega
   ·rw [Yd hj]at h2;cases h2
  ·rw [Yd hi]at h1;cases h1
theorem zb8 {n t i k:Nat}(h:befI n t i=some k):i≤n∧k<1+t*n∧lastB n t≤k:=by
 unfold befI at h;unfold lastB;split at h
 ·rename_i h0;split at h
  ·cases h;rw [Yf h0];exact⟨by omega,by omega,Ye _⟩
  ·cases h
 ·rename_i h0;split at h
  ·cases h;rw [Yd h0];have e:t*n=(t - 1)*n+n:=by rw [←Ya4];congr 1;omega
   exact⟨by omega,by omega,by omega⟩
  ·cases h
theorem zdh {n s t:Nat}(h:s<t):1+s*n≤lastB n t:=by unfold lastB;rw [Yd (by omega)];have:=YH n (show s≤t - 1 by omega);omega
theorem zxc {m:Mdl}{c b t:Nat}{s:MS}(hl:1+t*m.tags.length≤s.q.length):∀ {i:Nat},(rowM m c b t s i).f=0→
 (∀ i' k,i'<i→befI m.tags.length t i'=some k→nthQ (rowM m c b t s i).q k=⟨[],(arcF m c b i' 0 m.tags.length).1⟩∧(arcF m c b i' 0 m.tags.length).2=0)∧
  ∀ k,(∀ i',i'<i→befI m.tags.length t i'≠some k)→nthQ (rowM m c b t s i).q k=nthQ s.q k
 |0,_=>⟨fun i' k h=>by omega,fun k _=>rfl⟩
 |i+1,h=>by
  have hz:=zw8 h (Ybg i);obtain⟨h1,h2⟩:=zxc hl (i:=i) hz;rw [rowM]at h ⊢;cases hb:befI m.tags.length t i with
  |none=>
   dsimp only;refine⟨fun i' k hi hk=>h1 i' k ?_ hk,fun k hk=>h2 k fun i' hi=>hk i' (by omega)⟩;rcases YaG i' i with hl|hl
   ·exact hl
   ·rw [show i'=i by omega,hb]at hk;cases hk
  |some q=>
   rw [hb]at h;dsimp only at h ⊢;rw [hz]at h ⊢;have hq:q<(rowM m c b t s i).q.length:=by rw [zdx];have:=(zb8 hb).2.1;omega
   refine⟨fun i' k hi hk=>?_,fun k hk=>?_⟩
   ·rw [zkW hq];rcases YaG i' i with hl|hl
    ·rw [Yd]
     ·exact h1 i' k hl hk
     ·rintro rfl;have:=zso hk hb;omega
    ·obtain rfl:i'=i:=by omega
     rw [hb]at hk;cases hk;rw [Yf rfl];exact⟨rfl,h⟩
   ·rw [zkW hq,Yd]
    ·exact h2 k fun i' hi=>hk i' (by omega)
    ·rintro rfl;exact hk i (by omega) hb
theorem zkX {q:List Sta}{n k:Nat}:nthQ (q++List.replicate n ⟨[],[]⟩) k=nthQ q k:=by
 rw [zc9,zc9,Ya,Ya];rcases YaG k q.length with h|h
 ·rw [Y4 h]
 ·rw [YaF h,Yby,Ys h];split<;>rfl
theorem zfu {q:List Sta}{k:Nat}(h:q.length≤k):nthQ q k=⟨[],[]⟩:=by rw [zc9,Ya,Ys h];rfl
theorem zoC {m:Mdl}{cs:List Nat}:∀ {t:Nat},(wrdM m cs t).f=0→
 (∀ s i k,s<t→befI m.tags.length s i=some k→nthQ (wrdM m cs t).q k=⟨[],(arcF m (cs.getD s 0) (1+s*m.tags.length) i 0 m.tags.length).1⟩∧(arcF m (cs.getD s 0) (1+s*m.tags.length) i 0 m.tags.length).2=0)∧
  ∀ k,lastB m.tags.length t≤k→nthQ (wrdM m cs t).q k=⟨[],[]⟩
 |0,_=>⟨fun s i k h=>by omega,fun k _=>by
  match k with
  |0=>rfl
  |k+1=>exact zfu (by simp [wrdM])⟩
 |t+1,h=>by
  obtain⟨h1,h2⟩:=zoC (t:=t) (wrdM_z h (Ybg t));have hlen:=zbn m cs t;rw [wrdM]at h ⊢;obtain⟨r1,r2⟩:=zxc (by show _≤((wrdM m cs t).q++_).length;rw [Yi];omega) h;rw [hlen]at r1 r2 ⊢;have hnew:∀ k,nthQ (newM m.tags.length (wrdM m cs t)).q k=nthQ (wrdM m cs t).q k:=fun k=>zkX;refine⟨fun s i k hs hk=>?_,fun k hk=>?_⟩
  ·rcases YaG s t with hl|hl
   ·have hkl:=(zb8 hk).2.1;have hlb:=zdh (n:=m.tags.length) hl;rw [r2 k fun i' _ he=>by have:=(zb8 he).2.2;omega,hnew];exact h1 s i k hl hk
   ·obtain rfl:s=t:=by omega
    exact r1 i k (by have:=(zb8 hk).1;omega) hk
  ·have hlb:1+t*m.tags.length≤k:=by
    have:=zdh (n:=m.tags.length) (show t<t+1 from Yat t)
    omega
   rw [r2 k fun i' _ he=>by have:=(zb8 he).2.1;omega,hnew]
   exact zfu (by omega)
theorem zpU {m:Mdl}{T:Nat}{q:List Sta}{d:Nat→Bool}{k:Nat}(hk:k<q.length):nthQ (finQ m T q d) k=if (decide (lastB m.tags.length T≤k)&&d (k - lastB m.tags.length T))=true then⟨endT m T (k - lastB m.tags.length T),(nthQ q k).a⟩else nthQ q k:=by rw [zc9,zc9,Ya,Ya];unfold finQ;rw [Yca,Yb hk];rfl
def jsOf(x:List Int):List Nat:=x.map fun a=>(a - 1).toNat
theorem zpz {x:List Int}{k:Nat}(h:k<x.length):(jsOf x).getD k 0=(x.getD k 0 - 1).toNat:=by unfold jsOf;rw [Ya,YX,Ya,Yb h];rfl
def zfH(m:Mdl)(cs:List Nat)(x:List Int)(t:Nat):Prop:=t≤cs.length∧∀ k,k<t→x.getD k 0≤m.tags.length
def curX(m:Mdl)(x:List Int)(t:Nat):Nat:=if t=0 then 0 else 1+(t - 1)*m.tags.length+(jsOf x).getD (t - 1) 0
theorem zp3 {m:Mdl}{cs:List Nat}{x:List Int}{t:Nat}(ht:t≤x.length)(hx:∀ k,k<x.length→1≤x.getD k 0)(hg:zfH m cs x t):befI m.tags.length t (lastOf m.tags.length (jsOf x) t)=some (curX m x t)∧lastOf m.tags.length (jsOf x) t≤m.tags.length:=by
 unfold befI lastOf curX;by_cases h0:t=0
 ·rw [Yf h0,Yf h0,Yf rfl,Yf h0];exact⟨rfl,Ye _⟩
 ·rw [Yd h0,Yd h0,Yd h0];have h1:=hg.2 (t - 1) (by omega);have h2:=hx (t - 1) (by omega);have h3:=zpz (x:=x) (k:=t - 1) (by omega);rw [h3,Yf (by omega)];exact⟨rfl,by omega⟩
theorem zwp {m:Mdl}(hm:Mod m){cs:List Nat}(hc:∀ t,t<cs.length→cs.getD t 0≤m.words.length)(hf:(wrdM m cs cs.length).f=0){x:List Int}(hx:∀ k,k<x.length→1≤x.getD k 0):
 ∀ t,t≤x.length→(vecR (tgM m cs) x t).2=0→∃ val c,(vecR (tgM m cs) x t).1=vec1 (tgM m cs).q.length c val∧c<(tgM m cs).q.length∧
  (zfH m cs x t→c=curX m x t∧(prR m cs (jsOf x) t).2=0∧val=(prR m cs (jsOf x) t).1∧∃ u v,Is val u v)∧(¬zfH m cs x t→val=[48])
 |0,_,_=>by refine⟨[49],0,rfl,?_,fun _=>⟨rfl,rfl,rfl,1,1,is_one⟩,fun h=>absurd ⟨Yk _,fun k hk=>by omega⟩ h⟩;rw [zoG,zdF,zbn];omega
 |t+1,ht,he=>by
  have hN:(tgM m cs).q.length=1+cs.length*m.tags.length:=by rw [zoG,zdF,zbn]
  have hk3:(tgM m cs).k=3:=rfl;rw [vecR]at he ⊢;by_cases h0:(vecR (tgM m cs) x t).2≠0
  ·rw [Yf h0]at he;exact absurd he h0
  rw [Yd h0]at he ⊢;obtain⟨val,c,e1,e2,e3,e4⟩:=zwp hm hc hf hx t (by omega) (Yb8.1 h0);rw [e1]at he ⊢;have dead:¬zfH m cs x (t+1)→zbY (tgM m cs) (vec1 (tgM m cs).q.length c val) (x.getD t 0) 0 true=(zvR 3 (tgM m cs).q.length,0)→∃ val' c',(zbY (tgM m cs) (vec1 (tgM m cs).q.length c val) (x.getD t 0) 0 true).1=vec1 (tgM m cs).q.length c' val'∧c'<(tgM m cs).q.length∧
   (zfH m cs x (t+1)→c'=curX m x (t+1)∧(prR m cs (jsOf x) (t+1)).2=0∧val'=(prR m cs (jsOf x) (t+1)).1∧∃ u v,Is val' u v)∧(¬zfH m cs x (t+1)→val'=[48]):=fun hb hs=>
   ⟨[48],c,by rw [hs,zcD],e2,fun h=>absurd h hb,fun _=>rfl⟩
  by_cases hg:zfH m cs x t;rotate_left
  ·have hb:¬zfH m cs x (t+1):=fun h=>hg ⟨by have:=h.1;omega,fun k hk=>h.2 k (by omega)⟩;refine dead hb ?_;rw [e4 hg,zcD,zfl hk3]
  obtain⟨c1,c2,c3,u,v,hval⟩:=e3 hg;obtain⟨b1,b2⟩:=zp3 (by omega) hx hg;rw [←c1]at b1;have hq:nthQ (tgM m cs).q c=if (decide (lastB m.tags.length cs.length≤c)&&decide (c - lastB m.tags.length cs.length<zaF m.tags.length cs.length))=true then⟨endT m cs.length (c - lastB m.tags.length cs.length),(nthQ (wrdM m cs cs.length).q c).a⟩else nthQ (wrdM m cs cs.length).q c:=by rw [zoG,zpU (by rw [zbn];omega)]
  obtain⟨w1,w2⟩:=zoC hf;by_cases hT:t<cs.length;rotate_left
  ·
    have hb:¬zfH m cs x (t+1):=fun h=>by have:=h.1;omega
    refine dead hb ?_
    by_cases hz:val=[48]
    ·rw [hz,zcD,zfl hk3]
    ·rw [zgQ hk3 e2 hz he]
     have:t=cs.length:=by have:=hg.1;omega
     subst this
     have ha:(nthQ (tgM m cs).q c).a=[]:=by have:=w2 c (zb8 b1).2.2;rw [hq,this];split<;>rfl
     rw [ha];rfl
  have hlt:c<lastB m.tags.length cs.length:=Yo (zb8 b1).2.1 (zdh hT);obtain⟨a1,a2⟩:=w1 t _ c hT b1;have ha:(nthQ (tgM m cs).q c).a=(arcF m (cs.getD t 0) (1+t*m.tags.length) (lastOf m.tags.length (jsOf x) t) 0 m.tags.length).1:=by rw [hq,Yd (by simp;omega),a1]
  have x1:=hx t (by omega);obtain⟨X,hX⟩:∃ X:Nat,x.getD t 0=X:=⟨(x.getD t 0).toNat,by omega⟩;have hXj:(jsOf x).getD t 0=X - 1:=by rw [zpz (by omega)];omega
  have hsA:=zmd (N:=(tgM m cs).q.length) (val:=val) X (by omega) a2;by_cases hxn:X≤m.tags.length;rotate_left
  ·have hb:¬zfH m cs x (t+1):=fun h=>by have:=h.2 t (by omega);omega
   refine dead hb ?_;by_cases hz:val=[48]
   ·rw [hz,zcD,zfl hk3]
   ·rw [zgQ hk3 e2 hz he,ha,hX,hsA,Yd (by omega)]
  have hg':zfH m cs x (t+1):=⟨hT,fun k hk=>by
   rcases YaG k t with h|h
   ·exact hg.2 k h
   ·rw [show k=t by omega];omega⟩
  obtain⟨p1,p2⟩:(arcF m (cs.getD t 0) (1+t*m.tags.length) (lastOf m.tags.length (jsOf x) t) 0 (X - 1+1)).2=0∧True:=⟨arcF_zj a2 (by omega),trivial⟩;rw [arcF]at p1;obtain⟨_,p3,_⟩:=tm_z p1;have pn:=hm.n (lastOf m.tags.length (jsOf x) t) (X - 1) b2 (by omega);have pe:=hm.e (X - 1) (cs.getD t 0) (by omega) (hc t hT);obtain⟨wx,wy,hw⟩:=mod_pm pn pe p3;have hqc:zkG m cs (jsOf x) t=pmul (nx m (lastOf m.tags.length (jsOf x) t) (X - 1)) (em m (X - 1) (cs.getD t 0)):=by unfold zkG;rw [hXj]
  have hpr:prR m cs (jsOf x) (t+1)=pmul val (pmul (nx m (lastOf m.tags.length (jsOf x) t) (X - 1)) (em m (X - 1) (cs.getD t 0))).1:=by rw [prR,Yd (fun k=>k c2),hqc,Yd (fun k=>k p3), ←c3]
  have hcur:curX m x (t+1)=1+t*m.tags.length+(X - 1):=by unfold curX;rw [Yd (by omega),Ybf,hXj]
  have hcl:curX m x (t+1)<(tgM m cs).q.length:=by have:=YH m.tags.length (show t+1≤cs.length from hT);rw [YV,YaI]at this;omega
  generalize (pmul (nx m (lastOf m.tags.length (jsOf x) t) (X - 1)) (em m (X - 1) (cs.getD t 0))).1=w at hw hpr hsA;refine⟨(pmul val w).1,curX m x (t+1),?_,hcl,fun _=>⟨rfl,?_⟩,fun h=>absurd hg' h⟩
  ·by_cases hz:val=[48]
   ·rw [hz,zcD,zfl hk3,zkJ hw,zcD]
   ·have hst:=zgQ hk3 e2 hz he;rw [hst]at he ⊢;rw [ha,hX,hsA]at he ⊢;by_cases hwz:w=[48]
    ·rw [Yd (by simp [hwz]),hwz,zpb hval,zcD]
    ·rw [Yf ⟨hxn,hwz⟩]at he ⊢;unfold addR at he ⊢;rw [zwz hval hw hz hwz]at he ⊢;by_cases hm0:(pmul val w).2≠0
     ·rw [Yf hm0]at he;exact absurd he hm0
     ·rw [Yd hm0];have hp:=(zec hval hw).resolve_right fun k=>hm0 (by rw [k.1];decide);rw [zou _ _ (by rw [←hcur];exact hcl),plus3z hp.2 (Ya1 (hval.nz hz) (hw.nz hwz)),Yd (by simp),hcur];rfl
  ·rw [hpr];by_cases hz:val=[48]
   ·rw [hz,zkJ hw];exact⟨rfl,rfl,0,1,zda Nat.one_pos⟩
   ·have hst:=zgQ hk3 e2 hz he;rw [hst,ha,hX,hsA]at he;by_cases hwz:w=[48]
    ·rw [hwz,zpb hval];exact⟨rfl,rfl,0,1,zda Nat.one_pos⟩
    ·rw [Yf ⟨hxn,hwz⟩]at he;unfold addR at he;rw [zwz hval hw hz hwz]at he;by_cases hm0:(pmul val w).2≠0
     ·rw [Yf hm0]at he;exact absurd he hm0
     ·have hp:=(zec hval hw).resolve_right fun k=>hm0 (by rw [k.1];decide);exact⟨hp.1,rfl,_,_,hp.2⟩
theorem acc_law {m:Mdl}(hm:Mod m){cs:List Nat}(hc:∀ t,t<cs.length→cs.getD t 0≤m.words.length)(hf:(wrdM m cs cs.length).f=0){x:List Int}(hx:∀ k,k<x.length→1≤x.getD k 0)(he:(accR (tgM m cs) x).2=0):
 ((x.length=cs.length∧∀ k,k<x.length→x.getD k 0≤m.tags.length)→(accR (tgM m cs) x).1=(prob m cs (jsOf x)).1)∧(¬(x.length=cs.length∧∀ k,k<x.length→x.getD k 0≤m.tags.length)→(accR (tgM m cs) x).1=[48]):=by
 have hk3:(tgM m cs).k=3:=rfl
 have hN:(tgM m cs).q.length=1+cs.length*m.tags.length:=by rw [zoG,zdF,zbn]
 unfold accR at he ⊢
 by_cases h0:(vecR (tgM m cs) x x.length).2≠0
 ·rw [Yf h0]at he;exact absurd he h0
 rw [Yd h0]at he ⊢
 obtain⟨val,c,e1,e2,e3,e4⟩:=zwp hm hc hf hx x.length (Ye _) (Yb8.1 h0)
 rw [e1]at he ⊢
 unfold finV at he ⊢
 by_cases h1:(finK (tgM m cs) (vec1 (tgM m cs).q.length c val) (tgM m cs).q.length).2≠0
 ·rw [Yf h1]at he;exact absurd he h1
 rw [Yd h1]
 obtain⟨w1,w2⟩:=zoC hf
 have hfe:∀ q,q<(tgM m cs).q.length→(nthQ (tgM m cs).q q).f=if lastB m.tags.length cs.length≤q∧q - lastB m.tags.length cs.length<zaF m.tags.length cs.length then endT m cs.length (q - lastB m.tags.length cs.length)else(nthQ (wrdM m cs cs.length).q q).f:=fun q hq=>by have:nthQ (tgM m cs).q q=_:=zpU (m:=m) (T:=cs.length) (d:=fun k=>decide (k<zaF m.tags.length cs.length)) (by rw [zbn];omega);rw [this];simp only [Yc,Yh];split<;>rfl
 have hempty:∀ q,q<(tgM m cs).q.length→(nthQ (wrdM m cs cs.length).q q).f=[]:=fun q hq=>by
  rcases YaG q (lastB m.tags.length cs.length)with hl|hl
  ·
    have hT:cs.length≠0:=fun h=>by unfold lastB at hl;rw [Yf h]at hl;omega
    have hn:∃ s i,s<cs.length∧befI m.tags.length s i=some q:=by
     unfold lastB at hl;rw [Yd hT]at hl;by_cases hq0:q=0
     ·exact⟨0,m.tags.length,by omega,by unfold befI;rw [Yf rfl,Yf rfl,hq0]⟩
     ·have hnp:0<m.tags.length:=by
       rcases YD m.tags.length with h|h
       ·rw [h,YY]at hl;omega
       ·exact h
      have hd:=Ya2 (q - 1) m.tags.length
      have hml:=YaM (q - 1) hnp
      have hdl:(q - 1) / m.tags.length<cs.length - 1:=(YaH hnp).2 (by omega)
      refine⟨(q - 1) / m.tags.length+1,(q - 1) % m.tags.length,by omega,?_⟩
      unfold befI
      rw [Yd (Ycz _),Yf hml,Ybf,Yay]
      congr 1
      omega
    obtain⟨s,i,hs,hb⟩:=hn
    rw [(w1 s i q hs hb).1]
  ·rw [w2 q hl]
 have hfin:∀ q,q<(tgM m cs).q.length→(nthQ (tgM m cs).q q).f=[]∨∃ u v,Is (nthQ (tgM m cs).q q).f u v∧(nthQ (tgM m cs).q q).f≠[48]:=fun q hq=>by
  rw [hfe q hq];split
  ·rename_i hd;unfold endT;split
   ·exact .inl rfl
   ·rename_i hz;obtain⟨u,v,hi,_⟩:=zhO (hm.n _ _ (zle hd.2) (Ye _));exact .inr ⟨u,v,hi,hz⟩
  ·exact .inl (hempty q hq)
 have hIs:∃ u v,Is val u v:=by
  by_cases hg:zfH m cs x x.length
  ·exact(e3 hg).2.2.2
  ·exact⟨0,1,by rw [e4 hg];exact zda Nat.one_pos⟩
 obtain⟨u,v,hval⟩:=hIs
 obtain⟨f1,f2⟩:=zzl hk3 e2 hval hfin _ (Ye _) (Yb8.1 h1)
 rw [f1]
 dsimp only [List.getD_cons_zero]
 have hc1:(c<(tgM m cs).q.length∧(nthQ (tgM m cs).q c).f≠[])↔((nthQ (tgM m cs).q c).f≠[]):=⟨fun h=>h.2,fun h=>⟨e2,h⟩⟩
 simp only [hc1]at f2 ⊢
 constructor
 ·rintro⟨hl,hall⟩
  have hg:zfH m cs x x.length:=⟨by omega,hall⟩
  obtain⟨c1,c2,c3,_⟩:=e3 hg
  obtain⟨b1,b2⟩:=zp3 (Ye _) hx hg
  rw [←c1,hl]at b1
  rw [hl]at b2 c2 c3
  obtain⟨k1,k2,k3⟩:=zb8 b1
  have hG:c - lastB m.tags.length cs.length<zaF m.tags.length cs.length∧ze4 m.tags.length cs.length (c - lastB m.tags.length cs.length)=lastOf m.tags.length (jsOf x) cs.length:=by
   unfold befI at b1;unfold lastB zaF ze4 at*;by_cases hz:cs.length=0
   ·rw [Yf hz]at b1;rw [Yf hz,Yf hz,Yf hz];split at b1
    ·rename_i hh;cases b1;exact⟨by omega,hh.symm⟩
    ·cases b1
   ·rw [Yd hz]at b1;rw [Yd hz,Yd hz,Yd hz];split at b1
    ·rename_i hh;simp only [Yv]at b1;omega
    ·cases b1
  have hfc:=hfe c e2
  rw [Yf ⟨k3,hG.1⟩]at hfc
  unfold endT at hfc
  rw [hG.2]at hfc
  have hprob:prob m cs (jsOf x)=pmul val (nx m (lastOf m.tags.length (jsOf x) cs.length) m.tags.length):=by unfold prob;rw [Yd (by simp [c2]), ←c3]
  rw [hprob]
  by_cases hz:nx m (lastOf m.tags.length (jsOf x) cs.length) m.tags.length=[48]
  ·rw [Yf hz]at hfc
   rw [Yd (by simp [hfc]),hz,zpb hval]
   rfl
  ·rw [Yd hz]at hfc
   obtain⟨a,b,hab,_⟩:=zhO (hm.n _ m.tags.length b2 (Ye _))
   have hne:(nthQ (tgM m cs).q c).f≠[]:=by rw [hfc];intro e;obtain⟨_,n,d,hr,_⟩:=hab;rw [e]at hr;rw [nil_no]at hr;cases hr
   rw [Yf hne,hfc]
   rfl
 ·intro hn
  by_cases hg:zfH m cs x x.length
  ·obtain⟨c1,_,_,_⟩:=e3 hg
   obtain⟨b1,b2⟩:=zp3 (Ye _) hx hg
   rw [←c1]at b1
   have hlt:x.length<cs.length:=by
    have:=hg.1;rcases YaG x.length cs.length with h|h
    ·exact h
    ·exact absurd ⟨by omega,hg.2⟩ hn
   have hl:=Yo (zb8 b1).2.1 (zdh (n:=m.tags.length) hlt)
   have hfc:=hfe c e2
   rw [Yd (by omega),hempty c e2]at hfc
   rw [Yd (by simp [hfc])]
   rfl
  ·rw [e4 hg]
   split
   ·rename_i hh
    obtain⟨a,b,hab,_⟩:=(hfin c e2).resolve_left hh
    rw [zkJ hab]
    rfl
   ·rfl
end Go.Proofs
