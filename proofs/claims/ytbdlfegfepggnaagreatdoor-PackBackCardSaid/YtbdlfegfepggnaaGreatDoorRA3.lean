/- The example runs as the chapter says. -/
import Derived.Test.YtbdlfegfepggnaaGreatDoorAbDefer
import Derived.Lib.LaidU8
set_option linter.all false
set_option maxHeartbeats 16000000
set_option maxRecDepth 100000
noncomputable section
namespace Go.Proofs
open Tryz Go.Ab Go.Pl Go.Cnt
section
variable {C:Cfg}{P:Program}{K:Out→St→Prop}{st:List Fr}{ops:Array Oper}{os:List Oper}{env:Env}{h:Hp}
def zfR(i:Nat)(d:Tmp)(pre:Prop)(v:V)(h':Hp)(R W:ZN)(lo hi:Nat)(acc:List (Nat×Foot)):AXg2 C P K st ops os i (some d) (some true) (.ok false pre v h' ⟨R,W,lo,hi⟩) acc env h=(pre∧wok C W=true∧AXd C P K st ops os (i+1) (accM acc i R W lo hi) ((d,v)::env) h'):=by rw[←zkJ];simp[AXg2,folG,AXd,St.put,St.hp]
end
attribute [local go_sem] zaO znn zbg zfR
def conv_slb(l:ZL)(b n:Nat)(H:Hp)(hb:H.get b=some (bly l))(hn:n=l.length):zcX prog 28 9 (.sl b 0 n 1 none) H=⟨True,.str l,H,[b],[]⟩:=by subst hn;refine ziT 28 9 5 _ (l.map zq) l.length [b] l Zk Zk Zk ?_ (zkD l);unfold zaE;simp only[hb];unfold bly;simp;exact Yp Zs
def wts_ex:wts exM=[[48],[49]]:=by rw[←wts_law];rfl
def exB:ZL:=known++sumB known
def body_ex:(zfa exM exT).1=known:=by unfold zfa headB layM;rw[wts_ex];kernel_rfl
def file_ex:zdu exM exT=exB:=by unfold zdu;rw[body_ex];rfl
theorem zwv:exB.length=30:=rfl
def ok_ex:PackOK exM exT:=by
 have h:InP exM exT:=by
  refine⟨Zd,fun s hs=>?_,Zd,Zd,fun s hs=>?_,fun s hs a ha=>?_,fun j=>?_⟩
  ·obtain rfl:=YB.1 hs;decide
  ·obtain rfl:=YB.1 hs;decide
  ·obtain rfl:=YB.1 hs;obtain rfl:=YB.1 ha;decide
  match j with
  |0=>decide
  |1=>decide
  |j+2=>exact Yk _
 exact zqv h Zd
def zjN:zeS exM exT=(exB,0):=by have h1:(zcy exM&&tabB exT&&decide (sigM exM≤exT.length))=true:=Zk;unfold zeS;rw[h1,Yi rfl,file_ex,Ye (by rw[zwv];decide)]
def check_8:PCall prog 13 [.fs ((exB.take 8).map zq) (exB.take 8).length] (.ret (.int .i64 10)):=zkr (exB.take 8) (zk0 (exB.take 8) Zd)
def cTwo(a b:ZA)(v w:V):ZV:=fun args=>open Classical in if args=a then some (.ret v)else if args=b then some (.ret w)else none
def cTwo_1(a b:ZA)(v w:V):cTwo a b v w a=some (.ret v):=Yi rfl
def cTwo_2(a b:ZA)(v w:V)(h:b≠a):cTwo a b v w b=some (.ret w):=(Ye h).trans (Yi rfl)
def cTwo_ok {f:FuncId}{a b:ZA}{v w:V}(h1:PCall prog f a (.ret v))(h2:PCall prog f b (.ret w)):∀args r,cTwo a b v w args=some r→PCall prog f args r:=by
 intro args r h;unfold cTwo at h;split at h
 ·rename_i e;cases h;rw[e];exact h1
 split at h
 ·rename_i e;cases h;rw[e];exact h2
 cases h
end Go.Proofs

namespace Go.Proofs
open Tryz Go.Ab Go.Cnt Go.Pl
def dStrP:Dec prog 9 strR (fun s=>s.length≤reachBytes):=Dec.str Tryz.underlying9 Zk
def okTab(l:List Str):Prop:=l.length≤reachBytes∧∀s∈l,s.length≤reachBytes
def dTab:Dec prog 25 (slR strR) okTab:=dStrP.slice Tryz.underlying25 Zk (Yah Zk)
def zwK:Dec prog 3 (intR .i64) (fun _=>True):=(Dec.int Tryz.underlying3 Zk).cast (fun a=>a) rfl (fun _=>rfl) fun _ _=>trivial
abbrev ArcT:=((Int×Int)×Str)×Int
abbrev arcTR:=zfv (zfv (zfv (intR .i64) (intR .i64)) strR) (intR .i64)
def okArc(p:ArcT):Prop:=p.1.2.length≤reachBytes
def dArc:Dec prog 46 arcTR okArc:=(Xy Tryz.underlying46 zwK zwK dStrP zwK rfl rfl rfl rfl Zk).cast (fun a=>a) rfl (fun _=>rfl) fun _ h=>h.1.2
def okArcs(l:List ArcT):Prop:=l.length≤reachBytes∧∀a∈l,okArc a
def dArcs:Dec prog 42 (slR arcTR) okArcs:=dArc.slice Tryz.underlying42 Zk (Yah Zk)
abbrev StaT:=Str×List ArcT
abbrev staTR:=zfv strR (slR arcTR)
def okSta(p:StaT):Prop:=p.1.length≤reachBytes∧okArcs p.2
def dSta:Dec prog 44 staTR okSta:=Dec.two Tryz.underlying44 dStrP dArcs rfl rfl Zk
def okStas(l:List StaT):Prop:=l.length≤reachBytes∧∀a∈l,okSta a
def dStas:Dec prog 22 (slR staTR) okStas:=dSta.slice Tryz.underlying22 Zk (Yah Zk)
abbrev zyP:=((Int×Int)×Str)×List StaT
abbrev machTR:=zfv (zfv (zfv (intR .i64) (intR .i64)) strR) (slR staTR)
def zu5(p:zyP):Prop:=p.1.2.length≤reachBytes∧okStas p.2
def dMach:Dec prog 24 machTR zu5:=(Xy Tryz.underlying24 zwK zwK dStrP dStas rfl rfl rfl rfl Zk).cast (fun a=>a) rfl (fun _=>rfl) fun _ h=>⟨h.1.2,h.2⟩
def zk3(p:ArcT):Arc:=⟨p.1.1.1,p.1.1.2,p.1.2,p.2⟩
def zk2(p:StaT):Sta:=⟨p.1,p.2.map zk3⟩
def toMach(p:zyP):Mach:=⟨p.1.1.1,p.1.1.2,p.1.2,p.2.map zk2⟩
def zm9(l:List Str):strR.cells l=strs l:=by
 induction l with
 |nil=>rfl
 |cons a l ih=>rw[Row.cells_cons,ih];rfl
theorem arc_enc(p:ArcT):arcTR.enc p=arcR.enc (zk3 p):=rfl
def arcs_enc(l:List ArcT):arcTR.cells l=arcs (l.map zk3):=by
 induction l with
 |nil=>rfl
 |cons a l ih=>rw[Row.cells_cons,ih,arc_enc];exact(arcR.cells_cons (zk3 a) (l.map zk3)).symm
def sta_enc(p:StaT):staTR.enc p=staR.enc (zk2 p):=by obtain⟨f,a⟩:=p;show [V.str f]++[V.fs (arcTR.cells a) a.length]=[V.str f,V.fs (arcs (a.map zk3)) (a.map zk3).length];rw[arcs_enc,Yan];rfl
def stas_enc(l:List StaT):staTR.cells l=stas (l.map zk2):=by
 induction l with
 |nil=>rfl
 |cons a l ih=>rw[Row.cells_cons,ih,sta_enc];exact(staR.cells_cons (zk2 a) (l.map zk2)).symm
def mach_enc(p:zyP):V.agg (machTR.enc p)=zad (toMach p):=by obtain⟨⟨⟨k,s⟩,l⟩,q⟩:=p;show V.agg ((([V.int .i64 k]++[V.int .i64 s])++[V.str l])++[V.fs (staTR.cells q) q.length])=V.agg [.int .i64 k,.int .i64 s,.str l,.fs (stas (q.map zk2)) (q.map zk2).length];rw[stas_enc,Yan];rfl
def zgS {n:Nat}(h:n≤reachBytes):n≤1000000000000000:=Yw h (by unfold reachBytes;omega)
def inP_of {p:zyP}{t:List Str}(h:zu5 p)(ht:okTab t):InP (toMach p) t:=by
 obtain⟨⟨⟨k,s⟩,l⟩,q⟩:=p;obtain⟨h1,h2,h3⟩:=h;refine⟨by show (q.map zk2).length≤_;rw[Yan];exact zgS h2,fun s hs=>?_,zgS ht.1,zgS h1,fun s hs=>?_,fun s hs a ha=>?_,fun j=>?_⟩
 ·obtain⟨x,hx,rfl⟩:=YZ.1 hs;show (x.2.map zk3).length≤_;rw[Yan];exact zgS (h3 x hx).2.1
 ·obtain⟨x,hx,rfl⟩:=YZ.1 hs;exact zgS (h3 x hx).1
 ·obtain⟨x,hx,rfl⟩:=YZ.1 hs;obtain⟨y,hy,rfl⟩:=YZ.1 ha;exact zgS ((h3 x hx).2.2 y hy)
 rw[Ya];by_cases hj:j<t.length
 ·rw[Yb hj];exact zgS (ht.2 _ (Y1 hj))
 rw[Yo Zo];exact Yk _
def flat2 {α β:Type}(f:α→β)(g:α→β):∀(zs:List α)(cs:List β),cs.length=zs.length*2→(∀i z,zs[i]? =some z→(cs.drop (i*2)).take 2=[f z,g z])→cs=zs.flatMap fun z=>[f z,g z]
 |[],cs,hl,_=>List.length_eq_zero_iff.1 (by simpa using hl)
 |z::r,cs,hl,h=>by
  have h0:=h 0 z rfl;rw[Ybo,YW]at h0;have ih:=flat2 f g r (cs.drop 2) (by rw[Yai,hl,Yv];omega) fun i y hy=>by have:=h (i+1) y (by simpa using hy);rw[YaR];rw[show 2+i*2=(i+1)*2 by omega];exact this
  rw[List.flatMap_cons,←ih,←h0,Yaf]
def cells_of_pairs {H:Type}{enc:TypeId×Value→H}{P:Program}{w:World}{base:Nat}{sp:Nat→Bool}{held:Bool}{fuel:Nat}{t e:TypeId}{n:Nat}{fs:Array Field}{cs:List Value}{zs:List (Int×Int)}{p:List MemPlace} (ht:P.underlying t=some (.array n e)) (hs:P.underlying e=some (.struct fs)) (hf:∀(i:Nat)(f:Field),fs[i]? =some f→P.underlying f.type=some (.int .u8)∧f.offset=i∧P.cellsOf f.type=1) (hfs:fs.size=2) (hce:P.cellsOf e=2) (hct:P.cellsOf t=n*2) (h:DataW.trod enc P w base sp held fuel t cs=some (.agg (zs.map fun z=>.agg ([z.1,z.2].map fun z=>.lit (.int .u8 z))),p)):cs=zs.flatMap fun z=>[Value.int .u8 z.1,Value.int .u8 z.2]:=by
 have he:=fun i hi=>Lib.array_elem ht h i hi;have hl:cs.length=n*2∧zs.length=n:=by
  cases fuel with
  |zero=>simp[DataW.trod]at h
  |succ fuel=>
   simp only[DataW.trod,ht,hct]at h;split at h
   ·rename_i hl;obtain⟨xs,hm,hx⟩:=YN.1 h;have hxl:xs.length=n:=by simpa using Lib.mapM_length hm
    have:=Ya1 (fun x=>match x.1 with| .agg l=>l.length|_=>0) hx;simp at this;exact⟨hl,Zo⟩
   cases h
 refine flat2 (fun z:Int×Int=>Value.int .u8 z.1) (fun z=>Value.int .u8 z.2) zs cs (by rw[hl.2];exact hl.1) fun i z hz=>?_;have hi:i<n:=by have:=(Ys.1 hz).1;omega
 obtain⟨fuel',d,q,h1,h2⟩:=he i hi;rw[YT,hz]at h1;cases h1;rw[hce]at h2;have:=Lib.ints_of_struct (zs:=[z.1,z.2]) hs hf (by rw[hce,hfs]) h2;exact this
end Go.Proofs

namespace Go.Proofs
open Tryz Go.Ab Go.Pl Go.Cnt
attribute [local go_sem] zaO
def rdB(l:ZL)(q:Int):Blk:=.cells [.fs (l.map zq) l.length,.int .i64 q]
def zuE {l l':ZL}{q q':Int}(h:some (rdB l q)=some (rdB l' q')):l=l'∧q=q':=by simp only[rdB,Yx,Blk.cells.injEq,Yt,V.fs.injEq,V.int.injEq,Yag,Yad]at h;exact⟨zd7 h.1.1,h.2⟩
def ziu {π:Nat→Nat}{N:Nat→Prop}(l:ZL)(q:Int):RnB π N (rdB l q) (rdB l q):=by
 refine .cells (zB fun x hx=>?_);rcases Yy.1 hx with rfl|hx
 ·exact .fs (zaj l)
 obtain rfl:=YB.1 hx;exact .int _ _
abbrev RSt:=ZL→Int→ZA→Option (V×ZL×Int)
def RdR(st:RSt)(args:ZA)(H:Hp)(r:AR):Prop:=
 ∃b l q rest v l' q',args=.ptr b 0::rest∧(∀b x,H.get b=some x→b<H.next)∧H.get b=some (rdB l q)∧st l q rest=some (v,l',q')∧r=⟨True,v,H.put b (rdB l' q'),[b],[b]⟩
def rdR_uniq {st:RSt}{args:ZA}{H:Hp}{r r':AR}(h:RdR st args H r)(h':RdR st args H r'):r'=r:=by obtain⟨b,l,q,rest,v,l1,q1,rfl,_,hb,hs,rfl⟩:=h;obtain⟨b',l',q',rest',v',l2,q2,he,_,hb',hs',rfl⟩:=h';simp only[Yt,V.ptr.injEq,Yad]at he;obtain⟨rfl,rfl⟩:=he;rw[hb]at hb';obtain⟨rfl,rfl⟩:=zuE hb';rw[hs]at hs';cases hs';rfl
def zrv {st:RSt}{b n:Nat}{l:ZL}{q:Int}{rest:ZA}{v:V}{l':ZL}{q':Int}{bs:ZH}{nx:Nat}(hb:zG bs b=some (.cells [.fs (l.map zq) n,.int .i64 q]))(hn:n=l.length) (hs:st l q rest=some (v,l',q')) (hk:((keysB bs).all fun b=>decide (b<nx))=true):conD (RdR st) (.ptr b 0::rest) ⟨bs,nx⟩=some ⟨True,v,(⟨bs,nx⟩:Hp).put b (.cells [.fs (l'.map zq) l'.length,.int .i64 q']),[b],[b]⟩:=by
 subst hn;have hR:RdR st (.ptr b 0::rest) ⟨bs,nx⟩ ⟨True,v,(⟨bs,nx⟩:Hp).put b (rdB l' q'),[b],[b]⟩:=
  ⟨b,l,q,rest,v,l',q',rfl,zaZ hk,(zC bs b).trans hb,hs,rfl⟩
 exact zan hR fun r' h'=>rdR_uniq hR h'
def zlu {f:FuncId}{st:RSt} (h:∀l q rest v l' q',st l q rest=some (v,l',q')→Pure v∧(∀x∈rest,Pure x)∧NCall prog f (.ptr 0 0::rest) [rdB l q] [0] v ⟨[(0,rdB l' q')],1⟩):∀args H r,RdR st args H r→HCall prog f args H r:=by
 rintro args H r ⟨b,l,q,rest,v,l',q',rfl,hk,hb,hs,rfl⟩;obtain⟨hv,hp,hN⟩:=h l q rest v l' q' hs;have tb:zu [b] H.next b=0:=by unfold zu;rw[Yi (hk b _ hb)];simp
 refine HCall.of hN [b] _ v H (H.put b (rdB l' q')) rfl Zs (zbQ (Yaz _) rfl hp) (fun i x hx=>?_) (.same hv) (by show H.next+1=H.next+1;rfl) (fun b' x' hx'=>?_) (fun b' hb' hw=>?_)
 ·match i with
  |0=>cases hx;exact⟨b,_,rfl,hb,ziu l q⟩
  |i+1=>simp at hx
 ·rw[Xd]at hx';split at hx'
  ·rename_i he;subst he;rw[hb]at hx';cases hx';refine .inr ⟨.inl Zs,rdB l' q',?_,ziu l' q'⟩;rw[tb];rfl
  rename_i he;exact .inl ⟨hk b' _ hx',by simp[he],hx'⟩
 have h2:b'≠b:=by simpa using hw
 rw[Xd,Ye h2]
def zxu:ZV:=zL (fun _:Unit=>[.bool true]) (fun _=>True) fun _=>.ret (.tup [])
def zcT:zxu [.bool true]=some (.ret (.tup [])):=zo (pat:=fun _:Unit=>[V.bool true]) (fun _ _ _=>rfl) () trivial
def pmust_ok:PCall prog 73 [.bool true] (.ret (.tup [])):=by refine Xa (rs:=[]) [0,3] [] mixed (zh) (zg) call73 func73 rfl ntmps73 rfl ?_;simp only[go_sem]
def zbC:ZC zxu 73:=zn fun _ _=>pmust_ok
def zlm:RSt:=fun l q rest=>match rest with
 |[.int .i64 n]=>if 0≤n∧n≤l.length∧l.length≤90000000 then some (.fs ((l.take n.toNat).map zq) n.toNat,l.drop n.toNat,q)else none
 |_=>none
def take_N(l:ZL)(q:Int)(n:Nat)(hn:n≤l.length)(hl:l.length≤90000000):NCall prog 70 [.ptr 0 0,.int .i64 n] [rdB l q] [0] (.fs ((l.take n).map zq) n) ⟨[(0,rdB (l.drop n) q)],1⟩:=by
 unfold rdB;have hld:(l.drop n).length=l.length-n:=Yai;have dM:decide ((n:Int)≤l.length)=true:=Yf Zo;have tT:(l.map zq).take n=(l.take n).map zq:=by rw[List.map_take]
 have tD:(l.map zq).drop n=(l.drop n).map zq:=by rw[Yb5]
 have tL:(l.map zq).take l.length=l.map zq:=Yp Zs;rw[hld];refine Xi (rs:=[.tmp 4]) [0,1,4,5] [] 1 [0] mixed (zf zbC zh) (zg) call70 func70 rfl ntmps70 rfl Zk Zs Zs Zs Zs ?_;simp(disch:=try exact Zq)only[go_sem,dM,zcT,tT,tD,tL];refine⟨⟨Zo,Zo,Zs⟩,⟨Zo,Zo,Zo,Zs⟩,rfl,[(4,.fs ((l.take n).map zq) n)],Xg [] rfl Zg Zg Zd ?_,rfl⟩;exact ZD
def take_ok:∀args H r,RdR zlm args H r→HCall prog 70 args H r:=zlu fun l q rest v l' q' hs=>by
 unfold zlm at hs;split at hs
 ·rename_i n;split at hs
  ·rename_i hx;cases hs;obtain⟨n,rfl⟩:∃m:Nat,n=m:=⟨n.toNat,Zo⟩;exact⟨.fs (zaj _),by simp[zaz],take_N l q n Zo hx.2.2⟩
  cases hs
 cases hs
def Δt:FuncId→ZA→Hp→Option AR:=zaQ 70 (conD (RdR zlm)) noΔ
def zih:zay prog Δt:=zK (zT take_ok) zg
def zgg(b n:Nat)(c:UInt8)(l:ZL)(q:Int)(bs:ZH)(nx:Nat)(hb:zG bs b=some (.cells [.fs ((c::l).map zq) n,.int .i64 q]))(hn:n=l.length+1)(hl:l.length≤80000000)(hk:((keysB bs).all fun b=>decide (b<nx))=true):Δt 70 [.ptr b 0,.int .i64 1] ⟨bs,nx⟩=some ⟨True,.fs [.int .u8 (c.toNat:Nat)] 1,(⟨bs,nx⟩:Hp).put b (.cells [.fs (l.map zq) l.length,.int .i64 q]),[b],[b]⟩:=
 zrv (st:=zlm) (l:=c::l) (v:=.fs [zq c] 1) (l':=l) (q':=q) hb hn (Yi ⟨Zd,by show (1:Int)≤((l.length+1:Nat):Int);omega,by show l.length+1≤_;omega⟩) hk
def vdec:Nat→ZL→Option (Nat×ZL)
 |0,_=>none
 |_+1,[]=>none
 |k+1,c::l=>if c.toNat<128 then some (c.toNat,l)else(vdec k l).map fun p=>(c.toNat%128+128*p.1,p.2)
def zb3:∀(k:Nat)(l:ZL)(n:Nat)(r:ZL),vdec k l=some (n,r)→n<128^k∧r.length<l.length
 |0,_,_,_,h=>by cases h
 |_+1,[],_,_,h=>by cases h
 |k+1,c::l,n,r,h=>by
  rw[vdec]at h;split at h
  ·rename_i hc;cases h;refine⟨?_,YD _⟩;have:0<128^k:=Ycg Zd;rw[YG];omega
  obtain⟨⟨m,s⟩,h1,h2⟩:=YN.1 h;obtain⟨g1,g2⟩:=zb3 k l m s h1;cases h2;refine⟨?_,by show s.length<l.length+1;omega⟩;show c.toNat%128+128*m<128^(k+1);rw[YG];omega
def zkX:∀(k n:Nat)(r:ZL),n<128^(k+1)→vdec (k+1) (varF k n++r)=some (n,r)
 |0,n,r,h=>by
  have h':n<128:=by simpa using h
  show vdec 1 (UInt8.ofNat n::r)=_;rw[vdec,UInt8.toNat_ofNat',Yi Zo,Ybi Zo]
 |k+1,n,r,h=>by
  rw[varF];split
  ·rename_i hc;show vdec (k+2) (UInt8.ofNat n::r)=_;rw[vdec,UInt8.toNat_ofNat',Yi Zo,Ybi Zo]
  rename_i hc;have e:(UInt8.ofNat (n%128+128)).toNat=n%128+128:=by rw[UInt8.toNat_ofNat'];omega
  show vdec (k+2) (UInt8.ofNat (n%128+128)::(varF k (n/128)++r))=_;rw[vdec,e,Ye Zo,zkX k (n/128) r (Nat.div_lt_of_lt_mul (by rw[Yac,←YG];exact h))];show some ((n%128+128)%128+128*(n/128),r)=_;rw[show (n%128+128)%128+128*(n/128)=n by omega]
def rxVar:RSt:=fun l q rest=>match rest with
 |[.int .i64 most]=>if l.length≤80000000 then(vdec 5 l).bind fun p=>if (p.1:Int)≤most then some (.int .i64 p.1,p.2,q)else none else none
 |_=>none
def and127(x:Nat)(h:x<256):Go.bits .and .u8 (x:Int) 127=((x%128:Nat):Int):=by rw[show (127:Int)=((127:Nat):Int)from rfl,u8_and_nat _ _ Zo Zo];exact Ya1 _ (Nat.and_two_pow_sub_one_eq_mod x 7)
def or_i64(a b:Nat)(ha:a<9223372036854775808)(hb:b<9223372036854775808):Go.bits .or .i64 (a:Int) (b:Int)=((a|||b:Nat):Int):=by
 unfold Go.bits;have h1:(BitVec.ofInt 64 (a:Int)).toNat=a:=by simp;omega
 have h1':(BitVec.ofInt 64 (b:Int)).toNat=b:=by simp;omega
 have h2:(BitVec.ofInt 64 (a:Int)|||BitVec.ofInt 64 (b:Int)).toNat=a|||b:=by rw[BitVec.toNat_or,h1,h1']
 show IntKind.i64.wrap (((BitVec.ofInt 64 (a:Int)|||BitVec.ofInt 64 (b:Int)).toNat:Nat):Int)=_;rw[h2];have h3:a|||b<2^63:=Nat.or_lt_two_pow (show a<2^63 by omega) (show b<2^63 by omega)
 exact wrap_i64 _ Zo Zo
def zu4(s a x:Nat)(h:a<2^s):a|||(x*2^s)=a+x*2^s:=by rw[Nat.or_comm,Yac,←Nat.two_pow_add_eq_or_of_lt h,Nat.add_comm]
attribute [local go_sem] zaO
def or_joinK(s a x K:Nat)(hK:K=2^s)(h:a<K):a|||(x*K)=a+x*K:=by subst hK;exact zu4 s a x h
def xvar_N(l:ZL)(q:Int)(most:Int)(n:Nat)(r:ZL)(hl:l.length≤80000000)(hv:vdec 5 l=some (n,r))(hm:(n:Int)≤most):NCall prog 71 [.ptr 0 0,.int .i64 most] [rdB l q] [0] (.int .i64 n) ⟨[(0,rdB r q)],1⟩:=by
 unfold rdB;refine Xi (rs:=[.tmp 4]) [0,1,4,5,6,7,9,24] [] 1 [0] mixed (zf zbC zh) (zih) call71 func71 rfl ntmps71 rfl Zk Zs Zs Zs Zs ?_;simp only[go_sem];refine AXs.loop mixed (zf zbC zh) (zih) (ι:=Nat×Nat×ZL) (fun i=>[(6,.int .i64 ((7*i.1:Nat):Int)),(5,.int .i64 (i.2.1:Nat)),(4,.int .i64 0),(1,.int .i64 most),(0,.ptr 0 0)]) (fun i=>⟨[(0,.cells [.fs (i.2.2.map zq) i.2.2.length,.int .i64 q])],1⟩) (fun i=>i.2.2.length≤80000000∧i.2.1<2^(7*i.1)∧(vdec (5-i.1) i.2.2).map (fun p=>(i.2.1+p.1*2^(7*i.1),p.2))=some (n,r)) (fun i=>5-i.1) (0,0,l) Zk ⟨hl,by show 0<2^0;decide,by simp[hv]⟩ (Xg [] rfl ?_ ?_ ?_ ?_) ?_
 ·simp only[go_sem]
 ·simp only[go_sem]
 ·decide
 ·exact ZD
 rintro⟨k,a,d⟩ ⟨h1,h2,h3⟩;dsimp only at h1 h2 h3;obtain⟨⟨m,r'⟩,g1,g2⟩:=YN.1 h3;have hk:k<5:=by
  rcases YaJ k 5 with h|h
  ·exact h
  rw[show 5-k=0 by omega]at g1;cases g1
 obtain⟨j,hj⟩:∃j,5-k=j+1:=⟨4-k,Zo⟩;rw[hj]at g1;cases d with
 |nil=>cases g1
 |cons c d=>
  have d0:decide (((7*k:Nat):Int)<35)=true:=Yf Zo;have hc:c.toNat<256:=c.toNat_lt;have h1':d.length+1≤80000000:=h1;have eA:=and127 c.toNat hc;simp(disch:=try exact Zp)only[go_sem,d0,zgg,eA];obtain⟨K,hK⟩:∃K,K=2^(7*k):=⟨_,rfl⟩;have hKb:K≤268435456:=by have h:2^(7*k)≤2^28:=YL Zd (show 7*k≤28 by omega);rw[hK];exact Yw h Zd
  have haK:a<K:=hK▸h2;have haB:a<9223372036854775808:=Yu haK (Yw hKb Zd);have hx:c.toNat%128*K≤127*K:=YI _ Zo;have eS:IntKind.i64.wrap (((c.toNat%128:Nat):Int)*2^(7*k))=((c.toNat%128*K:Nat):Int):=by rw[show ((c.toNat%128:Nat):Int)*2^(7*k)=((c.toNat%128*K:Nat):Int)by rw[hK];push_cast;rfl];exact wrap_i64 _ Zo Zo
  have eO:Go.bits .or .i64 (a:Int) ((c.toNat%128*K:Nat):Int)=((a+c.toNat%128*K:Nat):Int):=by exact(or_i64 _ _ haB Zo).trans (Ya1 _ (or_joinK (7*k) a _ K hK haK))
  have e7:((7*k:Nat):Int)+7=((7*(k+1):Nat):Int):=Zo;rw[←hK]at h2 g2;refine⟨rfl,⟨Zo,Zo⟩,?_⟩;refine Xc (fun hc'=>?_) (fun hc'=>?_)
  ·have hc2:c.toNat<128:=Zo;rw[vdec,Yi hc2]at g1;cases g1;dsimp only at g2;cases g2;have em:c.toNat%128=c.toNat:=Zo;rw[em]at eS eO;have dM:decide (((a+c.toNat*K:Nat):Int)≤most)=true:=Yf hm;simp(disch:=try exact Zp)only[go_sem,em,eS,eO,dM,zcT];refine⟨[(4,.int .i64 ((a+c.toNat*K:Nat):Int))],Xg [] rfl Zg Zg Zd ?_,rfl⟩;exact ZD
  have hc2:¬c.toNat<128:=Zo;rw[vdec,Ye hc2]at g1;obtain⟨⟨m',r2⟩,f1,f2⟩:=YN.1 g1;obtain⟨rfl,rfl⟩:c.toNat%128+128*m'=m∧r2=r':=by simpa using f2
  obtain⟨rfl,rfl⟩:a+(c.toNat%128+128*m')*K=n∧r2=r:=by simpa using g2
  have hK':2^(7*(k+1))=K*128:=by rw[hK,show 7*(k+1)=7*k+7 by omega,YbP]
  simp(disch:=try exact Zp)only[go_sem,eS,eO,e7];refine zi (k+1,a+c.toNat%128*K,d) ⟨by show d.length≤_;omega,?_,?_⟩ (by show 5-(k+1)<5-k;omega) (Xg [] rfl ?_ ?_ Zd ?_)
  ·show a+c.toNat%128*K<2^(7*(k+1));rw[hK'];omega
  ·show (vdec (5-(k+1)) d).map _=_;rw[show 5-(k+1)=j by omega,f1];show some (a+c.toNat%128*K+m'*2^(7*(k+1)),r2)=_;rw[hK',show a+c.toNat%128*K+m'*(K*128)=a+(c.toNat%128+128*m')*K by rw[Y5,show 128*m'*K=m'*(K*128)by rw[Yac 128 m',YY,Yac 128 K]];omega]
  ·simp only[go_sem]
  ·simp only[go_sem]
  exact ZD
def xvar_ok:∀args H r,RdR rxVar args H r→HCall prog 71 args H r:=zlu fun l q rest v l' q' hs=>by
 unfold rxVar at hs;split at hs
 ·rename_i most;split at hs
  ·rename_i hx;obtain⟨⟨n,r⟩,h1,h2⟩:=Option.bind_eq_some_iff.1 hs;dsimp only at h2;split at h2
   ·rename_i hm;cases h2;exact⟨.int _ _,by simp[zaz],xvar_N l q most n l' hx h1 hm⟩
   cases h2
  cases hs
 cases hs
def Δv:FuncId→ZA→Hp→Option AR:=zaQ 71 (conD (RdR rxVar)) Δt
def zkQ:zay prog Δv:=zK (zT xvar_ok) zih
def zcZ(b k n:Nat)(l r:ZL)(q most:Int)(bs:ZH)(nx:Nat)(hv:vdec 5 l=some (n,r))(hb:zG bs b=some (.cells [.fs (l.map zq) k,.int .i64 q]))(hn:k=l.length)(hl:l.length≤80000000)(hm:(n:Int)≤most)(hk:((keysB bs).all fun b=>decide (b<nx))=true):Δv 71 [.ptr b 0,.int .i64 most] ⟨bs,nx⟩=some ⟨True,.int .i64 n,(⟨bs,nx⟩:Hp).put b (.cells [.fs (r.map zq) r.length,.int .i64 q]),[b],[b]⟩:=
 zrv (st:=rxVar) (l:=l) (l':=r) (q':=q) hb hn ((Yi hl).trans (by rw[hv];exact Yi hm)) hk
def zoX(b k m:Nat)(l:ZL)(q:Int)(bs:ZH)(nx:Nat)(hb:zG bs b=some (.cells [.fs (l.map zq) k,.int .i64 q]))(hn:k=l.length)(hl:l.length≤80000000)(hm:m≤l.length)(hk:((keysB bs).all fun b=>decide (b<nx))=true):Δv 70 [.ptr b 0,.int .i64 m] ⟨bs,nx⟩=some ⟨True,.fs ((l.take m).map zq) m,(⟨bs,nx⟩:Hp).put b (.cells [.fs ((l.drop m).map zq) (l.drop m).length,.int .i64 q]),[b],[b]⟩:=
 zrv (st:=zlm) (l:=l) (v:=.fs ((l.take m).map zq) m) (l':=l.drop m) (q':=q) hb hn (Yi ⟨Zo,Zo,Zo⟩) hk
def numR:Nat→Nat→ZL→Nat→Option (Nat×ZL×Nat)
 |0,n,l,q=>some (n,l,q)
 |_+1,_,[],_=>none
 |k+1,n,c::l,q=>if q=7 then numR k (2*n+c.toNat/2^(7-q)%2) l 0 else numR k (2*n+c.toNat/2^(7-q)%2) (c::l) (q+1)
def rxNum:RSt:=fun l q rest=>match rest with
 |[.int .i64 z]=>if 0≤z∧z≤60∧0≤q∧q≤7∧l.length≤80000000 then(numR z.toNat 0 l q.toNat).map fun p=>(.int .i64 p.1,p.2.1,(p.2.2:Int))else none
 |_=>none
def u8_and1(x:Nat)(h:x<256):Go.bits .and .u8 (x:Int) 1=((x%2:Nat):Int):=by rw[show (1:Int)=((1:Nat):Int)from rfl,u8_and_nat _ _ Zo Zo];exact Ya1 _ (Nat.and_two_pow_sub_one_eq_mod x 1)
def or_bit(n b:Nat)(hn:n<4611686018427387904)(hb:b<2):Go.bits .or .i64 ((n:Int)*2) (b:Int)=((2*n+b:Nat):Int):=by rw[show (n:Int)*2=((n*2:Nat):Int)by push_cast;rfl,or_i64 _ _ Zo Zo,Nat.or_comm];have:=zu4 1 b n Zo;rw[Nat.or_comm]at this;rw[Nat.or_comm,show n*2=n*2^1 from rfl,this];congr 1;omega
def xnum_N(l:ZL)(q z n:Nat)(r:ZL)(q':Nat)(hl:l.length≤80000000)(hz:z≤60)(hq:q≤7)(hv:numR z 0 l q=some (n,r,q')):NCall prog 74 [.ptr 0 0,.int .i64 z] [rdB l q] [0] (.int .i64 n) ⟨[(0,rdB r q')],1⟩:=by
 unfold rdB;refine Xi (rs:=[.tmp 4]) [0,1,4,5,6,7,43] [] 1 [0] mixed (zf zbC zh) (zih) call74 func74 rfl ntmps74 rfl Zk Zs Zs Zs Zs ?_;simp only[go_sem];refine AXs.loop mixed (zf zbC zh) (zih) (ι:=Nat×Nat×ZL×Nat) (fun i=>[(6,.int .i64 (i.1:Nat)),(5,.int .i64 (z:Nat)),(4,.int .i64 (i.2.1:Nat)),(0,.ptr 0 0)]) (fun i=>⟨[(0,.cells [.fs (i.2.2.1.map zq) i.2.2.1.length,.int .i64 (i.2.2.2:Nat)])],1⟩) (fun i=>i.1≤z∧i.2.1<2^i.1∧i.2.2.1.length≤80000000∧i.2.2.2≤7∧numR (z-i.1) i.2.1 i.2.2.1 i.2.2.2=some (n,r,q')) (fun i=>z-i.1) (0,0,l,q) Zk ⟨Yk _,by show 0<2^0;decide,hl,hq,hv⟩ (Xg [] rfl ?_ ?_ ?_ ?_) ?_
 ·simp only[go_sem]
 ·simp only[go_sem]
 ·decide
 ·exact ZD
 rintro⟨k,a,d,p⟩ ⟨h1,h2,h3,h4,h5⟩;dsimp only at h1 h2 h3 h4 h5;simp only[go_sem];refine Xc (fun hc=>?_) (fun hc=>?_)
 ·obtain⟨j,hj⟩:∃j,z-k=j+1:=⟨z-k-1,Zo⟩;rw[hj]at h5;cases d with
  |nil=>cases h5
  |cons c d=>
   have hcl:c.toNat<256:=c.toNat_lt;have h3':d.length+1≤80000000:=h3;have dG:decide ((0:Int)<((d.length+1:Nat):Int))=true:=Yf Zo;have e7:(7:Int)-(p:Nat)=((7-p:Nat):Int):=Zo;have eb:zq c=.int .u8 ((c.toNat:Nat):Int):=rfl;obtain⟨x,hx⟩:∃x,x=c.toNat/2^(7-p):=⟨_,rfl⟩;have hxl:x≤c.toNat:=by rw[hx];exact Yca _ _
   have eS:((c.toNat:Nat):Int)/2^(7-p)=(x:Int):=by rw[hx];push_cast;rfl
   have eA:=u8_and1 x Zo;have ha:a<576460752303423488:=Yu h2 (Yw (YL Zd (show k≤59 by omega)) Zd);have eL:IntKind.i64.wrap ((a:Int)*2^1)=(a:Int)*2:=by rw[show (a:Int)*2^1=((a*2:Nat):Int)by push_cast;rfl,wrap_i64 _ Zo Zo];push_cast;rfl
   have eO:=or_bit a (x%2) Zo Zo;have ek:(k:Int)+1=((k+1:Nat):Int):=Zo;have ep:(p:Int)+1=((p+1:Nat):Int):=Zo;have h2':2*a+x%2<2^(k+1):=by rw[YG];omega
   rw[numR,←hx]at h5;simp(disch:=try exact Zp)only[go_sem,dG,zcT,e7,eb,eS,eA,eL,eO];refine⟨Zo,Zs,⟨Zo,Zo⟩,rfl,?_⟩;refine Xc (fun hc'=>?_) (fun hc'=>?_)
   ·obtain rfl:p=7:=Zo;rw[Yi rfl]at h5;simp(disch:=try exact Zp)only[go_sem,zgg,eb,ek];refine⟨rfl,rfl,zi (k+1,2*a+x%2,d,0) ⟨by show k+1≤z;omega,h2',by show d.length≤_;omega,by show 0≤7;omega,?_⟩ (by show z-(k+1)<z-k;omega) (Xg [] rfl ?_ ?_ Zd ?_)⟩
    ·show numR (z-(k+1)) _ _ _=_;rw[show z-(k+1)=j by omega];exact h5
    ·simp only[go_sem]
    ·simp only[go_sem]
    exact ZD
   rw[Ye (show ¬p=7 by omega)]at h5;simp(disch:=try exact Zp)only[go_sem,eb,ek,ep];refine zi (k+1,2*a+x%2,c::d,p+1) ⟨by show k+1≤z;omega,h2',h3,by show p+1≤7;omega,?_⟩ (by show z-(k+1)<z-k;omega) (Xg [] rfl ?_ ?_ Zd ?_)
   ·show numR (z-(k+1)) _ _ _=_;rw[show z-(k+1)=j by omega];exact h5
   ·simp only[go_sem]
   ·simp(disch:=try exact Zq)only[go_sem,eb,List.forall_mem_cons,zaz]
   exact ZD
 obtain rfl:k=z:=Zo;rw[YaK]at h5;cases h5;refine AXa.go mixed (zf zbC zh) (zih) Zk ?_;simp(disch:=try exact Zp)only[go_sem];refine⟨[(4,.int .i64 (n:Nat))],Xg [] rfl Zg Zg Zd ?_,rfl⟩;exact ZD
def xnum_ok:∀args H r,RdR rxNum args H r→HCall prog 74 args H r:=zlu fun l q rest v l' q' hs=>by
 unfold rxNum at hs;split at hs
 ·rename_i z;split at hs
  ·rename_i hx;obtain⟨⟨n,r,p⟩,h1,h2⟩:=YN.1 hs;cases h2;obtain⟨z,rfl⟩:∃m:Nat,z=m:=⟨z.toNat,Zo⟩;obtain⟨q,rfl⟩:∃m:Nat,q=m:=⟨q.toNat,Zo⟩;exact⟨.int _ _,by simp[zaz],xnum_N l q z n r p hx.2.2.2.2 Zo Zo h1⟩
  cases hs
 cases hs
def Δnu:FuncId→ZA→Hp→Option AR:=zaQ 74 (conD (RdR rxNum)) Δv
def ztq:zay prog Δnu:=zK (zT xnum_ok) zkQ
def zc0(b k n q z q':Nat)(l r:ZL)(bs:ZH)(nx:Nat)(hv:numR z 0 l q=some (n,r,q'))(hb:zG bs b=some (.cells [.fs (l.map zq) k,.int .i64 (q:Nat)]))(hn:k=l.length)(hl:l.length≤80000000)(hz:z≤60)(hq:q≤7)(hk:((keysB bs).all fun b=>decide (b<nx))=true):Δnu 74 [.ptr b 0,.int .i64 z] ⟨bs,nx⟩=some ⟨True,.int .i64 n,(⟨bs,nx⟩:Hp).put b (.cells [.fs (r.map zq) r.length,.int .i64 (q':Nat)]),[b],[b]⟩:=
 zrv (st:=rxNum) (l:=l) (l':=r) (q':=q') hb hn ((Yi ⟨Zo,Zo,Zo,Zo,hl⟩).trans (by rw[Yq,Yq,hv];rfl)) hk
end Go.Proofs
