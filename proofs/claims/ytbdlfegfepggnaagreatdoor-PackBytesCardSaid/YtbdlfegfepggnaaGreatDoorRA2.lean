/- The law abugidalaw41.PackBytes holds for all machines and tables. -/
import Derived.Test.YtbdlfegfepggnaaGreatDoorAbDefer
import Derived.Lib.LaidU8
import Derived.Test.YtbdlfegfepggnaaGreatDoorCards
import Derived.Test.YtbdlfegfepggnaaGreatDoorTie
import Derived.ProofKit
import Derived.LaidMore
import Derived.Lay
import Derived.MakeChecks
import Derived.OpenShut
import Derived.Stop.Joined
import Derived.Stop.LaidErr
import Derived.SevenTiedAt
import Derived.Lib.LaidTab
import Derived.Carry
set_option linter.all false
set_option maxHeartbeats 16000000
set_option maxRecDepth 100000
noncomputable section
namespace Go.Proofs
open Tryz Go.Ab Go.Pl Go.Cnt
def zix(l:ZL):(∀x∈l.map zt,Pure x)↔True:=⟨fun _=>trivial,fun _=>zad l⟩
attribute [local go_sem] zix znG zzj zjQ zzi zcA
def bytes_at(l:ZL)(i:Nat)(h:i<l.length):(l.map zt).drop i=.int .u8 ((l.getD i 0).toNat:Nat)::(l.map zt).drop (i+1):=by rw[Yas (by simpa using h)];simp[h,zt]
def zu1(l:ZL)(hl:l.length≤100000000):PCall prog 33 [.fs (l.map zt) l.length] (.ret (.fs ((sumB l).map zt) 4)):=by
 refine PCall.walk (rs:=[.tmp 2]) [0,2,3,4,6,8,9,10,11] [] mixed (zg zgn zh) (zf) call33 func33 rfl ntmps33 rfl Zk Zs (by simp[push_cast,zcA]) ?_;have hz:=zly 0 (crow 0) (zbW (Yk _));have hl0:=zbW (Yk 256);have hl2:=zbW (Yc 256);simp(disch:=try exact Zq)only[go_sem,zzN,hz,hl0,hl2];refine⟨zlz 256,AXs.loop mixed (zg zgn zh) (zf) (ι:=Nat) (fun i=>[(10,.int .i64 i),(9,.int .i64 l.length),(8,.fs (l.map zt) l.length),(4,.int .u32 (crcU (l.take i) 4294967295:Nat)),(3,.ptr 0 0)]) (fun _=>⟨[(0,.cells (crow 256))],1⟩) (fun i=>i≤l.length) (fun i=>l.length-i) 0 Zk (Yk _) (Xa [] rfl rfl ?_ ?_) ?_⟩
 ·simp only[go_sem];rfl
 ·simp only[go_sem]
 intro i hi0;obtain⟨c,hc0⟩:∃c,c=crcU (l.take i) 4294967295:=⟨_,rfl⟩;have hcl:c<4294967296:=hc0▸zzk _ _ Zd;rw[←hc0];simp(disch:=try exact Zq)only[go_sem];refine Xb (fun hc=>?_) (fun hc=>?_)
 ·have hi:i<l.length:=Zo;have hst:=znH l i 4294967295 hi;rw[←hc0]at hst;have hx:=(l.getD i 0).toNat_lt;have atb:=bytes_at l i hi;have e1:IntKind.u8.wrap (c:Int)=((c%256:Nat):Int):=by rw[IntKind.wrap_u8'];omega
  have e2:=xor_u8 (c%256) (l.getD i 0).toNat Zo hx;have h1:(c%256)^^^(l.getD i 0).toNat<2^8:=Nat.xor_lt_two_pow (n:=8) Zo hx;have e3:=zrZ (i:=256) (k:=(c%256)^^^(l.getD i 0).toNat) h1 (Yc _);have e4:(c:Int)/2^8=((c/256:Nat):Int):=Zo;have h2:crcT ((c%256)^^^(l.getD i 0).toNat)<4294967296:=zpX Zo;have e5:=u32_xor_nat (crcT ((c%256)^^^(l.getD i 0).toNat)) (c/256) h2 Zo;have ei:(i:Int)+1=((i+1:Nat):Int):=Zo;simp(disch:=try exact Zq)only[go_sem,atb,e1,e2,e3,e4,e5,ei,hl2];rw[←hst];exact⟨⟨Zo,Zo⟩,by rw[Y5];omega,⟨Zo,Zo⟩,h1,zi (i+1) hi (by show l.length-(i+1)<l.length-i;omega) (Xa [] rfl rfl Zg Zg)⟩
 obtain rfl:i=l.length:=Zo;rw[Ym]at hc0;have eX:Go.bits .xor .u32 4294967295 (c:Int)=((crcE l:Nat):Int):=by rw[show (4294967295:Int)=((4294967295:Nat):Int)from rfl,u32_xor_nat _ _ Zd hcl,hc0];rfl
 have w0:IntKind.u8.wrap ((crcE l:Nat):Int)=((crcE l:Nat):Int)%256:=IntKind.wrap_u8' _;have w1:IntKind.u8.wrap (((crcE l:Nat):Int)/2^8)=((crcE l/256:Nat):Int)%256:=by rw[IntKind.wrap_u8'];omega
 have w2:IntKind.u8.wrap (((crcE l:Nat):Int)/2^16)=((crcE l/65536:Nat):Int)%256:=by rw[IntKind.wrap_u8'];omega
 have w3:IntKind.u8.wrap (((crcE l:Nat):Int)/2^24)=((crcE l/16777216:Nat):Int)%256:=by rw[IntKind.wrap_u8'];omega
 simp(disch:=try exact Zq)only[go_sem];refine AXa.go mixed (zg zgn zh) (zf) Zk ?_;have eM:(if IntKind.u32.signed=true then(-1:Int)else IntKind.u32.max)=4294967295:=Zd;have eB:(sumB l).map zt=[V.int .u8 (((crcE l/16777216:Nat):Int)%256),V.int .u8 (((crcE l/65536:Nat):Int)%256),V.int .u8 (((crcE l/256:Nat):Int)%256),V.int .u8 (((crcE l:Nat):Int)%256)]:=by rw[byte_of,byte_of,byte_of,byte_of];rfl
 rw[eB];simp(disch:=try exact Zq)only[go_sem,eM,eX,w0,w1,w2,w3];exact Xt (cs:=[V.int .u8 (((crcE l/16777216:Nat):Int)%256),V.int .u8 (((crcE l/65536:Nat):Int)%256),V.int .u8 (((crcE l/256:Nat):Int)%256),V.int .u8 (((crcE l:Nat):Int)%256)]) rfl Zs Zs (by simp[zbs])
def cSumP:ZV:=zC (fun l:ZL=>[.fs (l.map zt) l.length]) (fun l=>l.length≤100000000) fun l=>.ret (.fs ((sumB l).map zt) 4)
def zgq {x y:ZL}(h:x.map zt=y.map zt):x=y:=zda (by unfold bly;rw[h])
def cSumP_eq(l:ZL)(n:Nat)(hn:n=l.length)(h:l.length≤100000000):cSumP [.fs (l.map zt) n]=some (.ret (.fs ((sumB l).map zt) 4)):=by subst hn;exact zo (pat:=fun l:ZL=>[V.fs (l.map zt) l.length]) (fun x y h=>by simp only[Yw,V.fs.injEq,Yap]at h;exact zgq h.1) l h
def cSumP_ok:ZC cSumP 33:=zn zu1
def cEql:ZV:=zC (fun p:ZL×ZL=>[.fs (p.1.map zt) p.1.length,.fs (p.2.map zt) p.2.length]) (fun _=>True) fun p=>.ret (.bool (decide (p.1=p.2)))
def zAw(a b:ZL)(n m:Nat)(hn:n=a.length)(hm:m=b.length):cEql [.fs (a.map zt) n,.fs (b.map zt) m]=some (.ret (.bool (decide (a=b)))):=by subst hn hm;exact zo (pat:=fun p:ZL×ZL=>[V.fs (p.1.map zt) p.1.length,V.fs (p.2.map zt) p.2.length]) (fun x y h=>by simp only[Yw,V.fs.injEq,Yap]at h;exact Yai (zgq h.1.1) (zgq h.2.1)) (a,b) trivial
def cEql_ok:ZC cEql 45:=zn fun p _=>equal_ok p.1 p.2
def cRdX(a v:V):ZV:=zC (fun _:Unit=>[a]) (fun _=>True) fun _=>.ret v
def cRdX_eq(a v:V):cRdX a v [a]=some (.ret v):=zo (pat:=fun _:Unit=>[a]) (fun _ _ _=>rfl) () trivial
def cRdX_ok {a v:V}(h:PCall prog 46 [a] (.ret v)):∀args r,cRdX a v args=some r→PCall prog 46 args r:=zn fun _ _=>h
def zme(l:ZL)(h:l.length<9):PCall prog 11 [.fs (l.map zt) l.length] (.ret (.tup [zU ⟨0,0,[],[]⟩,.fs [] 0,.int .i64 10])):=by have d0:decide ((l.length:Int)<9)=true:=Yf Zo;refine PCall.walk (rs:=[.cell 2 24,.tmp 3,.tmp 4]) [0,2,3,4,5,6,7,8,11,21,36,62] [] mixed (zh) (zf) call11 func11 rfl ntmps11 rfl Zk Zs (by simp[push_cast,zcA]) ?_;simp(disch:=try exact Zq)only[go_sem,d0];exact zek 20 _ _ rfl
def zoB(l:ZL)(m:Mach)(t:List Str)(h9:9≤l.length)(hb:l.length≤1048576)(hmag:l.take 4=[65,66,71,49])(hsum:sumB (l.take (l.length-4))=l.drop (l.length-4)) (hrd:PCall prog 46 [.fs (((l.take (l.length-4)).drop 4).map zt) (l.length-8)] (.ret (.tup [zU m,.fs (strs t) t.length,.bool true]))) (hpk:PackOK m t) (hp:zfw m t=(l,0)):PCall prog 11 [.fs (l.map zt) l.length] (.ret (.tup [zU m,.fs (strs t) t.length,.int .i64 0])):=by
 obtain⟨n,hn⟩:∃n,l.length=n+4:=⟨l.length-4,Zo⟩;have hn4:l.length-4=n:=Zo;have hn8:l.length-8=n-4:=Zo;rw[hn4]at hsum hrd;rw[hn8]at hrd;have hΓ:=zg cSumP_ok (zg cEql_ok (zg (cRdX_ok hrd) (zg zlJ zh)));have d0:decide ((l.length:Int)<9)=false:=Ye Zo;have d1:decide ((1048576:Int)<l.length)=false:=Ye Zo;obtain⟨M4,hM4⟩:∃M4:ZL,M4=[65,66,71,49]:=⟨_,rfl⟩;have t4:(l.map zt).take 4=M4.map zt:=by rw[←List.map_take,hmag,hM4]
 have c4:=fun H=>zfN M4 4 H (by rw[hM4];rfl);have dM:decide (M4=[65,66,71,49])=true:=Yf hM4;have en:(l.length:Int)-4=(n:Int):=Zo;have en2:(((n+4:Nat):Int)-4)=(n:Int):=Zo;obtain⟨A,hA⟩:∃A,l.take n=A:=⟨_,rfl⟩;obtain⟨B,hB⟩:∃B,l.drop n=B:=⟨_,rfl⟩;rw[hA,hB]at hsum;have hAl:A.length=n:=by rw[←hA,Yx];omega
 have hBl:B.length=4:=by rw[←hB,YI];omega
 have tA:(l.map zt).take n=A.map zt:=by rw[←List.map_take,hA]
 have tB:(l.map zt).drop n=B.map zt:=by rw[←Ycg,hB]
 have tD:(A.map zt).drop 4=(A.drop 4).map zt:=by rw[Ycg]
 have tL:(l.map zt).take l.length=l.map zt:=Yl Zs;have tL2:(A.map zt).take n=A.map zt:=Yl (by simp[hAl]);have s1:=cSumP_eq A n hAl.symm Zo;have s2:=zAw (sumB A) B 4 4 rfl hBl.symm;rw[Yf hsum]at s2;have s3:=cRdX_eq (.fs (((l.take n).drop 4).map zt) (n-4)) (.tup [zU m,.fs (strs t) t.length,.bool true]);rw[hA]at s3;rw[hA]at hΓ;have s4:=zlK m t hpk;rw[hp]at s4;have s5:=zAw l l l.length l.length rfl rfl;rw[Yf rfl]at s5;unfold byR at s4;dsimp only at s4;have hM:zU m=.agg [.int .i64 m.k,.int .i64 m.s,.str m.l,.fs (stas m.q) m.q.length]:=rfl;rw[hM]at s3 s4 hΓ ⊢;refine PCall.walk (rs:=[.cell 2 24,.tmp 3,.tmp 4]) [0,2,3,4,5,6,7,8,11,21,36,62] [] mixed (hΓ) (zf) call11 func11 rfl ntmps11 rfl Zk Zs (by simp[push_cast,zcA]) ?_;have eLn:l.length-n=4:=Zo;simp(disch:=try exact Zq)only[go_sem,d0,d1,t4,c4,dM,en,eLn,tA,tB,tL,tL2,tD,s1,s2,s3,s4,s5];exact⟨⟨Zo,Zs⟩,⟨Zo,Zo,Zs⟩,⟨Zo,Zo,Zo,Zs⟩,⟨Zo,Zo,by simp[hAl]⟩,.pure (.agg (mach4 _ _ _ _))⟩
def cOne(a:ZA)(v:V):ZV:=zC (fun _:Unit=>a) (fun _=>True) fun _=>.ret v
def zit(a:ZA)(v:V):cOne a v a=some (.ret v):=zo (pat:=fun _:Unit=>a) (fun _ _ _=>rfl) () trivial
def zis {f:FuncId}{a:ZA}{v:V}(h:PCall prog f a (.ret v)):∀args r,cOne a v args=some r→PCall prog f args r:=zn fun _ _=>h
def zr2(l:ZL){a b:V}{e:Int}(h:PCall prog 11 [.fs (l.map zt) l.length] (.ret (.tup [a,b,.int .i64 e]))):PCall prog 13 [.fs (l.map zt) l.length] (.ret (.int .i64 e)):=by have h1:=zit [.fs (l.map zt) l.length] (.tup [a,b,.int .i64 e]);refine PCall.walk (rs:=[.tmp 2]) [0,2] [] mixed (zg (zis h) zh) (zf) call13 func13 rfl ntmps13 rfl Zk Zs (by simp[push_cast,zcA]) ?_;simp(disch:=try exact Zq)only[go_sem,h1]
section
variable {C:Cfg}{P:Program}{K:Out→St→Prop}{st:List Fr}{ops:Array Oper}{os:List Oper}{env:Env}{h:Hp}
def zoh(i:Nat)(d:Tmp)(pre:Prop)(v:V)(h':Hp)(R W:ZN)(lo hi:Nat)(acc:List (Nat×Foot)):AXg2 C P K st ops os i (some d) (some true) (.ok false pre v h' ⟨R,W,lo,hi⟩) acc env h=(pre∧wok C W=true∧AXd C P K st ops os (i+1) (accM acc i R W lo hi) ((d,v)::env) h'):=by rw[←zlZ];simp[AXg2,folG,AXd,St.put,St.hp]
end
attribute [local go_sem] zix zwF zbJ zoh
def conv_slb(l:ZL)(b n:Nat)(H:Hp)(hb:H.get b=some (bly l))(hn:n=l.length):zcy prog 28 9 (.sl b 0 n 1 none) H=⟨True,.str l,H,[b],[]⟩:=by subst hn;refine zeI 28 9 5 _ (l.map zt) l.length [b] l Zk Zk Zk ?_ (zlQ l);unfold zaK;simp only[hb];unfold bly;simp;exact Yl Zs
def wts_ex:wts exM=[[48],[49]]:=by rw[←zvR];rfl
def exB:ZL:=known++sumB known
def body_ex:(zlS exM exT).1=known:=by unfold zlS headB layM;rw[wts_ex];kernel_rfl
def file_ex:zgj exM exT=exB:=by unfold zgj;rw[body_ex];rfl
theorem zlt:exB.length=30:=rfl
def ok_ex:PackOK exM exT:=by
 have h:InP exM exT:=by
  refine⟨Zd,fun s hs=>?_,Zd,Zd,fun s hs=>?_,fun s hs a ha=>?_,fun j=>?_⟩
  ·obtain rfl:=YW.1 hs;decide
  ·obtain rfl:=YW.1 hs;decide
  ·obtain rfl:=YW.1 hs;obtain rfl:=YW.1 ha;decide
  match j with
  |0=>decide
  |1=>decide
  |j+2=>exact Yk _
 exact zss h Zd
def zrg:zfw exM exT=(exB,0):=by have h1:(zco exM&&tabB exT&&decide (sigM exM≤exT.length))=true:=Zk;unfold zfw;rw[h1,Yi rfl,file_ex,Yh (by rw[zlt];decide)]
def zmf:PCall prog 11 [.fs (exB.map zt) exB.length] (.ret (.tup [zU exM,.fs (strs exT) exT.length,.int .i64 0])):=by have e26:exB.take (exB.length-4)=known:=rfl;have e26d:exB.drop (exB.length-4)=sumB known:=rfl;refine zoB exB exM exT (by rw[zlt];decide) (by rw[zlt];decide) rfl (by rw[e26,e26d]) ?_ ok_ex zrg;rw[e26];exact read_ex
def check_ex:PCall prog 13 [.fs (exB.map zt) exB.length] (.ret (.int .i64 0)):=zr2 exB zmf
def check_8:PCall prog 13 [.fs ((exB.take 8).map zt) (exB.take 8).length] (.ret (.int .i64 10)):=zr2 (exB.take 8) (zme (exB.take 8) Zd)
def cTwo(a b:ZA)(v w:V):ZV:=fun args=>open Classical in if args=a then some (.ret v)else if args=b then some (.ret w)else none
def cTwo_1(a b:ZA)(v w:V):cTwo a b v w a=some (.ret v):=Yi rfl
def cTwo_2(a b:ZA)(v w:V)(h:b≠a):cTwo a b v w b=some (.ret w):=(Yh h).trans (Yi rfl)
def cTwo_ok {f:FuncId}{a b:ZA}{v w:V}(h1:PCall prog f a (.ret v))(h2:PCall prog f b (.ret w)):∀args r,cTwo a b v w args=some r→PCall prog f args r:=by
 intro args r h;unfold cTwo at h;split at h
 ·rename_i e;cases h;rw[e];exact h1
 split at h
 ·rename_i e;cases h;rw[e];exact h2
 cases h
def awake_ok:PCall prog 7 [] (.ret (.bool true)):=by
 have hΓ:=zg (zis zuP) (zg zlJ (zg (cTwo_ok check_ex check_8) (zg (zis zmf) (zg (zis same_m) (zg (zis same_t) zh)))));have hΔ:zaP prog (za8 10 (conD SealO) noΔ):=zJ (zV sealO_ok) zf;have s0:=zit [] (.tup [zU exM,.fs (strs exT) 2]);have s1:=zlK exM exT ok_ex;rw[zrg]at s1;unfold byR at s1;dsimp only at s1;have s2:=cTwo_1 [.fs (exB.map zt) exB.length] [.fs ((exB.take 8).map zt) (exB.take 8).length] (.int .i64 0) (.int .i64 10);have s3:=cTwo_2 [.fs (exB.map zt) exB.length] [.fs ((exB.take 8).map zt) (exB.take 8).length] (.int .i64 0) (.int .i64 10) (by intro e;have:=(V.fs.inj (List.cons.inj e).1).2;exact absurd this Zd);have s4:=zit [.fs (exB.map zt) exB.length] (.tup [zU exM,.fs (strs exT) exT.length,.int .i64 0]);have s5:=zit [zU exM,zU exM] (.bool true);have s6:=zit [.fs (strs exT) 2,.fs (strs exT) 2] (.bool true);have hl:exT.length=2:=rfl;have hl8:(exB.take 8).length=8:=rfl;have hlk:known.length=26:=rfl;have c1:=fun H=>zfN exB exB.length H rfl;have t8:(exB.map zt).take 8=(exB.take 8).map zt:=by rw[List.map_take]
 have hk0:known≠[]:=Zd;have hkn:known++sumB known=exB:=rfl;have hM:zU exM=.agg [.int .i64 1,.int .i64 0,.str [48],.fs (stas exM.q) 1]:=rfl;have hse:=fun(c n:Nat) (bs:ZH) (nx:Nat) hc hn hk=>sealO_eq c n known bs nx hc hn hk0 Zd hk;rw[hM]at s0 s1 s4 s5 hΓ;rw[hl]at s1 s4 hΓ;rw[hl8]at s2 s3 hΓ;rw[zlt]at s1 s2 s3 s4 c1 hΓ;rw[hkn]at hse;refine Xc (rs:=[.tmp 0]) [0,1,2,3,4,5,6,7,39] [] mixed (hΓ) (hΔ) call7 func7 rfl ntmps7 rfl ?_;have hcv:=fun H hb=>zzo 1 0 26 1 (some 26) (known.map zt) H hb;have hcs:=fun H hb=>conv_slb exB 2 exB.length H hb rfl;simp(disch:=try exact Zp)only[go_sem,s0,s1,s2,s3,s4,s5,s6,c1,t8,zAN,hcv,hse,hcs];refine⟨rfl,AXk.intro Zk ?_⟩;simp(disch:=try exact Zp)only[go_sem,s0,s1,s2,s3,s4,s5,s6]
end Go.Proofs

namespace Go.Proofs
open Tryz Go.Ab Go.Cnt Go.Pl
def dStrP:Dec prog 9 strR (fun s=>s.length≤reachBytes):=Dec.str Tryz.underlying9 Zk
def okTab(l:List Str):Prop:=l.length≤reachBytes∧∀s∈l,s.length≤reachBytes
def dTab:Dec prog 25 (slR strR) okTab:=dStrP.slice Tryz.underlying25 Zk (Yaq Zk)
def zzf:Dec prog 3 (intR .i64) (fun _=>True):=(Dec.int Tryz.underlying3 Zk).cast (fun a=>a) rfl (fun _=>rfl) fun _ _=>trivial
abbrev ArcT:=((Int×Int)×Str)×Int
abbrev arcTR:=zf8 (zf8 (zf8 (intR .i64) (intR .i64)) strR) (intR .i64)
def okArc(p:ArcT):Prop:=p.1.2.length≤reachBytes
def dArc:Dec prog 46 arcTR okArc:=(XB Tryz.underlying46 zzf zzf dStrP zzf rfl rfl rfl rfl Zk).cast (fun a=>a) rfl (fun _=>rfl) fun _ h=>h.1.2
def okArcs(l:List ArcT):Prop:=l.length≤reachBytes∧∀a∈l,okArc a
def dArcs:Dec prog 42 (slR arcTR) okArcs:=dArc.slice Tryz.underlying42 Zk (Yaq Zk)
abbrev StaT:=Str×List ArcT
abbrev staTR:=zf8 strR (slR arcTR)
def okSta(p:StaT):Prop:=p.1.length≤reachBytes∧okArcs p.2
def dSta:Dec prog 44 staTR okSta:=Dec.two Tryz.underlying44 dStrP dArcs rfl rfl Zk
def okStas(l:List StaT):Prop:=l.length≤reachBytes∧∀a∈l,okSta a
def dStas:Dec prog 22 (slR staTR) okStas:=dSta.slice Tryz.underlying22 Zk (Yaq Zk)
abbrev zBx:=((Int×Int)×Str)×List StaT
abbrev machTR:=zf8 (zf8 (zf8 (intR .i64) (intR .i64)) strR) (slR staTR)
def zxD(p:zBx):Prop:=p.1.2.length≤reachBytes∧okStas p.2
def dMach:Dec prog 24 machTR zxD:=(XB Tryz.underlying24 zzf zzf dStrP dStas rfl rfl rfl rfl Zk).cast (fun a=>a) rfl (fun _=>rfl) fun _ h=>⟨h.1.2,h.2⟩
def zmi(p:ArcT):Arc:=⟨p.1.1.1,p.1.1.2,p.1.2,p.2⟩
def zmh(p:StaT):Sta:=⟨p.1,p.2.map zmi⟩
def toMach(p:zBx):Mach:=⟨p.1.1.1,p.1.1.2,p.1.2,p.2.map zmh⟩
def zoG(l:List Str):strR.cells l=strs l:=by
 induction l with
 |nil=>rfl
 |cons a l ih=>rw[Row.cells_cons,ih];rfl
theorem arc_enc(p:ArcT):arcTR.enc p=arcR.enc (zmi p):=rfl
def arcs_enc(l:List ArcT):arcTR.cells l=arcs (l.map zmi):=by
 induction l with
 |nil=>rfl
 |cons a l ih=>rw[Row.cells_cons,ih,arc_enc];exact(arcR.cells_cons (zmi a) (l.map zmi)).symm
def sta_enc(p:StaT):staTR.enc p=staR.enc (zmh p):=by obtain⟨f,a⟩:=p;show [V.str f]++[V.fs (arcTR.cells a) a.length]=[V.str f,V.fs (arcs (a.map zmi)) (a.map zmi).length];rw[arcs_enc,Y5];rfl
def stas_enc(l:List StaT):staTR.cells l=stas (l.map zmh):=by
 induction l with
 |nil=>rfl
 |cons a l ih=>rw[Row.cells_cons,ih,sta_enc];exact(staR.cells_cons (zmh a) (l.map zmh)).symm
def mach_enc(p:zBx):V.agg (machTR.enc p)=zU (toMach p):=by obtain⟨⟨⟨k,s⟩,l⟩,q⟩:=p;show V.agg ((([V.int .i64 k]++[V.int .i64 s])++[V.str l])++[V.fs (staTR.cells q) q.length])=V.agg [.int .i64 k,.int .i64 s,.str l,.fs (stas (q.map zmh)) (q.map zmh).length];rw[stas_enc,Y5];rfl
def zhD {n:Nat}(h:n≤reachBytes):n≤1000000000000000:=Ys h (by unfold reachBytes;omega)
def inP_of {p:zBx}{t:List Str}(h:zxD p)(ht:okTab t):InP (toMach p) t:=by
 obtain⟨⟨⟨k,s⟩,l⟩,q⟩:=p;obtain⟨h1,h2,h3⟩:=h;refine⟨by show (q.map zmh).length≤_;rw[Y5];exact zhD h2,fun s hs=>?_,zhD ht.1,zhD h1,fun s hs=>?_,fun s hs a ha=>?_,fun j=>?_⟩
 ·obtain⟨x,hx,rfl⟩:=Yab.1 hs;show (x.2.map zmi).length≤_;rw[Y5];exact zhD (h3 x hx).2.1
 ·obtain⟨x,hx,rfl⟩:=Yab.1 hs;exact zhD (h3 x hx).1
 ·obtain⟨x,hx,rfl⟩:=Yab.1 hs;obtain⟨y,hy,rfl⟩:=Yab.1 ha;exact zhD ((h3 x hx).2.2 y hy)
 rw[Ya];by_cases hj:j<t.length
 ·rw[Yb hj];exact zhD (ht.2 _ (Y6 hj))
 rw[Yr Zo];exact Yk _
def bytes_in(p:zBx)(t:List Str)(h:zxD p)(ht:okTab t):PCall prog 3 [.agg (machTR.enc p),.fs (strR.cells t) t.length] (.ret (.bool true)):=by rw[mach_enc,zoG];exact zAE awake_ok _ t (inP_of h ht)
def flat2 {α β:Type}(f:α→β)(g:α→β):∀(zs:List α)(cs:List β),cs.length=zs.length*2→(∀i z,zs[i]? =some z→(cs.drop (i*2)).take 2=[f z,g z])→cs=zs.flatMap fun z=>[f z,g z]
 |[],cs,hl,_=>List.length_eq_zero_iff.1 (by simpa using hl)
 |z::r,cs,hl,h=>by
  have h0:=h 0 z rfl;rw[Ybe,Y1]at h0;have ih:=flat2 f g r (cs.drop 2) (by rw[YI,hl,Yn];omega) fun i y hy=>by have:=h (i+1) y (by simpa using hy);rw[Ya8];rw[show 2+i*2=(i+1)*2 by omega];exact this
  rw[List.flatMap_cons,←ih,←h0,Yae]
def cells_of_pairs {H:Type}{enc:TypeId×Value→H}{P:Program}{w:World}{base:Nat}{sp:Nat→Bool}{held:Bool}{fuel:Nat}{t e:TypeId}{n:Nat}{fs:Array Field}{cs:List Value}{zs:List (Int×Int)}{p:List MemPlace} (ht:P.underlying t=some (.array n e)) (hs:P.underlying e=some (.struct fs)) (hf:∀(i:Nat)(f:Field),fs[i]? =some f→P.underlying f.type=some (.int .u8)∧f.offset=i∧P.cellsOf f.type=1) (hfs:fs.size=2) (hce:P.cellsOf e=2) (hct:P.cellsOf t=n*2) (h:DataW.trod enc P w base sp held fuel t cs=some (.agg (zs.map fun z=>.agg ([z.1,z.2].map fun z=>.lit (.int .u8 z))),p)):cs=zs.flatMap fun z=>[Value.int .u8 z.1,Value.int .u8 z.2]:=by
 have he:=fun i hi=>Lib.array_elem ht h i hi;have hl:cs.length=n*2∧zs.length=n:=by
  cases fuel with
  |zero=>simp[DataW.trod]at h
  |succ fuel=>
   simp only[DataW.trod,ht,hct]at h;split at h
   ·rename_i hl;obtain⟨xs,hm,hx⟩:=YaM.1 h;have hxl:xs.length=n:=by simpa using Lib.mapM_length hm
    have:=YaZ (fun x=>match x.1 with| .agg l=>l.length|_=>0) hx;simp at this;exact⟨hl,Zo⟩
   cases h
 refine flat2 (fun z:Int×Int=>Value.int .u8 z.1) (fun z=>Value.int .u8 z.2) zs cs (by rw[hl.2];exact hl.1) fun i z hz=>?_;have hi:i<n:=by have:=(Yt.1 hz).1;omega
 obtain⟨fuel',d,q,h1,h2⟩:=he i hi;rw[YX,hz]at h1;cases h1;rw[hce]at h2;have:=Lib.ints_of_struct (zs:=[z.1,z.2]) hs hf (by rw[hce,hfs]) h2;exact this
end Go.Proofs

namespace Go.Proofs.YtbdlfegfepggnaaGreatDoor
open Go.Proofs.Tryz Go.ChangeShapes Go.WideShapes Go.ChangeAt Go.WideMaps Go.WideElems Go.RowKit
theorem ownK:ownKnob prog.godebug=none:=Zk
theorem zrE:laidOutB prog=true:=Zk
abbrev ze7:List (String×DataW Unit):=[("math/bits.deBruijn32tab",Rows.laid_math_bits_deBruijn32tab),("math/bits.deBruijn64tab",Rows.laid_math_bits_deBruijn64tab),("internal/strconv.uint64pow10",Rows.laid_internal_strconv_uint64pow10),("unicode/utf8.acceptRanges",Rows.laid_unicode_utf8_acceptRanges),("bytes.ErrTooLarge",Rows.laid_bytes_ErrTooLarge),("unicode/utf8.first",Rows.laid_unicode_utf8_first)]
theorem door_met(os:Os):laidMetH prog ze7 ((World.laidAll prog os ze7).forCall (fun _ _=>0) ⟨#[],#[.agg #[.int .i64 0,.int .i64 0,.string ⟨#[]⟩,.slice none 0 0],.slice none 0 0],[]⟩).memory:=by rw[MakeChecks.laidMetH_plain _ _ _ Zk];exact laidMet_laidAll _ Zk Zk
def tens:List Int:=(List.range 20).map fun i=>((10^i:Nat):Int)
def firstZ:List Int:=(List.range 256).map fun b=>(Go.Ab.firstN b:Int)
def accZ:List (Int×Int):=[(128,191),(160,191),(128,159),(144,191),(128,143)]++List.replicate 11 (0,0)
def accL:List Int:=[128,191,160,191,128,159,144,191,128,143]++List.replicate 22 0
theorem zsY:(Rows.laid_internal_strconv_uint64pow10:DataW Unit)=Lib.tabData .u64 tens:=Zk
theorem zpR:(Rows.laid_unicode_utf8_first:DataW Unit)=Lib.tabData .u8 firstZ:=Zk
theorem zBi:(Rows.laid_unicode_utf8_acceptRanges:DataW Unit)=.agg (accZ.map fun z=>.agg ([z.1,z.2].map fun z=>.lit (.int .u8 z))):=Zk
theorem zBj:(accZ.flatMap fun z=>[Value.int .u8 z.1,Value.int .u8 z.2])=accL.map fun z=>Value.int .u8 z:=Zk
theorem zia {W:World}{name:String}{g:Nat}{cs:Array Value}(hg:prog.globalNamed name=some g)(h:W.var? prog name=some cs):∃t fr,W.heap[g]? =some (.cells cs t fr):=by
 unfold World.var? at h;rw[hg]at h;simp only[Option.bind_some]at h;cases hb:W.heap[g]? with
 |none=>rw[hb]at h;cases h
 |some o=>
  rw[hb]at h;cases o<;>first|(cases h;exact⟨_,_,rfl⟩)|cases h
theorem tab_of {W:World}(h:laidMet prog ze7 W){name:String}{g t e n:Nat}{k:IntKind}{zs:List Int}(hm:(name,Lib.tabData k zs)∈ze7)(hg:prog.globalNamed name=some g)(hty:(prog.globals[g]?).map (·.type)=some t) (ht:prog.underlying t=some (.array n e)) (he:prog.underlying e=some (.int k)) (hce:prog.cellsOf e=1) (hct:prog.cellsOf t=n):∃t fr,W.heap[g]? =some (.cells (zs.map fun z=>Value.int k z).toArray t fr):=by
 obtain⟨g',t',cs,fuel,p,hg',hty',hvar,hd⟩:=Lib.laidMet.reads h hm;obtain rfl:=Yj (hg.symm.trans hg');obtain rfl:=Yj (hty.symm.trans hty');have hcs:=Lib.cells_of_tab ht he hce hct hd;have:cs=(zs.map fun z=>Value.int k z).toArray:=by rw[←hcs]
 rw[this]at hvar;exact zia hg hvar
theorem acc_of {W:World}(h:laidMet prog ze7 W):∃t fr,W.heap[2]? =some (.cells (accL.map fun z=>Value.int .u8 z).toArray t fr):=by
 have hm:("unicode/utf8.acceptRanges",(.agg (accZ.map fun z=>.agg ([z.1,z.2].map fun z=>.lit (.int .u8 z))):DataW Unit))∈ze7:=by rw[←zBi];simp[ze7]
 obtain⟨g',t',cs,fuel,p,hg',hty',hvar,hd⟩:=Lib.laidMet.reads h hm;have hg:prog.globalNamed "unicode/utf8.acceptRanges" =some 2:=Zk;have hty:(prog.globals[2]?).map (·.type)=some 186:=Zk;obtain rfl:=Yj (hg.symm.trans hg');obtain rfl:=Yj (hty.symm.trans hty');have hcs:=cells_of_pairs (n:=16) Zk underlying185 (fun i f hf=>by
  match i,hf with
  |0,hf=>cases hf;exact⟨Zk,rfl,Zk⟩
  |1,hf=>cases hf;exact⟨Zk,rfl,Zk⟩) rfl Zk Zk hd
 rw[zBj]at hcs;have:cs=(accL.map fun z=>Value.int .u8 z).toArray:=by rw[←hcs]
 rw[this]at hvar;exact zia hg hvar
theorem ok_of {W:World}{g:Nat}{k:IntKind}{zs:List Int}{cs:List Go.Ab.V}(h:∃t fr,W.heap[g]? =some (.cells (zs.map fun z=>Value.int k z).toArray t fr))(hc:cs=zs.map fun z=>Go.Ab.V.int k z):Go.Ab.VRel ⟨fun _=>none,(Go.Ab.gW W).phi⟩ (.fp cs) (.pointer (some ⟨g,0,none⟩))∧∃arr,(Go.Ab.gW W).phi g=some arr∧arr.size=cs.length:=by subst hc;obtain⟨t,fr,hb⟩:=h;have hphi:=Go.Ab.gW_of hb;refine⟨Go.Ab.VRel.mk_fp hphi ?_,_,hphi,Zs⟩;intro i x hx;rw[YX]at hx;obtain⟨z,hz,rfl⟩:=YaM.1 hx;refine⟨.int k z,?_,.int _ _⟩;show (zs.map fun z=>Value.int k z).toArray[0+i]? =_;rw[Yan];simp[hz]
theorem gok_of {W:World}(h:laidMetH prog ze7 W):Go.Ab.GOK (Go.Ab.gW W):=by
 rw[MakeChecks.laidMetH_plain _ _ _ Zk]at h;have h1:=tab_of (t:=228) (e:=129) (n:=20) h (name:= "internal/strconv.uint64pow10") (g:=4) (k:=.u64) (zs:=tens) (by rw[←zsY];simp[ze7]) Zk Zk Zk Zk Zk Zk;have h2:=tab_of (t:=183) (e:=5) (n:=256) h (name:= "unicode/utf8.first") (g:=1) (k:=.u8) (zs:=firstZ) (by rw[←zpR];simp[ze7]) Zk Zk Zk Zk Zk Zk;have h3:=acc_of h;intro k cs e;unfold Go.Ab.GL at e;split at e
 ·rename_i hk;cases e;subst hk;exact ok_of h1 Zk
 split at e
 ·rename_i hk;cases e;subst hk;exact ok_of h2 Zk
 split at e
 ·rename_i hk;cases e;subst hk;exact ok_of h3 Zk
 cases e
theorem call_of {W:World}(h:laidMetH prog ze7 W){args:Array Value}{vs:List Go.Ab.V}(hc:Go.Ab.PCall prog 3 vs (.ret (.bool true)))(hs:args.size=vs.length)(hp:Go.Ab.PW (Go.Ab.gW W) vs (fun i=>args[i]?)):Calls prog 3 args W fun e W'=>e=.returned (.bool true)∧Below W.heap.size W W':=by have hc':=hc (Go.Ab.gW W) W args (gok_of h) Go.Ab.gW_frz hs hp;refine(zop (Go.Ab.canB_ok Zk) hc').mono fun e W' q=>?_;obtain⟨phi',vc,_,hbel,rfl,hv⟩:=q;rw[hv.inv_bool];exact⟨rfl,hbel.os,hbel.tape.eq,hbel.output,hbel.size,hbel.block⟩
theorem zxo:f3.params.toList=[24,25]:=Zk
theorem stand24:Tryz.pinned.checked.prog.wantsStandIn (24:Nat)=false:=Zk
theorem stand25:Tryz.pinned.checked.prog.wantsStandIn (25:Nat)=false:=Zk
theorem lifted(os:Os)(started:os.Started)(H:Type)(enc:TypeId×Value→H):ReturnsInHanded {} checked os 3 .any (fun w args=>(Rows.packBytesSpec.pre enc prog f3 [] false w args∧laidMetH prog ze7 w)∧sizedMet enc prog f3 (OpenSpec.ofChange Rows.packBytesSpec) false w args) (Rows.packBytesSpec.post enc prog f3 false true false false):=by
 refine returnsInHanded_of_change_and (C:=checked) (X:=fun w _=>laidMetH prog ze7 w) (fun _ _ _ hh h=>h.of_heap hh) ownK started Zk func3
  (ChangeSpec.witness_shaped (enc:=enc) (C:=checked) (os:=os) (X:=fun w _=>laidMetH prog ze7 w) false (World.laidAll prog os ze7) #[.agg #[.int .i64 0,.int .i64 0,.string ⟨#[]⟩,.slice none 0 0],.slice none 0 0] 8 (World.laidAll_os _ _ _) (World.shaped_of_ZipB Zk Zk) Zk Zk Zk (door_met os)) ?_
 intro W base args ds gs before hval0 hW _ hwt hL _;have hW':=hW;obtain⟨p,q,hA0,hV,rfl,hfz,hnd⟩:=hW;have hA:DataW.TrodAll enc prog W 0 (fun _=>true) true f3.params.toList args.toList ds p:=hA0;rw[zxo]at hA;obtain⟨v0,v1,d0,d1,p0,p1,rfl,rfl,rfl,h0,h1⟩:=trodAll_two hA;obtain⟨rfl,rfl⟩:=trodVars_none hV;have hlt:=DataW.TrodAll.lt hA;have hwt':∀n∈DataW.weightsEach prog [24,25] [d0,d1],n≤reachBytes:=fun n hn=>by have:=Yo.1 hwt n (by rw[zxo,show Rows.packBytesSpec.plain.varTypes checked.prog=[]from rfl,Y7,Y7];exact hn);simpa using this
 simp only[Go.Ab.weightsEach_cons]at hwt';have w0:∀n∈d0.weights prog 24,n≤reachBytes:=fun n hn=>hwt' n (YG _ hn);have w1:∀n∈d1.weights prog 25,n≤reachBytes:=fun n hn=>hwt' n (YH _ (YG _ hn));have hv0:Value.okWide prog W .any base 24 v0:=hval0 0 24 v0 rfl rfl;have c0:∃cs,v0=.agg cs:=by obtain⟨cs,e,_⟩:=okWide_struct underlying24 hv0;exact⟨cs,e⟩
 obtain⟨a0,o0,r0⟩:=dMach.argS h0 c0 w0;have hv1:Value.okWide prog W .any base 25 v1:=hval0 1 25 v1 rfl rfl;have c1:v1.cells=#[v1]:=by obtain⟨_,_,_,e⟩:=okWide_slice underlying25 hv1;rw[e];rfl
 obtain⟨a1,o1,r1⟩:=dTab.arg1 h1 c1 w1;replace r1:=r1 _ rfl;refine(call_of hL (bytes_in a0 a1 o0 o1) rfl (fun i x hx=>by
  match i with
  |0=>cases hx;exact⟨v0,rfl,r0⟩
  |1=>cases hx;exact⟨v1,rfl,r1⟩
  |i+2=>simp at hx)).mono fun e W' ⟨he,bel⟩=>?_
 subst he;have k0:=Below.trod zrE Zk (Yaq Zk) h0 bel (fun x hx=>hlt x (YG _ hx));have k1:=Below.trod zrE Zk (Yaq Zk) h1 bel (fun x hx=>hlt x (YH _ hx));exact⟨_,rfl,_,_,_,[],_,[],hW',trodAll_mk1 (shut_bool underlying4 _),trodAll_mk2 k0 k1,rfl,bel.frame _,fun h=>by cases h⟩
theorem said:Rows.PackBytesSaid:=
 OpenClaim.holds_of_wide 3 f3 rfl rfl rfl rfl rfl rfl rfl ⟨rfl,rfl,rfl,rfl,rfl⟩ rfl rfl rfl rfl rfl Zk func3 Zk
  (Yaq Zk) (by unfold Func.isWrapper;first|(rw[Yi (by decide+kernel)];kernel_rfl)|(rw[Yh (by decide+kernel)];exact⟨rfl,rfl⟩))
  (fun os started H enc _=>lifted os started H enc)
theorem bytes_holds:Rows.PackBytesCardSaid:=
 Claim7.holds_tied_plain_at .later [] [.data,.data,.data,.data,.sentinel,.pinned] true (true, "2c9e860415fe8e086765a9185655ada8af5d692075c6c7676e3ac85e5d43f81f") true
  said (fun _ h=>by cases h) Zk (fun _ h=>by cases h) packBytes_row_tie rfl ⟨rfl,rfl⟩ Zk rfl
  (fun f fn hf hfn=>by
   obtain rfl:f=3:=Yj ((show prog.funcNamed "abugida/abugidalaw41.PackBytes" =some 3 by kernel_rfl).symm.trans hf) |>.symm
   obtain rfl:fn=f3:=(Yj (func3.symm.trans hfn)).symm;exact⟨Zk,fun j t ht=>by
    rw[params3]at ht;match j with
    |0=>exact(Yj ht:(24:Nat)=t)▸stand24
    |1=>exact(Yj ht:(25:Nat)=t)▸stand25
    |j+2=>simp at ht⟩)
  Zk
#print axioms bytes_holds
end Go.Proofs.YtbdlfegfepggnaaGreatDoor
