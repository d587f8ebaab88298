/- The reference's pack: functions that append to a list of bytes; Width, varint, put. -/
import Derived.Test.YtbdlfegfepggnaaGreatDoorPk13
set_option linter.all false
set_option maxHeartbeats 16000000
set_option maxRecDepth 100000
noncomputable section
namespace Go.Proofs
open Go.Ab Go.Pl Go.Cnt
attribute [local go_sem] zbg
section
variable {P:Program}
end
def slArgsP(b n:Nat)(k:Option Nat){rest:ZA}(hr:∀x∈rest,Pure x):LRel (Rn (fun i=>[b].getD i 0) (· <1)) (V.sl 0 0 n 1 k::rest) (.sl b 0 n 1 k::rest):=by
 refine⟨rfl,fun i y z hy hz=>?_⟩;match i with
 |0=>cases hy;cases hz;exact .sl (π:=fun i=>[b].getD i 0) (b:=0) (YaA.2 rfl) (.inr rfl)
 |i+1=>simp only[Yar]at hy hz;rw[hy]at hz;cases hz;exact .same (hr y (YV hy))
def bitF:Nat→Nat→ZL
 |0,_=>[]
 |k+1,n=>UInt8.ofNat (n/2^k%2)::bitF k n
def zqs:∀k n,(bitF k n).length=k
 |0,_=>rfl
 |k+1,n=>by rw[bitF,Yv,zqs k n]
end Go.Proofs

namespace Go.Proofs
open Go.Ab Go.Pl Go.Cnt
def zb6(L:List (Nat×Nat)):ZL:=L.flatMap fun p=>bitF p.2 p.1
def za9(L M:List (Nat×Nat)):zb6 (L++M)=zb6 L++zb6 M:=List.flatMap_append
theorem zaU(p:Nat×Nat)(L:List (Nat×Nat)):zb6 (p::L)=bitF p.2 p.1++zb6 L:=rfl
def zfd:∀L:List (Nat×Nat),(zb6 L).length=zbp L
 |[]=>rfl
 |p::L=>by rw[zaU,Yg,zqs,zfd L];rfl
def bt(B:ZL)(i:Nat):Nat:=(B.getD i 0).toNat
def byt(B:ZL)(i:Nat):Nat:=bt B (8*i)*128+bt B (8*i+1)*64+bt B (8*i+2)*32+bt B (8*i+3)*16+bt B (8*i+4)*8+bt B (8*i+5)*4+bt B (8*i+6)*2+bt B (8*i+7)
def zxZ(B:ZL)(b:UInt8)(i:Nat):bt (B++[b]) i=if i<B.length then bt B i else if i=B.length then b.toNat else 0:=by
 unfold bt;rw[Ya,Ya];split
 ·rename_i h;rw[YP h]
 rename_i h;rw[Yak Zo];split
 ·rename_i e;subst e;simp
 rw[Yo (by simp;omega)];rfl
def bt_end(B:ZL)(i:Nat)(h:B.length≤i):bt B i=0:=by unfold bt;rw[Ya,Yo h];rfl
def byt_old(B:ZL)(b:UInt8)(i:Nat)(h:8*i+8≤B.length):byt (B++[b]) i=byt B i:=by unfold byt;simp only[zxZ];rw[Yi Zo,Yi Zo,Yi Zo,Yi Zo,Yi Zo,Yi Zo,Yi Zo,Yi Zo]
def byt_new(B:ZL)(b:UInt8)(q r:Nat)(hr:r<8)(h:B.length=8*q+r):byt (B++[b]) q=byt B q+b.toNat*2^(7-r):=by
 unfold byt;simp only[zxZ,h];rcases(show r=0∨r=1∨r=2∨r=3∨r=4∨r=5∨r=6∨r=7 by omega)with rfl|rfl|rfl|rfl|rfl|rfl|rfl|rfl
 all_goals simp(disch:=omega)only[Yi,Ye,bt_end]
 all_goals (simp(config:={ decide:=true })only[Nat.lt_irrefl,if_false,if_true,YS,Nat.add_lt_add_iff_left,Nat.add_right_cancel_iff,Nat.add_left_cancel_iff,Nat.add_eq_left,Nat.lt_add_right_iff_pos])
 all_goals (repeat rw[bt_end B _ Zo])
 all_goals (try simp(disch:=omega)only[Yi,Ye])
 all_goals omega
def zdQ(B:ZL)(k:Nat):ZL:=(List.range k).map fun i=>UInt8.ofNat (byt B i)
def ziZ(B:ZL)(k:Nat):zdQ B (k+1)=zdQ B k++[UInt8.ofNat (byt B k)]:=by unfold zdQ;rw[List.range_succ,Yax];rfl
def zxX(B:ZL)(b:UInt8)(k:Nat)(h:8*k≤B.length):zdQ (B++[b]) k=zdQ B k:=by unfold zdQ;refine YbM fun i hi=>?_;rw[byt_old B b i (by have:=YbF.1 hi;omega)]
def repW(h B:ZL)(s:WS):Prop:=
 s.1=h++zdQ B (B.length/8)∧(B.length%8=0→s.2.2=0)∧(B.length%8≠0→s.2.2=8-B.length%8∧s.2.1=byt B (B.length/8))
def rep_push {h B:ZL}{s:WS}(hs:repW h B s){b:Nat}(hb:b<2):repW h (B++[UInt8.ofNat b]) (zfW s b):=by
 obtain⟨l,la,fr⟩:=s;obtain⟨h1,h2,h3⟩:=hs;dsimp only at h1 h2 h3;obtain⟨q,r,hr,hn⟩:∃q r,r<8∧B.length=8*q+r:=⟨B.length/8,B.length%8,Zo,Zo⟩;have hbt:(UInt8.ofNat b).toNat=b:=by rw[UInt8.toNat_ofNat'];omega
 have hnew:=byt_new B (UInt8.ofNat b) q r hr hn;have hold:=zxX B (UInt8.ofNat b) q Zo;rw[hbt]at hnew;have hq:B.length/8=q:=Zo;have hm:B.length%8=r:=Zo;rw[hm]at h2;rw[hm,hq]at h3;rw[hq]at h1;have hl:(B++[UInt8.ofNat b]).length=8*q+r+1:=by rw[Yg,hn];rfl
 unfold repW zfW;rw[hl];dsimp only;by_cases r0:r=0
 ·subst r0;have e0:byt B q=0:=by unfold byt;repeat rw[bt_end B _ Zo]
  rw[h2 rfl,Yi rfl,show (8*q+0+1)/8=q by omega,show (8*q+0+1)%8=1 by omega];refine⟨by rw[hold];exact h1,by intro h;omega,fun _=>⟨rfl,?_⟩⟩;show b*2^7=_;rw[hnew,e0];omega
 obtain⟨h3,h4⟩:=h3 r0;by_cases r7:r=7
 ·subst r7;rw[Ye Zo,Yi Zo,show (8*q+7+1)/8=q+1 by omega,show (8*q+7+1)%8=0 by omega];refine⟨?_,fun _=>rfl,fun h=>absurd rfl h⟩;show l++[UInt8.ofNat (la+b*2^0)]=_;rw[ziZ,hold,hnew,h1,h4,YH]
 rw[Ye Zo,Ye Zo,show (8*q+r+1)/8=q by omega,show (8*q+r+1)%8=r+1 by omega];refine⟨by rw[hold];exact h1,by intro h;omega,fun _=>⟨by show fr-1=_;omega,?_⟩⟩;show la+b*2^(fr-1)=_;rw[hnew,h4,h3,show 8-r-1=7-r by omega]
def zus {h:ZL}:∀(k n:Nat) {B:ZL} {s:WS},repW h B s→repW h (B++bitF k n) (numW k n s)
 |0,n,B,s,hs=>by rw[bitF,Yab];exact hs
 |k+1,n,B,s,hs=>by have:=zus k n (rep_push hs (show n/2^k%2<2 from YaL _ Zd));rw[YH]at this;exact this
def zjD {h:ZL}:∀(L:List (Nat×Nat)) {B:ZL} {s:WS},repW h B s→repW h (B++zb6 L) (numL L s)
 |[],B,s,hs=>by rw[show zb6 []=[]from rfl,Yab];exact hs
 |p::L,B,s,hs=>by have:=zjD L (zus p.2 p.1 hs);rw[YH]at this;exact this
def rep_fill {h B:ZL}{s:WS}(hs:repW h B s):(zca s).1=h++zdQ B ((B.length+7)/8):=by
 obtain⟨h1,h2,h3⟩:=hs;unfold zca;by_cases r:B.length%8=0
 ·rw[h2 r,Yi rfl,h1,show (B.length+7)/8=B.length/8 by omega]
 obtain⟨h4,h5⟩:=h3 r;rw[h4,Ye Zo];show s.1++_=_;rw[show (B.length+7)/8=B.length/8+1 by omega,ziZ,h1,h5,YH]
def zur(h:ZL):repW h [] (h,0,0):=⟨by show h=h++[];rw[Yab],fun _=>rfl,fun e=>absurd rfl e⟩
def body_law(m:Mach)(t:List Str):(zfa m t).1=headB m t++zdQ (zb6 (offP (layM m t) m.q m.q.length++zeO (layM m t) (wnum (wts m) (wts m).length) m.q m.q.length)) ((zbp (offP (layM m t) m.q m.q.length++zeO (layM m t) (wnum (wts m) (wts m).length) m.q m.q.length)+7)/8):=by rw[←zfd,za9];unfold zfa;generalize offP (layM m t) m.q m.q.length=L;generalize zeO (layM m t) (wnum (wts m) (wts m).length) m.q m.q.length=M;have h:=rep_fill (zjD M (zjD L (zur (headB m t))));rw[YaY]at h;exact h
def zbY(L M:List (Nat×Nat)):zbp (L++M)=zbp L+zbp M:=by unfold zbp;rw[Yax,List.sum_append]
def zyt(x:Lay)(e:Ens)(a:Arc):zbp (arcP x e a)=zgK x a:=by
 have c:∀(p:Nat×Nat) L,zbp (p::L)=p.2+zbp L:=fun _ _=>rfl;have c0:zbp []=0:=rfl;unfold arcP zgK;generalize widI x.nm=A;generalize widI ((x.wt:Int)-1)=B;generalize widI ((x.st:Int)-1)=C;split
 ·rw[c,c,YaY,c,c,c0];dsimp only;omega
 rw[c,c,zbY,c,c,c,c0];dsimp only;omega
def zt2(x:Lay)(e:Ens)(s:Sta):zbp (staP x e s)=zb8 x s:=by
 have h:∀A:List Arc,zbp (A.flatMap (arcP x e))=(A.map (zgK x)).sum:=fun A=>by
  induction A with
  |nil=>rfl
  |cons a A ih=>rw[List.flatMap_cons,zbY,zyt,ih];rfl
 unfold staP zb8;rw[show ∀(p:Nat×Nat) L,zbp (p::L)=p.2+zbp L from fun _ _=>rfl,zbY,show ∀(p:Nat×Nat) L,zbp (p::L)=p.2+zbp L from fun _ _=>rfl,h];split
 ·show 1+(0+_)=_;omega
 show 1+(widI ((x.wt:Int)-1)+0+_)=_;omega
def crcR(l:ZL)(c:Nat):Nat:=l.foldl (fun c x=>crcK 8 (c^^^x.toNat)) c
def xor_m2(a b:Nat):(a^^^b)%2=(a%2)^^^(b%2):=Nat.xor_mod_two_pow (n:=1)
def crcS_xor(a b:Nat):crcS (a^^^b)=crcS a^^^crcS b:=by
 unfold crcS;rw[xor_m2,Nat.xor_div_two];generalize a/2=p;generalize b/2=q;generalize hP:(3988292384:Nat)=P;rcases Nat.mod_two_eq_zero_or_one a with h1|h1<;>rcases Nat.mod_two_eq_zero_or_one b with h2|h2<;>rw[h1,h2]
 ·rfl
 ·rw[Yi Zd,Ye Zd,Yi rfl,Nat.xor_assoc]
 ·rw[Yi Zd,Yi rfl,Ye Zd,Nat.xor_assoc,Nat.xor_assoc,Nat.xor_comm q P]
 rw[Ye Zd,Yi rfl,Yi rfl,Nat.xor_assoc p P,←Nat.xor_assoc P q P,Nat.xor_comm P q,Nat.xor_assoc q P P,Nat.xor_self,Nat.xor_zero]
def zp9:∀(k a b:Nat),crcK k (a^^^b)=crcK k a^^^crcK k b
 |0,_,_=>rfl
 |k+1,a,b=>by rw[crcK,crcS_xor,zp9 k];rfl
def ziS:∀(k m:Nat),crcK k (m*2^k)=m
 |0,m=>by rw[crcK,Nat.pow_zero,Yas]
 |k+1,m=>by
  have h:m*2^(k+1)=m*2^k*2:=by rw[YG,YY]
  have:crcS (m*2^(k+1))=m*2^k:=by unfold crcS;rw[h,Ye Zo];omega
  rw[crcK,this,ziS k m]
def znL(c:Nat):c=(c%256)^^^(c/256*2^8):=by
 have h1:((c%256)^^^(c/256*2^8))%2^8=c%2^8:=by rw[Nat.xor_mod_two_pow,Nat.mul_mod_left,Nat.xor_zero];exact Nat.mod_mod_of_dvd c Zd
 have h2:((c%256)^^^(c/256*2^8))/2^8=c/2^8:=by rw[Nat.xor_div_two_pow,Nat.mul_div_cancel _ Zd,show c%256/2^8=0 by omega,Nat.zero_xor]
 omega
def crc_byte(c x:Nat):crcK 8 (c^^^x)=crcT ((c%256)^^^x)^^^(c/256):=by
 have h:c^^^x=((c%256)^^^x)^^^(c/256*2^8):=by rw[Nat.xor_assoc,Nat.xor_comm x,←Nat.xor_assoc,←znL]
 rw[h,zp9,ziS];rfl
def zwR:∀(l:ZL)(c:Nat),crcR l c=crcU l c
 |[],_=>rfl
 |x::l,c=>by show crcR l (crcK 8 (c^^^x.toNat))=crcU l (crcT ((c%256)^^^x.toNat)^^^(c/256));rw[zwR l,crc_byte]
def zht:∀(r l:List Str),IncS l→IncS (r.foldl insS l)∧∀y,y∈r.foldl insS l↔y∈l∨y∈r
 |[],l,h=>⟨h,fun y=>Zs⟩
 |a::r,l,h=>by obtain⟨h1,h2⟩:=zht r (insS l a) (zpU h a);refine⟨h1,fun y=>?_⟩;rw[YbC,h2,mem_insS,Yy];exact⟨fun h=>by rcases h with(h|h)|h<;>simp[h],fun h=>by rcases h with h|h|h<;>simp[h]⟩
def wts_law(m:Mach):(wtsM m).tail.foldl insS [m.l]=wts m:=by obtain⟨h1,h2⟩:=zht (wtsM m).tail [m.l] (List.pairwise_singleton _ _);obtain⟨h3,h4'⟩:=zeu (zei (wtsM m));have h4:∀y,y∈wts m↔y∈srtS (wtsM m):=h4';refine IncS.ext h1 h3 fun y=>?_;rw[h2,h4,srtS_mem];show y∈[m.l]∨y∈m.q.flatMap wtsS↔y∈m.l::m.q.flatMap wtsS;rw[YB,Yy]
def zwe {l:List Str}(h:IncS l):l.Nodup:=by refine List.Pairwise.imp (fun {a b} hab=>?_) h;rintro rfl;rw[zcV]at hab;cases hab
def zo4(l:List Str)(hn:l.Nodup)(a:Str):∀i,i≤l.length→valS (wnum l i) a=if l.idxOf a<i then(l.idxOf a:Int)else 0
 |0,_=>by rw[Ye (Ya0 _)];rfl
 |i+1,h=>by
  rw[zgq l i Zo,zjc,zo4 l hn a i Zo];have hi:=(zlK l).1 hn i Zo;by_cases e:l.getD i []=a
  ·rw[Yi e,←e,hi,Yi Zo]
  have hne:l.idxOf a≠i:=fun h'=>by have hlt:l.idxOf a<l.length:=Zo;have:=List.getElem_idxOf hlt;refine e ?_;rw[←this];subst h';simp[hlt]
  rw[Ye e];by_cases hl:l.idxOf a<i
  ·rw[Yi hl,Yi Zo]
  rw[Ye hl,Ye Zo]
def wnum_mem(l:List Str)(hi:IncS l)(a:Str)(ha:a∈l):valS (wnum l l.length) a=(l.idxOf a:Int):=by rw[zo4 l (zwe hi) a l.length (Yc _),Yi (List.idxOf_lt_length_iff.2 ha)]
def wts_inc(m:Mach):IncS (wts m):=(zeu (zei (wtsM m))).1
attribute [local go_sem] zbg
attribute [local go_sem] zbg
def zwQ(l:ZL)(i c:Nat)(h:i<l.length):crcR (l.take (i+1)) c=crcK 8 (crcR (l.take i) c^^^(l.getD i 0).toNat):=by unfold crcR;rw[YaW,List.foldl_append];simp[h]
attribute [local go_sem] zbE zas zcv zW
attribute [local go_sem] zbg zbE zas
def rowV(l:ZL):V:=.fs (l.map zq) l.length
structure StaOK(nm st ar:Nat)(w:List Str)(s:Sta):Prop where
 lay:LayOK ⟨nm,w.length,st,ar⟩ (wnum w w.length)
 wt:1≤w.length
 st:1≤st
 len:s.a.length≤100000
 arc:∀a∈s.a,zkI a
 inc:IncS w
 mem:∀a∈wtsS s,a∈w
structure StaP where
 nm:Nat
 st:Nat
 ar:Nat
 w:List Str
 s:Sta
end Go.Proofs

namespace Go.Proofs
open Tryz Go.Ab Go.Pl Go.Cnt
def rowsR:Row ZL where
 enc l:=[rowV l]
 n:=1
 dflt:=[]
 len _:=rfl
 pos:=Zd
 pure l x hx:=by rw[YB.1 hx];exact .fs (zaj l)
 one _:=rfl
 inj a b h:=by have h:=List.cons.inj h;have:=(V.fs.inj h.1).1;exact zdV (by unfold bly;rw[this])
def rows(l:List ZL):ZA:=rowsR.cells l
def conv_ro(b off n sz:Nat)(kc:Option Nat)(cs:ZA)(H:Hp)(hb:H.get b=some (.cells cs)):zcX prog 28 28 (.sl b off n sz kc) H=⟨True,.sl b off n sz kc,H.put b (.ro cs),[b],[b]⟩:=by have e1:prog.underlying 28=some (.slice 5):=Zk;have e2:prog.underlying 5=some (.int .u8):=Zk;unfold zcX zeF;simp only[e1,e2,hb,Yb6];rfl
end Go.Proofs

namespace Go.Proofs
open Go.Ab Go.Pl Go.Cnt
attribute [local go_sem] zbg zbE zas zcv zW
end Go.Proofs

namespace Go.Proofs
open Tryz Go.Ab Go.Pl Go.Cnt
attribute [local go_sem] zbE zas zcv zW
def arcW(q:List Sta):Int:=q.foldl (fun n s=>IntKind.i64.wrap (n+(s.a.length:Nat))) 0
def zmT(q:List Sta)(i:Nat)(h:i<q.length):arcW (q.take (i+1))=IntKind.i64.wrap (arcW (q.take i)+((nthQ q i).a.length:Nat)):=by unfold arcW;rw[show q.take (i+1)=q.take i++[nthQ q i]from staR.take_nth q i h,List.foldl_append];rfl
def arcs_ok(m:Mach)(h1:m.q.length≤1000000000000000)(h2:∀s∈m.q,s.a.length≤1000000000000000):PCall prog 19 [zad m] (.ret (.int .i64 (arcW m.q))):=by
 obtain⟨k,s,l,q⟩:=m;dsimp only at h1 h2;unfold zad;dsimp only;refine PCall.walk (rs:=[.tmp 2]) [0,1,2,3,4,9] [24] mixed (zh) (zg) call19 func19 rfl ntmps19 rfl Zk Zs (by simp[push_cast,zW]) ?_;simp(disch:=try exact Zq)only[go_sem];refine AXs.loop mixed (zh) (zg) (ι:=Nat) (fun i=>[(4,.int .i64 i),(3,.int .i64 (arcW (q.take i))),(1,.fp [.int .i64 k,.int .i64 s,.str l,.fs (stas q) q.length])]) (fun _=>⟨[],0⟩) (fun i=>i≤q.length) (fun i=>q.length-i) 0 Zk (Yk _) (Xb [] rfl rfl ?_ ?_) ?_
 ·simp only[go_sem];rfl
 ·simp only[go_sem]
 intro i h3;by_cases hi:i<q.length
 ·have d0:decide ((i:Int)<q.length)=true:=Yf Zo;have at1:=zcw q i hi;have ei:(i:Int)+1=((i+1:Nat):Int):=Zo;have hsu:=zmT q i hi;have hl:=h2 _ (staR.nth_mem hi);simp(disch:=try exact Zq)only[go_sem,d0,at1,ei];rw[←hsu];exact⟨⟨Zo,Zo⟩,Zo,zi (i+1) hi (by show q.length-(i+1)<q.length-i;omega) (Xb [] rfl rfl Zg Zg)⟩
 obtain rfl:i=q.length:=Zo;have d0:decide ((q.length:Int)<q.length)=false:=Yd Zo;simp(disch:=try exact Zq)only[go_sem,d0];refine AXa.go mixed (zh) (zg) Zk ?_;simp(disch:=try exact Zq)only[go_sem];rw[Ym]
def cArcs:ZV:=zL (fun m:Mach=>[zad m]) (fun m=>m.q.length≤1000000000000000∧∀s∈m.q,s.a.length≤1000000000000000) fun m=>.ret (.int .i64 (arcW m.q))
def cArcs_eq(m:Mach)(h1:m.q.length≤1000000000000000)(h2:∀s∈m.q,s.a.length≤1000000000000000):cArcs [zad m]=some (.ret (.int .i64 (arcW m.q))):=zo (pat:=fun m:Mach=>[zad m]) (fun x y h=>zcK (by simpa using h)) m ⟨h1,h2⟩
def cArcs_ok:ZC cArcs 19:=zn fun m h=>arcs_ok m h.1 h.2
def zjr(s:Sta):Bool:=decide (900<s.f.length)||s.a.any fun a=>decide (900<a.w.length)
def bigB(m:Mach)(t:List Str):Bool:=decide (200<m.q.length)||(decide (1000<arcW m.q)||(decide (900<m.l.length)||(decide (60<t.length)||(m.q.any zjr||t.any fun x=>decide (60<x.length)))))
def any_nth {q:List Sta}{p:Sta→Bool}{i:Nat}(h:i<q.length)(hp:p (nthQ q i)=true):q.any p=true:=List.any_eq_true.2 ⟨_,staR.nth_mem h,hp⟩
def any_none {q:List Sta}{p:Sta→Bool}(h:∀i,i<q.length→p (nthQ q i)=false):q.any p=false:=by rw[List.any_eq_false];intro s hs;obtain⟨i,hi,rfl⟩:=YaB.1 hs;have:=h i hi;unfold nthQ Row.nth at this;rw[Ya,Yb hi]at this;rw[show (some q[i]).getD staR.dflt=q[i]from rfl]at this;rw[this];decide
def zyz {q:List Arc}{p:Arc→Bool}(h:∀i,i<q.length→p (nthA q i)=false):q.any p=false:=by rw[List.any_eq_false];intro s hs;obtain⟨i,hi,rfl⟩:=YaB.1 hs;have:=h i hi;unfold nthA Row.nth at this;rw[Ya,Yb hi]at this;rw[show (some q[i]).getD arcR.dflt=q[i]from rfl]at this;rw[this];decide
def large_ok(m:Mach)(t:List Str)(h1:m.q.length≤1000000000000000)(h2:∀s∈m.q,s.a.length≤1000000000000000)(h3:t.length≤1000000000000000)(h4:m.l.length≤1000000000000000)(h5:∀s∈m.q,s.f.length≤1000000000000000)(h6:∀s∈m.q,∀a∈s.a,a.w.length≤1000000000000000)(h7:∀j,(t.getD j []).length≤1000000000000000):PCall prog 6 [zad m,.fs (strs t) t.length] (.ret (.bool (bigB m t))):=by
 have hΓ:=zf cArcs_ok zh;have hca:=cArcs_eq m h1 h2;obtain⟨k,s,l,q⟩:=m;have hR:bigB ⟨k,s,l,q⟩ t=(decide (200<q.length)||(decide (1000<arcW q)||(decide (900<l.length)||(decide (60<t.length)||(q.any zjr||t.any fun x=>decide (60<x.length)))))):=rfl;dsimp only at h1 h2 h4 h5 h6 hca;generalize bigB ⟨k,s,l,q⟩ t=R at*;generalize hAW:arcW q=AW at*;unfold zad at hca ⊢;dsimp only at hca ⊢;refine PCall.walk (rs:=[.tmp 4]) [0,1,2,4,5,6,7,27,32,42,51,65,69,77] [24] mixed (hΓ) (zg) call6 func6 rfl ntmps6 rfl Zk Zs (by simp[push_cast,zW]) ?_;by_cases c1:200<q.length
 ·have e1:decide ((200:Int)<q.length)=true:=Yf Zo;rw[Yf c1,Bool.true_or]at hR;simp(disch:=try exact Zq)only[go_sem,e1,hca];exact hR.symm
 have e1:decide ((200:Int)<q.length)=false:=Yd Zo;rw[Yd c1,YaT]at hR;by_cases c2:1000<AW
 ·have e2:decide ((1000:Int)<AW)=true:=Yf c2;rw[e2,Bool.true_or]at hR;simp(disch:=try exact Zq)only[go_sem,e1,e2,hca];exact hR.symm
 have e2:decide ((1000:Int)<AW)=false:=Yd c2;rw[e2,YaT]at hR;by_cases c3:900<l.length
 ·have e3:decide ((900:Int)<l.length)=true:=Yf Zo;rw[Yf c3,Bool.true_or]at hR;simp(disch:=try exact Zq)only[go_sem,e1,e2,e3,hca];exact hR.symm
 have e3:decide ((900:Int)<l.length)=false:=Yd Zo;rw[Yd c3,YaT]at hR;by_cases c4:60<t.length
 ·have e4:decide ((60:Int)<t.length)=true:=Yf Zo;rw[Yf c4,Bool.true_or]at hR;simp(disch:=try exact Zq)only[go_sem,e1,e2,e3,e4,hca];exact hR.symm
 have e4:decide ((60:Int)<t.length)=false:=Yd Zo;rw[Yd c4,YaT]at hR;simp(disch:=try exact Zq)only[go_sem,e1,e2,e3,e4,hca];refine AXs.loop mixed (hΓ) (zg) (ι:=Nat) (fun i=>[(5,.int .i64 i),(2,.fp [.int .i64 k,.int .i64 s,.str l,.fs (stas q) q.length]),(1,.fs (strs t) t.length)]) (fun _=>⟨[],0⟩) (fun i=>i≤q.length∧∀j,j<i→zjr (nthQ q j)=false) (fun i=>q.length-i) 0 Zk ⟨Yk _,fun j hj=>absurd hj (Ya0 _)⟩ (Xb [] rfl rfl ?_ ?_) ?_
 ·simp only[go_sem]
 ·simp only[go_sem]
 rintro i ⟨g1,g2⟩;by_cases hi:i<q.length
 ·have d0:decide ((i:Int)<q.length)=true:=Yf Zo;have at1:=zcw q i hi;have hsm:nthQ q i∈q:=staR.nth_mem hi;have hl:=h2 _ hsm;have hf:=h5 _ hsm;have hw6:=h6 _ hsm;have hany:=fun hp=>any_nth (p:=zjr) hi hp;have ei:(i:Int)+1=((i+1:Nat):Int):=Zo;generalize hst:nthQ q i=st at*;obtain⟨F,A⟩:=st;dsimp only at at1 hl hf hw6;by_cases c5:900<F.length
  ·have e5:decide ((900:Int)<F.length)=true:=Yf Zo;rw[hany (by unfold zjr;rw[Yf c5];rfl),Bool.true_or]at hR;subst hR;simp(disch:=try exact Zq)only[go_sem,d0,at1,e5];exact⟨Zo,Zo⟩
  have e5:decide ((900:Int)<F.length)=false:=Yd Zo;simp(disch:=try exact Zq)only[go_sem,d0,at1,e5];have atS:(stas q).drop (i*2)=.str F::.fs (arcs A) A.length::stas (q.drop (i+1)):=at1;refine⟨⟨Zo,Zo⟩,?_⟩;refine AXs.loop mixed (hΓ) (zg) (ι:=Nat) (fun j=>[(6,.int .i64 j),(5,.int .i64 i),(2,.fp [.int .i64 k,.int .i64 s,.str l,.fs (stas q) q.length]),(1,.fs (strs t) t.length)]) (fun _=>⟨[],0⟩) (fun j=>j≤A.length∧∀x,x<j→decide (900<(nthA A x).w.length)=false) (fun j=>A.length-j) 0 Zk ⟨Yk _,fun j hj=>absurd hj (Ya0 _)⟩ (Xb [] rfl rfl ?_ ?_) ?_
  ·simp only[go_sem]
  ·simp only[go_sem]
  rintro j ⟨p1,p2⟩;by_cases hj:j<A.length
  ·have d2:decide ((j:Int)<A.length)=true:=Yf Zo;have at2:=zcA A j hj;have ham:nthA A j∈A:=arcR.nth_mem hj;have hwl:=hw6 _ ham;have ej:(j:Int)+1=((j+1:Nat):Int):=Zo;have hany2:decide (900<(nthA A j).w.length)=true→(A.any fun a=>decide (900<a.w.length))=true:=fun hp=>List.any_eq_true.2 ⟨_,ham,hp⟩;generalize hax:nthA A j=ax at at2 hwl hany2;by_cases c6:900<ax.w.length
   ·have e6:decide ((900:Int)<ax.w.length)=true:=Yf Zo;rw[hany (by unfold zjr;rw[hany2 (Yf c6),Bool.or_true]),Bool.true_or]at hR;subst hR;simp(disch:=try exact Zq)only[go_sem,d0,atS,d2,at2,e6];exact⟨⟨Zo,Zo⟩,Zo,⟨Zo,Zo⟩,Zo,Zo,Zo⟩
   have e6:decide ((900:Int)<ax.w.length)=false:=Yd Zo;simp(disch:=try exact Zq)only[go_sem,d0,atS,d2,at2,e6,ej];refine⟨⟨Zo,Zo⟩,Zo,⟨Zo,Zo⟩,Zo,⟨Zo,Zo⟩,zi (j+1) ⟨hj,fun x hx=>?_⟩ (by show A.length-(j+1)<A.length-j;omega) (Xb [] rfl rfl Zg Zg)⟩;rcases YaJ x j with h|h
   ·exact p2 x h
   obtain rfl:x=j:=by have:x<j+1:=hx;omega
   rw[hax];exact Yd c6
  obtain rfl:j=A.length:=Zo;have d2:decide ((A.length:Int)<A.length)=false:=Yd Zo;have hst2:zjr ⟨F,A⟩=false:=by unfold zjr;rw[Yd c5,YaT];exact zyz p2
  simp(disch:=try exact Zq)only[go_sem,d0,atS,d2];refine⟨⟨Zo,Zo⟩,Zo,?_⟩;refine AXa.go mixed (hΓ) (zg) Zk ?_;simp(disch:=try exact Zq)only[go_sem,ei];refine zi (i+1) ⟨hi,fun x hx=>?_⟩ (by show q.length-(i+1)<q.length-i;omega) (Xb [] rfl rfl Zg Zg);rcases YaJ x i with h|h
  ·exact g2 x h
  obtain rfl:x=i:=by have:x<i+1:=hx;omega
  rw[hst];exact hst2
 obtain rfl:i=q.length:=Zo;have d0:decide ((q.length:Int)<q.length)=false:=Yd Zo;rw[any_none g2,YaT]at hR;simp(disch:=try exact Zq)only[go_sem,d0];refine AXa.go mixed (hΓ) (zg) Zk ?_;simp(disch:=try exact Zq)only[go_sem];refine AXs.loop mixed (hΓ) (zg) (ι:=Nat) (fun i=>[(7,.int .i64 i),(1,.fs (strs t) t.length)]) (fun _=>⟨[],0⟩) (fun i=>i≤t.length∧∀j,j<i→¬60<(t.getD j []).length) (fun i=>t.length-i) 0 Zk ⟨Yk _,fun j hj=>absurd hj (Ya0 _)⟩ (Xb [] rfl rfl ?_ ?_) ?_
 ·simp only[go_sem]
 ·simp only[go_sem]
 rintro i ⟨p1,p2⟩;by_cases hi:i<t.length
 ·have d2:decide ((i:Int)<t.length)=true:=Yf Zo;have hm:t.getD i []∈t:=getD_mem hi;have h7i:=h7 i;have ei:(i:Int)+1=((i+1:Nat):Int):=Zo;have hany2:decide (60<(t.getD i []).length)=true→(t.any fun x=>decide (60<x.length))=true:=fun hp=>List.any_eq_true.2 ⟨_,hm,hp⟩;generalize hx:t.getD i []=x at hany2 h7i;by_cases c6:60<x.length
  ·have e6:decide ((60:Int)<x.length)=true:=Yf Zo;rw[hany2 (Yf c6)]at hR;subst hR;simp(disch:=try exact Zq)only[go_sem,d2,hx,e6];exact⟨⟨Zo,Zo⟩,Zo⟩
  have e6:decide ((60:Int)<x.length)=false:=Yd Zo;simp(disch:=try exact Zq)only[go_sem,d2,hx,e6,ei];refine⟨⟨Zo,Zo⟩,Zo,zi (i+1) ⟨hi,fun y hy=>?_⟩ (by show t.length-(i+1)<t.length-i;omega) (Xb [] rfl rfl Zg Zg)⟩;rcases YaJ y i with h|h
  ·exact p2 y h
  obtain rfl:y=i:=by have:y<i+1:=hy;omega
  rw[hx];exact c6
 obtain rfl:i=t.length:=Zo;have d2:decide ((t.length:Int)<t.length)=false:=Yd Zo;have hno:(t.any fun x=>decide (60<x.length))=false:=by rw[List.any_eq_false];intro x hx;obtain⟨j,hj,rfl⟩:=YaB.1 hx;have:=p2 j hj;rw[show t.getD j []=t[j]by simp[hj]]at this;simpa using this
 rw[hno]at hR;subst hR;simp(disch:=try exact Zq)only[go_sem,d2];refine AXa.go mixed (hΓ) (zg) Zk ?_;simp(disch:=try exact Zq)only[go_sem]
def zd6(l:ZL)(n:Nat)(H:Hp)(hn:n=l.length):zcX prog 28 9 (.fs (l.map zq) n) H=⟨True,.str l,H,[],[]⟩:=by subst hn;exact ziT 28 9 5 _ (l.map zq) l.length [] l Zk Zk Zk (by simp[zaE]) (zkD l)
structure InP(m:Mach)(t:List Str):Prop where
 q:m.q.length≤1000000000000000
 a:∀s∈m.q,s.a.length≤1000000000000000
 tl:t.length≤1000000000000000
 l:m.l.length≤1000000000000000
 f:∀s∈m.q,s.f.length≤1000000000000000
 w:∀s∈m.q,∀a∈s.a,a.w.length≤1000000000000000
 ts:∀j,(t.getD j []).length≤1000000000000000
def cLarge:ZV:=zL (fun p:Mach×List Str=>[zad p.1,.fs (strs p.2) p.2.length]) (fun p=>InP p.1 p.2) fun p=>.ret (.bool (bigB p.1 p.2))
def zxO(m:Mach)(t:List Str)(h:InP m t):cLarge [zad m,.fs (strs t) t.length]=some (.ret (.bool (bigB m t))):=
 zo (pat:=fun p:Mach×List Str=>[zad p.1,V.fs (strs p.2) p.2.length]) (fun x y h=>by simp only[Yt,V.fs.injEq,Yad]at h;exact YaC (zcK h.1) (zbv h.2.1)) (m,t) h
def ze9:ZC cLarge 6:=zn fun p h=>large_ok p.1 p.2 h.q h.a h.tl h.l h.f h.w h.ts
def zth(q:List Sta)(h1:q.length≤200)(h2:∀s∈q,s.a.length≤1000000000000000):arcW q=(arcN q:Nat):=by
 have key:∀i,i≤q.length→arcW (q.take i)=(sumA q i:Nat)∧sumA q i≤1000000000000000*i:=by
  intro i;induction i with
  |zero=>intro _;exact⟨by simp[arcW,sumA,arcN],by simp[sumA,arcN]⟩
  |succ i ih=>intro h;obtain⟨h3,h4⟩:=ih Zo;have h5:=h2 _ (staR.nth_mem (show i<q.length by omega));have h6:=zdx q i Zo;have h5':(nthQ q i).a.length≤1000000000000000:=h5;refine⟨?_,Zo⟩;rw[zmT q i Zo,h3,h6,wrap_i64 _ Zo Zo];omega
 have:=(key q.length (Yc _)).1;rw[Ym,zbP]at this;exact this
def zqv {m:Mach}{t:List Str}(h:InP m t)(hb:bigB m t=false):PackOK m t:=by
 unfold bigB at hb;simp only[Yb9,Yat]at hb;obtain⟨b1,b2,b3,b4,b5,b6⟩:=hb;have ha:=zth m.q Zo h.a;have hn:arcN m.q≤1000:=Zo;have hs:∀s∈m.q,s.f.length≤900∧∀a∈s.a,a.w.length≤900:=fun s hs=>by have:=List.any_eq_false.1 b5 s hs;unfold zjr at this;simp only[Yaj,Yn,not_or,List.any_eq_true,not_exists,not_and]at this;exact⟨Zo,fun a ha=>by have:=this.2 a ha;omega⟩
 have htl:∀x∈t,x.length≤60:=fun x hx=>by have:=List.any_eq_false.1 b6 x hx;simp only[Yn]at this;omega
 refine⟨⟨Zo,fun s h=>by have:=zff h;omega,Zo,fun s h=>by have:=(hs s h).1;omega,fun s h a ha=>by have:=(hs s h).2 a ha;omega⟩,Zo,fun j=>?_,fun w hw=>?_⟩
 ·rw[Ya];by_cases hj:j<t.length
  ·rw[Yb hj];have:=htl _ (Y1 hj);simp only[YbJ];omega
  rw[Yo Zo];simp
 unfold wtsM at hw;rcases Yy.1 hw with rfl|hw
 ·omega
 obtain⟨s,hs1,hw⟩:=Yay.1 hw;unfold wtsS at hw;rcases Yam.1 hw with hw|hw
 ·split at hw
  ·cases hw
  rw[YB.1 hw];have:=(hs s hs1).1;omega
 obtain⟨a,ha1,rfl⟩:=YZ.1 hw;have:=(hs s hs1).2 a ha1;omega
def cAwk:ZV:=zL (fun _:Unit=>[]) (fun _=>True) fun _=>.ret (.bool true)
def zfH:cAwk []=some (.ret (.bool true)):=zo (pat:=fun _:Unit=>([]:ZA)) (fun _ _ _=>rfl) () trivial
def zkC(h:PCall prog 7 [] (.ret (.bool true))):ZC cAwk 7:=zn fun _ _=>h
end Go.Proofs
