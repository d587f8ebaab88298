/- Plain laws of a file: bits in groups of eight; the checksum bit by bit; the weights in their order; their numbers. -/
import Derived.Test.YtbdlfegfepggnaaGreatDoorPk13
set_option linter.all false
set_option maxHeartbeats 16000000
set_option maxRecDepth 100000
noncomputable section
namespace Go.Proofs
open Go.Ab Go.Pl Go.Cnt
def zaE(L:List (Nat×Nat)):ZL:=L.flatMap fun p=>bitF p.2 p.1
def zaY(L M:List (Nat×Nat)):zaE (L++M)=zaE L++zaE M:=List.flatMap_append
theorem zvv(p:Nat×Nat)(L:List (Nat×Nat)):zaE (p::L)=bitF p.2 p.1++zaE L:=rfl
def zck:∀L:List (Nat×Nat),(zaE L).length=zbK L
 |[]=>rfl
 |p::L=>by rw[zvv,Yd,zc3,zck L];rfl
def bt(B:ZL)(i:Nat):Nat:=(B.getD i 0).toNat
def byt(B:ZL)(i:Nat):Nat:=bt B (8*i)*128+bt B (8*i+1)*64+bt B (8*i+2)*32+bt B (8*i+3)*16+bt B (8*i+4)*8+bt B (8*i+5)*4+bt B (8*i+6)*2+bt B (8*i+7)
def zAG(B:ZL)(b:UInt8)(i:Nat):bt (B++[b]) i=if i<B.length then bt B i else if i=B.length then b.toNat else 0:=by
 unfold bt;rw[Ya,Ya];split
 ·rename_i h;rw[YQ h]
 rename_i h;rw[Yax Zo];split
 ·rename_i e;subst e;simp
 rw[Yr (by simp;omega)];rfl
def bt_end(B:ZL)(i:Nat)(h:B.length≤i):bt B i=0:=by unfold bt;rw[Ya,Yr h];rfl
def byt_old(B:ZL)(b:UInt8)(i:Nat)(h:8*i+8≤B.length):byt (B++[b]) i=byt B i:=by unfold byt;simp only[zAG];rw[Yi Zo,Yi Zo,Yi Zo,Yi Zo,Yi Zo,Yi Zo,Yi Zo,Yi Zo]
def byt_new(B:ZL)(b:UInt8)(q r:Nat)(hr:r<8)(h:B.length=8*q+r):byt (B++[b]) q=byt B q+b.toNat*2^(7-r):=by
 unfold byt;simp only[zAG,h];rcases(show r=0∨r=1∨r=2∨r=3∨r=4∨r=5∨r=6∨r=7 by omega)with rfl|rfl|rfl|rfl|rfl|rfl|rfl|rfl
 all_goals simp(disch:=omega)only[Yi,Yh,bt_end]
 all_goals (simp(config:={ decide:=true })only[Nat.lt_irrefl,if_false,if_true,Y3,Nat.add_lt_add_iff_left,Nat.add_right_cancel_iff,Nat.add_left_cancel_iff,Nat.add_eq_left,Nat.lt_add_right_iff_pos])
 all_goals (repeat rw[bt_end B _ Zo])
 all_goals (try simp(disch:=omega)only[Yi,Yh])
 all_goals omega
def pad_byt(B:ZL)(k i:Nat):byt (B++List.replicate k 0) i=byt B i:=by
 have:∀j,bt (B++List.replicate k 0) j=bt B j:=fun j=>by
  unfold bt;rw[Ya,Ya];rcases YaX j B.length with h|h
  ·rw[YQ h]
  rw[Yax h,Yr (l:=B) h,Ycj];split<;>rfl
 unfold byt;simp only[this]
def zcj(B:ZL)(k:Nat):ZL:=(List.range k).map fun i=>UInt8.ofNat (byt B i)
def zgp(B:ZL)(k:Nat):zcj B (k+1)=zcj B k++[UInt8.ofNat (byt B k)]:=by unfold zcj;rw[List.range_succ,YV];rfl
def zAD(B:ZL)(b:UInt8)(k:Nat)(h:8*k≤B.length):zcj (B++[b]) k=zcj B k:=by unfold zcj;refine Ycd fun i hi=>?_;rw[byt_old B b i (by have:=Yb3.1 hi;omega)]
def zAC(B:ZL)(z k:Nat):zcj (B++List.replicate z 0) k=zcj B k:=by unfold zcj;simp only[pad_byt]
def repW(h B:ZL)(s:WS):Prop:=
 s.1=h++zcj B (B.length/8)∧(B.length%8=0→s.2.2=0)∧(B.length%8≠0→s.2.2=8-B.length%8∧s.2.1=byt B (B.length/8))
def rep_push {h B:ZL}{s:WS}(hs:repW h B s){b:Nat}(hb:b<2):repW h (B++[UInt8.ofNat b]) (zgI s b):=by
 obtain⟨l,la,fr⟩:=s;obtain⟨h1,h2,h3⟩:=hs;dsimp only at h1 h2 h3;obtain⟨q,r,hr,hn⟩:∃q r,r<8∧B.length=8*q+r:=⟨B.length/8,B.length%8,Zo,Zo⟩;have hbt:(UInt8.ofNat b).toNat=b:=by rw[UInt8.toNat_ofNat'];omega
 have hnew:=byt_new B (UInt8.ofNat b) q r hr hn;have hold:=zAD B (UInt8.ofNat b) q Zo;rw[hbt]at hnew;have hq:B.length/8=q:=Zo;have hm:B.length%8=r:=Zo;rw[hm]at h2;rw[hm,hq]at h3;rw[hq]at h1;have hl:(B++[UInt8.ofNat b]).length=8*q+r+1:=by rw[Yd,hn];rfl
 unfold repW zgI;rw[hl];dsimp only;by_cases r0:r=0
 ·subst r0;have e0:byt B q=0:=by unfold byt;repeat rw[bt_end B _ Zo]
  rw[h2 rfl,Yi rfl,show (8*q+0+1)/8=q by omega,show (8*q+0+1)%8=1 by omega];refine⟨by rw[hold];exact h1,by intro h;omega,fun _=>⟨rfl,?_⟩⟩;show b*2^7=_;rw[hnew,e0];omega
 obtain⟨h3,h4⟩:=h3 r0;by_cases r7:r=7
 ·subst r7;rw[Yh Zo,Yi Zo,show (8*q+7+1)/8=q+1 by omega,show (8*q+7+1)%8=0 by omega];refine⟨?_,fun _=>rfl,fun h=>absurd rfl h⟩;show l++[UInt8.ofNat (la+b*2^0)]=_;rw[zgp,hold,hnew,h1,h4,YR]
 rw[Yh Zo,Yh Zo,show (8*q+r+1)/8=q by omega,show (8*q+r+1)%8=r+1 by omega];refine⟨by rw[hold];exact h1,by intro h;omega,fun _=>⟨by show fr-1=_;omega,?_⟩⟩;show la+b*2^(fr-1)=_;rw[hnew,h4,h3,show 8-r-1=7-r by omega]
def zwQ {h:ZL}:∀(k n:Nat) {B:ZL} {s:WS},repW h B s→repW h (B++bitF k n) (numW k n s)
 |0,n,B,s,hs=>by rw[bitF,Y7];exact hs
 |k+1,n,B,s,hs=>by have:=zwQ k n (rep_push hs (show n/2^k%2<2 from YaJ _ Zd));rw[YR]at this;exact this
def zkI {h:ZL}:∀(L:List (Nat×Nat)) {B:ZL} {s:WS},repW h B s→repW h (B++zaE L) (numL L s)
 |[],B,s,hs=>by rw[show zaE []=[]from rfl,Y7];exact hs
 |p::L,B,s,hs=>by have:=zkI L (zwQ p.2 p.1 hs);rw[YR]at this;exact this
def rep_fill {h B:ZL}{s:WS}(hs:repW h B s):(zcu s).1=h++zcj B ((B.length+7)/8):=by
 obtain⟨h1,h2,h3⟩:=hs;unfold zcu;by_cases r:B.length%8=0
 ·rw[h2 r,Yi rfl,h1,show (B.length+7)/8=B.length/8 by omega]
 obtain⟨h4,h5⟩:=h3 r;rw[h4,Yh Zo];show s.1++_=_;rw[show (B.length+7)/8=B.length/8+1 by omega,zgp,h1,h5,YR]
def zwP(h:ZL):repW h [] (h,0,0):=⟨by show h=h++[];rw[Y7],fun _=>rfl,fun e=>absurd rfl e⟩
def body_law(m:Mach)(t:List Str):(zlS m t).1=headB m t++zcj (zaE (offP (layM m t) m.q m.q.length++zeK (layM m t) (wnum (wts m) (wts m).length) m.q m.q.length)) ((zbK (offP (layM m t) m.q m.q.length++zeK (layM m t) (wnum (wts m) (wts m).length) m.q m.q.length)+7)/8):=by rw[←zck,zaY];unfold zlS;generalize offP (layM m t) m.q m.q.length=L;generalize zeK (layM m t) (wnum (wts m) (wts m).length) m.q m.q.length=M;have h:=rep_fill (zkI M (zkI L (zwP (headB m t))));rw[YaK]at h;exact h
def zc2(L M:List (Nat×Nat)):zbK (L++M)=zbK L+zbK M:=by unfold zbK;rw[YV,List.sum_append]
def zA9(x:Lay)(e:Ens)(a:Arc):zbK (arcP x e a)=zhw x a:=by
 have c:∀(p:Nat×Nat) L,zbK (p::L)=p.2+zbK L:=fun _ _=>rfl;have c0:zbK []=0:=rfl;unfold arcP zhw;generalize widI x.nm=A;generalize widI ((x.wt:Int)-1)=B;generalize widI ((x.st:Int)-1)=C;split
 ·rw[c,c,YaK,c,c,c0];dsimp only;omega
 rw[c,c,zc2,c,c,c,c0];dsimp only;omega
def zwk(x:Lay)(e:Ens)(s:Sta):zbK (staP x e s)=zcf x s:=by
 have h:∀A:List Arc,zbK (A.flatMap (arcP x e))=(A.map (zhw x)).sum:=fun A=>by
  induction A with
  |nil=>rfl
  |cons a A ih=>rw[List.flatMap_cons,zc2,zA9,ih];rfl
 unfold staP zcf;rw[show ∀(p:Nat×Nat) L,zbK (p::L)=p.2+zbK L from fun _ _=>rfl,zc2,show ∀(p:Nat×Nat) L,zbK (p::L)=p.2+zbK L from fun _ _=>rfl,h];split
 ·show 1+(0+_)=_;omega
 show 1+(widI ((x.wt:Int)-1)+0+_)=_;omega
def crcR(l:ZL)(c:Nat):Nat:=l.foldl (fun c x=>crcK 8 (c^^^x.toNat)) c
def xor_m2(a b:Nat):(a^^^b)%2=(a%2)^^^(b%2):=Nat.xor_mod_two_pow (n:=1)
def crcS_xor(a b:Nat):crcS (a^^^b)=crcS a^^^crcS b:=by
 unfold crcS;rw[xor_m2,Nat.xor_div_two];generalize a/2=p;generalize b/2=q;generalize hP:(3988292384:Nat)=P;rcases Nat.mod_two_eq_zero_or_one a with h1|h1<;>rcases Nat.mod_two_eq_zero_or_one b with h2|h2<;>rw[h1,h2]
 ·rfl
 ·rw[Yi Zd,Yh Zd,Yi rfl,Nat.xor_assoc]
 ·rw[Yi Zd,Yi rfl,Yh Zd,Nat.xor_assoc,Nat.xor_assoc,Nat.xor_comm q P]
 rw[Yh Zd,Yi rfl,Yi rfl,Nat.xor_assoc p P,←Nat.xor_assoc P q P,Nat.xor_comm P q,Nat.xor_assoc q P P,Nat.xor_self,Nat.xor_zero]
def zr0:∀(k a b:Nat),crcK k (a^^^b)=crcK k a^^^crcK k b
 |0,_,_=>rfl
 |k+1,a,b=>by rw[crcK,crcS_xor,zr0 k];rfl
def zjR:∀(k m:Nat),crcK k (m*2^k)=m
 |0,m=>by rw[crcK,Nat.pow_zero,Yag]
 |k+1,m=>by
  have h:m*2^(k+1)=m*2^k*2:=by rw[YM,Yad]
  have:crcS (m*2^(k+1))=m*2^k:=by unfold crcS;rw[h,Yh Zo];omega
  rw[crcK,this,zjR k m]
def zpn(c:Nat):c=(c%256)^^^(c/256*2^8):=by
 have h1:((c%256)^^^(c/256*2^8))%2^8=c%2^8:=by rw[Nat.xor_mod_two_pow,Nat.mul_mod_left,Nat.xor_zero];exact Nat.mod_mod_of_dvd c Zd
 have h2:((c%256)^^^(c/256*2^8))/2^8=c/2^8:=by rw[Nat.xor_div_two_pow,Nat.mul_div_cancel _ Zd,show c%256/2^8=0 by omega,Nat.zero_xor]
 omega
def crc_byte(c x:Nat):crcK 8 (c^^^x)=crcT ((c%256)^^^x)^^^(c/256):=by
 have h:c^^^x=((c%256)^^^x)^^^(c/256*2^8):=by rw[Nat.xor_assoc,Nat.xor_comm x,←Nat.xor_assoc,←zpn]
 rw[h,zr0,zjR];rfl
def zpY:∀(l:ZL)(c:Nat),crcR l c=crcU l c
 |[],_=>rfl
 |x::l,c=>by show crcR l (crcK 8 (c^^^x.toNat))=crcU l (crcT ((c%256)^^^x.toNat)^^^(c/256));rw[zpY l,crc_byte]
def zcL:∀(r l:List Str),IncS l→IncS (r.foldl insS l)∧∀y,y∈r.foldl insS l↔y∈l∨y∈r
 |[],l,h=>⟨h,fun y=>Zs⟩
 |a::r,l,h=>by obtain⟨h1,h2⟩:=zcL r (insS l a) (zlp h a);refine⟨h1,fun y=>?_⟩;rw[YbJ,h2,mem_insS,Yy];exact⟨fun h=>by rcases h with(h|h)|h<;>simp[h],fun h=>by rcases h with h|h|h<;>simp[h]⟩
def zvR(m:Mach):(wtsM m).tail.foldl insS [m.l]=wts m:=by obtain⟨h1,h2⟩:=zcL (wtsM m).tail [m.l] (List.pairwise_singleton _ _);obtain⟨h3,h4'⟩:=zfa (zeW (wtsM m));have h4:∀y,y∈wts m↔y∈srtS (wtsM m):=h4';refine IncS.ext h1 h3 fun y=>?_;rw[h2,h4,srtS_mem];show y∈[m.l]∨y∈m.q.flatMap wtsS↔y∈m.l::m.q.flatMap wtsS;rw[YW,Yy]
def zyI {l:List Str}(h:IncS l):l.Nodup:=by refine List.Pairwise.imp (fun {a b} hab=>?_) h;rintro rfl;rw[zcQ]at hab;cases hab
def zqQ(l:List Str)(hn:l.Nodup)(a:Str):∀i,i≤l.length→valS (wnum l i) a=if l.idxOf a<i then(l.idxOf a:Int)else 0
 |0,_=>by rw[Yh (Ybf _)];rfl
 |i+1,h=>by
  rw[zhg l i Zo,zkc,zqQ l hn a i Zo];have hi:=(zmY l).1 hn i Zo;by_cases e:l.getD i []=a
  ·rw[Yi e,←e,hi,Yi Zo]
  have hne:l.idxOf a≠i:=fun h'=>by have hlt:l.idxOf a<l.length:=Zo;have:=List.getElem_idxOf hlt;refine e ?_;rw[←this];subst h';simp[hlt]
  rw[Yh e];by_cases hl:l.idxOf a<i
  ·rw[Yi hl,Yi Zo]
  rw[Yh hl,Yh Zo]
def zqP(l:List Str)(hi:IncS l)(a:Str)(ha:a∈l):valS (wnum l l.length) a=(l.idxOf a:Int):=by rw[zqQ l (zyI hi) a l.length (Yc _),Yi (List.idxOf_lt_length_iff.2 ha)]
def wts_inc(m:Mach):IncS (wts m):=(zfa (zeW (wtsM m))).1
end Go.Proofs

namespace Go.Proofs
open Tryz Go.Ab Go.Pl Go.Cnt
attribute [local go_sem] zbJ
def rfold_N(d:ZL)(l:List ZL)(h0:d≠[])(hl:d.length+20*l.length+sumL l≤80000000)(hs:∀s∈l,s.length≤1000000):NCall prog 41 [.sl 0 0 d.length 1 none,.fs (strs l) l.length] [bly d] [0] (.sl 1 0 (d++za3 [] l).length 1 none) ⟨[(1,bly (d++za3 [] l))],2⟩:=by
 refine Xi (rs:=[.tmp 4]) [0,1,4,5,6,7,11,38] [] 1 [0] mixed (zh) (zcE) call41 func41 rfl ntmps41 rfl Zk Zs Zs Zs Zs ?_;simp(disch:=try exact Zq)only[go_sem];refine AXs.loop mixed (zh) (zcE) (ι:=Nat×ZL×ZL) (fun i=>[(6,.int .i64 i.1),(5,.str i.2.1),(1,.fs (strs l) l.length),(0,.sl 1 0 i.2.2.length 1 none)]) (fun i=>⟨[(1,bly i.2.2)],2⟩) (fun i=>i.1≤l.length∧i.2.2≠[]∧i.2.2.length+20*(l.drop i.1).length+sumL (l.drop i.1)≤80000000∧i.2.1.length≤1000000∧i.2.2++za3 i.2.1 (l.drop i.1)=d++za3 [] l) (fun i=>l.length-i.1) (0,[],d) Zk ⟨Yk _,h0,hl,Zs,rfl⟩ (Xh [(1,0)] rfl ?_ ?_ Zd ?_) ?_
 ·simp only[go_sem]
 ·simp only[go_sem]
 ·exact ZD
 rintro⟨i,p,q⟩ ⟨g1,g2,g3,g4,g5⟩;dsimp only at g1 g2 g3 g4 g5 ⊢;by_cases hi:i<l.length
 ·have d0:decide ((i:Int)<l.length)=true:=Yf Zo;obtain⟨s,hs1⟩:∃s,l[i]? =some s:=⟨_,Yb hi⟩;have hdr:l.drop i=s::l.drop (i+1):=by have:=Yt.1 hs1;rw[Yas hi,this.2]
  have hgd:l.getD i []=s:=by simp[hs1]
  have hsl:s.length≤1000000:=hs s (Y0 hs1);rw[hdr]at g3 g5;rw[sumL,YN,List.sum_cons,←sumL,Yn]at g3;simp(disch:=try exact Zq)only[go_sem,d0];refine AXs.loop mixed (zh) (zcE) (ι:=Nat) (fun k=>[(7,.int .i64 k),(6,.int .i64 i),(5,.str p),(1,.fs (strs l) l.length),(0,.sl 1 0 q.length 1 none)]) (fun _=>⟨[(1,bly q)],2⟩) (fun k=>k≤cpl p s) (fun k=>cpl p s-k) 0 Zk (Yk _) (Xh [] rfl ?_ ?_ Zd ?_) ?_
  ·simp only[go_sem]
  ·simp only[go_sem]
  ·exact ZD
  intro k hk;have hcl:=zzm p s;by_cases hlt:k<cpl p s
  ·have T0:decide ((k:Int)<p.length)=true:=Yf Zo;have T1:decide ((k:Int)<s.length)=true:=Yf Zo;have T2:p.getD k 0=s.getD k 0:=by rw[Ya,Ya,zzn p s k hlt]
   have ek1:(k:Int)+1=((k+1:Nat):Int):=Zo;simp(disch:=try exact Zq)only[go_sem,T0,hgd,T1,T2,ek1];refine⟨⟨Zo,Zo⟩,Zo,⟨Zo,Zo⟩,⟨Zo,Zo⟩,Zo,⟨Zo,Zo⟩,zi (k+1) hlt (by show cpl p s-(k+1)<cpl p s-k;omega) (Xh [] rfl (by simp(disch:=try exact Zq)only[go_sem]) Zg Zd ?_)⟩;exact ZD
  have ek:k=cpl p s:=Zo;have T3:(decide ((k:Int)<p.length)&&decide ((k:Int)<s.length)&&decide (((p.getD k 0).toNat:Int)=((s.getD k 0).toNat:Int)))=false:=by
   rw[YbZ];by_cases h:k<p.length∧k<s.length
   ·right;refine Ye fun e=>zlB p s Zo Zo ?_;have e2:p.getD k 0=s.getD k 0:=YaY.1 Zo;rw[←ek,Yb h.1,Yb h.2];simpa[h.1,h.2]using e2
   left;rw[YbZ];by_cases h3:k<p.length
   ·exact .inr (Ye fun e=>h ⟨h3,Zo⟩)
   exact .inl (Ye fun e=>h3 Zo)
  have hv1:=zcS 5 k;obtain⟨m,hm⟩:∃m,s.length-k=m:=⟨_,rfl⟩;have eL:(s.length:Int)-k=((m:Nat):Int):=Zo;have hv2:=zcS 5 m;have hld:(l.drop (i+1)).length=l.length-(i+1):=YI;have n1:q++varF 5 k≠[]:=by simp[g2]
  have n2:q++varF 5 k++varF 5 m≠[]:=by simp[g2]
  have hdl:(s.drop k).length=m:=by rw[YI];exact hm
  have ek1:(i:Int)+1=((i+1:Nat):Int):=Zo;have hfin:q++varF 5 k++varF 5 m++s.drop k++za3 s (l.drop (i+1))=d++za3 [] l:=by rw[←g5];show _=q++(varF 5 (cpl p s)++(varF 5 (s.length-cpl p s)++(s.drop (cpl p s)++za3 s (l.drop (i+1)))));rw[←ek,hm];simp only[YR]
  have q1:(q++varF 5 k).length≤q.length+6:=by rw[Yd];omega
  have q2:(q++varF 5 k++varF 5 m).length≤q.length+12:=by rw[Yd];omega
  generalize hQ1:q++varF 5 k=Q1 at*;generalize hQ2:Q1++varF 5 m=Q2 at*;simp(disch:=try exact Zq)only[go_sem,hgd,T3];refine⟨fun e=>⟨e,Zo,Zo⟩,fun e=>⟨e,Zo⟩,fun e=>⟨e,Zo,by simp at e;omega⟩,fun e=>⟨e,Zo,Zo⟩,fun e=>⟨e,Zo⟩,fun e=>⟨e,Zo,by simp at e;omega⟩,?_⟩;refine AXa.go mixed (zh) (zcE) Zk ?_;by_cases hE:m=0
  ·have eE:(m=0)=True:=eq_true hE;have hdE:s.drop k=[]:=List.length_eq_zero_iff.1 (hdl.trans hE);rw[hdE,Y7]at hfin;simp(disch:=try exact Zp)only[go_sem,hgd,zj5,eL,hQ1,hQ2,hm,eE,ek1,ziE,Ym,Nat.min_self];refine⟨⟨Zo,Zo⟩,Zo,⟨Zo,Zo⟩,Zo,⟨Zo,Zo,Zo⟩,⟨Zo,Zo⟩,Zo,zi (i+1,s,Q2) ⟨hi,n2,?_,hsl,hfin⟩ (by show l.length-(i+1)<l.length-i;omega) (Xh [(1,3)] rfl (by simp(disch:=try exact Zq)only[go_sem]) Zg Zd ?_)⟩
   ·show Q2.length+20*(l.length-(i+1))+sumL (l.drop (i+1))≤80000000;omega
   exact ZD
  have eE:(m=0)=False:=eq_false hE;simp(disch:=try exact Zp)only[go_sem,hgd,zj5,eL,hQ1,hQ2,hm,eE,ek1,ziE,Ym,Nat.min_self];refine⟨⟨Zo,Zo⟩,Zo,⟨Zo,Zo⟩,Zo,⟨Zo,Zo,Zo⟩,⟨Zo,Zo⟩,Zo,zi (i+1,s,Q2++s.drop k) ⟨hi,by simp[n2],?_,hsl,hfin⟩ (by show l.length-(i+1)<l.length-i;omega) (Xh [(1,4)] rfl (by simp(disch:=try exact Zq)only[go_sem];rw[Yd,hdl]) Zg Zd ?_)⟩
  ·show (Q2++s.drop k).length+20*(l.length-(i+1))+sumL (l.drop (i+1))≤80000000;rw[Yd];omega
  exact ZD
 have d0:decide ((i:Int)<l.length)=false:=Ye Zo;simp(disch:=try exact Zq)only[go_sem,d0];refine AXa.go mixed (zh) (zcE) Zk ?_;simp(disch:=try exact Zq)only[go_sem];have hi:l.drop i=[]:=Yby Zo;rw[hi,za3,Y7]at g5;rw[←g5];refine⟨[(4,.sl 1 0 q.length 1 none)],Xh [(1,1)] rfl Zg Zg Zd ?_,rfl⟩;exact ZD
def zf1(l:ZL):ZA→Option ZL:=fun rest=>
 open Classical in if h:∃q:List Str,rest=[.fs (strs q) q.length]∧l≠[]∧l.length+20*q.length+sumL q≤80000000∧∀s∈q,s.length≤1000000 then some (l++za3 [] (Classical.choose h))else none
def ztd {l:ZL}{q:List Str}(h0:l≠[])(h1:l.length+20*q.length+sumL q≤80000000)(h2:∀s∈q,s.length≤1000000):zf1 l [.fs (strs q) q.length]=some (l++za3 [] q):=by have hx:∃q':List Str,([.fs (strs q) q.length]:ZA)=[.fs (strs q') q'.length]∧l≠[]∧l.length+20*q'.length+sumL q'≤80000000∧∀s∈q',s.length≤1000000:=⟨q,rfl,h0,h1,h2⟩;unfold zf1;rw[dif_pos hx];have hc:=(Yat hx).1;have:strs q=strs (Classical.choose hx):=(V.fs.inj (List.cons.inj hc).1).1;rw[←za1 this]
def rfold_ok:∀args H r,ApR zf1 args H r→HCall prog 41 args H r:=by
 refine zsA fun l rest l' hs=>?_;unfold zf1 at hs;split at hs
 ·rename_i h;obtain⟨q,hq⟩:∃q,q=Classical.choose h:=⟨_,rfl⟩;have hsp:=Yat h;rw[←hq]at hsp hs;obtain⟨e,h0,h1,h2⟩:=hsp;clear hq h;subst e;cases hs;exact⟨fun x hx=>by rw[YW.1 hx];exact .fs (zaN _),fun e=>absurd e h0,fun e=>absurd e h0,fun _=>rfold_N l _ h0 h1 h2⟩
 cases hs
attribute [local go_sem] zbJ
def rnum_ok(t:List ZL)(a:ZL)(hl:t.length≤1000000000)(ha:a∈t):PCall prog 39 [.fs (strs t) t.length,.str a] (.ret (.int .i64 (t.idxOf a:Nat))):=by
 refine Xc (rs:=[.tmp 4]) [0,1,4,5,9,17] [] mixed (zh) (zf) call39 func39 rfl ntmps39 rfl ?_;have hlt:=List.idxOf_lt_length_iff.2 ha;simp(disch:=try exact Zq)only[go_sem];refine AXs.loop mixed (zh) (zf) (ι:=Nat) (fun i=>[(5,.int .i64 i),(1,.str a),(0,.fs (strs t) t.length)]) (fun _=>⟨[],0⟩) (fun i=>i≤t.idxOf a) (fun i=>t.length-i) 0 Zk (Yk _) (Xa [] rfl rfl ?_ ?_) ?_
 ·simp only[go_sem]
 ·simp only[go_sem]
 intro i h1;have d1:decide ((i:Int)<t.length)=true:=Yf Zo;have ei:(i:Int)+1=((i+1:Nat):Int):=Zo;by_cases he:i=t.idxOf a
 ·have hx:t.getD i []=a:=by
   have:t.getD i []=t[i]:=by simp[show i<t.length by omega]
   rw[this];subst he;exact List.getElem_idxOf hlt
  simp(disch:=try exact Zq)only[go_sem,d1,hx];refine⟨Zo,Zo,?_⟩;rw[he]
 have hx:¬t.getD i []=a:=zyK t a i Zo;have dx:decide (t.getD i []=a)=false:=Ye hx;simp(disch:=try exact Zq)only[go_sem,d1,dx,ei];exact⟨Zo,Zo,zi (i+1) (by show i+1≤_;omega) (by show t.length-(i+1)<t.length-i;omega) (Xa [] rfl rfl Zg Zg)⟩
def zqd:ZV:=zC (fun p:List ZL×ZL=>[.fs (strs p.1) p.1.length,.str p.2]) (fun p=>p.1.length≤1000000000∧p.2∈p.1) fun p=>.ret (.int .i64 (p.1.idxOf p.2:Nat))
def zse(t:List ZL)(a:ZL)(hl:t.length≤1000000000)(ha:a∈t):zqd [.fs (strs t) t.length,.str a]=some (.ret (.int .i64 (t.idxOf a:Nat))):=
 zo (pat:=fun p:List ZL×ZL=>[V.fs (strs p.1) p.1.length,.str p.2]) (fun x y h=>by simp at h;exact Yai (za1 h.1.1) h.2) (t,a) ⟨hl,ha⟩
def zsd:ZC zqd 39:=zn fun p h=>rnum_ok p.1 p.2 h.1 h.2
def znI(l:ZL)(i c:Nat)(h:i<l.length):crcR (l.take (i+1)) c=crcK 8 (crcR (l.take i) c^^^(l.getD i 0).toNat):=by unfold crcR;rw[YaG,List.foldl_append];simp[h]
def rsum_N(l:ZL)(hl:l.length≤100000000):NCall prog 44 [.sl 0 0 l.length 1 none] [bly l] [] (.int .u32 (crcE l:Nat)) ⟨[(0,bly l)],1⟩:=by
 refine NCall.walk (rs:=[.tmp 2]) [0,2,3,4,5,9,20,25] [] 1 mixed (zh) (zf) call44 func44 rfl ntmps44 rfl Zk Zs Zs Zs ?_;simp(disch:=try exact Zq)only[go_sem];refine AXs.loop mixed (zh) (zf) (ι:=Nat×Nat) (fun i=>[(4,.int .i64 i.1),(3,.int .u32 (i.2:Nat)),(0,.sl 0 0 l.length 1 none)]) (fun _=>⟨[(0,bly l)],1⟩) (fun i=>i.1≤l.length∧i.2<4294967296∧i.2=crcR (l.take i.1) 4294967295) (fun i=>l.length-i.1) (0,4294967295) Zk ⟨Yk _,Zd,rfl⟩ (Sub.of [] rfl ?_ ?_ Zd (by
  intro b hb hw;match b,hb with
  |0,_=>rfl)) ?_
 ·simp only[go_sem]
 ·simp only[go_sem]
 rintro⟨i,c⟩ ⟨h1,hcl,hc0⟩;dsimp only at h1 hcl hc0 ⊢;by_cases hi:i<l.length
 ·have d1:decide ((i:Int)<l.length)=true:=Yf Zo;have hst:=znI l i 4294967295 hi;rw[←hc0]at hst;have hx:=(l.getD i 0).toNat_lt;have e1:IntKind.u32.wrap (((l.getD i 0).toNat:Nat):Int)=(((l.getD i 0).toNat:Nat):Int):=by rw[IntKind.wrap_u32'];omega
  have e2:=u32_xor_nat c (l.getD i 0).toNat hcl Zo;have hcx:c^^^(l.getD i 0).toNat<4294967296:=Nat.xor_lt_two_pow (n:=32) hcl Zo;generalize c^^^(l.getD i 0).toNat=C at*;simp(disch:=try exact Zq)only[go_sem,d1,zpu,e1,e2];refine⟨⟨Zo,Zo⟩,?_⟩;refine AXs.loop mixed (zh) (zf) (ι:=Nat×Nat) (fun k=>[(5,.int .i64 k.1),(4,.int .i64 i),(3,.int .u32 (k.2:Nat)),(0,.sl 0 0 l.length 1 none)]) (fun _=>⟨[(0,bly l)],1⟩) (fun k=>k.1≤8∧k.2<4294967296∧crcK (8-k.1) k.2=crcK 8 C) (fun k=>8-k.1) (0,C) Zk ⟨Yk _,hcx,rfl⟩ (Sub.of [] rfl ?_ ?_ ?_ ?_) ?_
  ·simp only[go_sem]
  ·simp only[go_sem]
  ·decide
  ·intro b hb hw;match b,hb with
   |0,_=>rfl
  rintro⟨k,c⟩ ⟨g1,g2,g3⟩;dsimp only at g1 g2 g3 ⊢;by_cases hk:k<8
  ·have eA:=ziA c g2;have eD:(c:Int)/2^1=((c/2:Nat):Int):=Zo;have eX:=ziz (c/2) Zo;have ek:(k:Int)+1=((k+1:Nat):Int):=Zo;have dk:decide ((k:Int)<8)=true:=Yf Zo;have e8:crcK (8-(k+1)) (crcS c)=crcK 8 C:=by rw[←g3,show 8-k=(8-(k+1))+1 by omega];rfl
   have hlt:=zlA g2;by_cases hb:c%2=1
   ·have d0:decide (((c%2:Nat):Int)=1)=true:=Yf Zo;rw[crcS,Yi hb]at e8 hlt;simp(disch:=try exact Zq)only[go_sem,dk,eA,eD,eX,d0,ek];exact zi (k+1,c/2^^^3988292384) ⟨by show k+1≤8;omega,hlt,e8⟩ (by show 8-(k+1)<8-k;omega) (Sub.of [] rfl Zg Zg Zd (by
     intro b hb hw;match b,hb with
     |0,_=>rfl))
   have d0:decide (((c%2:Nat):Int)=1)=false:=Ye Zo;rw[crcS,Yh hb]at e8 hlt;simp(disch:=try exact Zq)only[go_sem,dk,eA,eD,eX,d0,ek];exact zi (k+1,c/2) ⟨by show k+1≤8;omega,hlt,e8⟩ (by show 8-(k+1)<8-k;omega) (Sub.of [] rfl Zg Zg Zd (by
    intro b hb hw;match b,hb with
    |0,_=>rfl))
  have dk:decide ((k:Int)<8)=false:=Ye Zo;have e9:c=crcK 8 C:=by rw[←g3,show 8-k=0 by omega];rfl
  have ei:(i:Int)+1=((i+1:Nat):Int):=Zo;simp(disch:=try exact Zq)only[go_sem,dk];refine AXa.go mixed (zh) (zf) Zk ?_;simp(disch:=try exact Zq)only[go_sem,ei];exact zi (i+1,c) ⟨hi,g2,by show c=_;rw[hst,e9]⟩ (by show l.length-(i+1)<l.length-i;omega) (Sub.of [] rfl Zg Zg Zd (by
   intro b hb hw;match b,hb with
   |0,_=>rfl))
 obtain rfl:i=l.length:=Zo;have d1:decide ((l.length:Int)<l.length)=false:=Ye Zo;rw[Ym,zpY]at hc0;have eX:Go.bits .xor .u32 4294967295 (c:Int)=((crcE l:Nat):Int):=by rw[show (4294967295:Int)=((4294967295:Nat):Int)from rfl,u32_xor_nat _ _ Zd hcl,hc0];rfl
 have eM:(if IntKind.u32.signed=true then(-1:Int)else IntKind.u32.max)=4294967295:=Zd;simp(disch:=try exact Zq)only[go_sem,d1];refine AXa.go mixed (zh) (zf) Zk ?_;simp(disch:=try exact Zq)only[go_sem,eM,eX];exact⟨[(2,.int .u32 (crcE l:Nat))],Sub.of [] rfl Zg Zg Zd (by
  intro b hb hw;match b,hb with
  |0,_=>rfl),rfl⟩
def SmR(args:ZA)(H:Hp)(r:AR):Prop:=∃c l,args=[.sl c 0 l.length 1 none]∧(∀b x,H.get b=some x→b<H.next)∧l.length≤100000000∧H.get c=some (bly l)∧r=⟨True,.int .u32 (crcE l:Nat),H,[c],[]⟩
def smR_ok:∀args H r,SmR args H r→HCall prog 44 args H r:=by
 rintro args H r ⟨c,l,rfl,hk,hl,hc,rfl⟩;refine HCall.none (F:=[bly l]) (rsum_N l hl) (.int _ _) [c] _ H rfl Zs (zoR c l.length none (fun x hx=>absurd hx (YaE))) (fun i x hx=>?_) (fun i x hx=>?_) hk
 ·match i with
  |0=>cases hx;exact⟨c,rfl,hc,zbo l⟩
  |i+1=>simp at hx
 match i with
 |0=>cases hx;exact fun _ _=>zbo l
 |i+1=>simp at hx
def sm_eq(c n:Nat)(l:ZL)(bs:ZH)(nx:Nat)(hc:zL bs c=some (bly l))(hn:n=l.length)(hl:l.length≤100000000)(hk:((keysB bs).all fun b=>decide (b<nx))=true):conD SmR [.sl c 0 n 1 none] ⟨bs,nx⟩=some ⟨True,.int .u32 (crcE l:Nat),⟨bs,nx⟩,[c],[]⟩:=by subst hn;have hR:SmR [.sl c 0 l.length 1 none] ⟨bs,nx⟩ ⟨True,.int .u32 (crcE l:Nat),⟨bs,nx⟩,[c],[]⟩:=⟨c,l,rfl,zaX hk,hl,(zF bs c).trans hc,rfl⟩;refine zat hR ?_;rintro r' ⟨c',l',e,_,_,hc',rfl⟩;simp only[Yw,V.sl.injEq,Yaf,Yap]at e;obtain⟨rfl,_⟩:=e;rw[show (⟨bs,nx⟩:Hp).get c=some (bly l)from(zF bs c).trans hc]at hc';rw[zda hc']
def rseal_N(l:ZL)(h0:l≠[])(hl:l.length≤90000000):NCall prog 10 [.sl 0 0 l.length 1 none] [bly l] [0] (.sl 1 0 (l++sumB l).length 1 none) ⟨[(1,bly (l++sumB l))],2⟩:=by
 have hΔ:zaP prog (za8 44 (conD SmR) noΔ):=zJ (zV smR_ok) zf;refine Xi (rs:=[.tmp 2]) [0,2,3] [] 1 [0] mixed (zh) (hΔ) call10 func10 rfl ntmps10 rfl Zk Zs Zs Zs Zs ?_;have w0:IntKind.u8.wrap ((crcE l:Nat):Int)=((crcE l:Nat):Int)%256:=IntKind.wrap_u8' _;have w1:IntKind.u8.wrap (((crcE l:Nat):Int)/2^8)=((crcE l/256:Nat):Int)%256:=by rw[IntKind.wrap_u8'];omega
 have w2:IntKind.u8.wrap (((crcE l:Nat):Int)/2^16)=((crcE l/65536:Nat):Int)%256:=by rw[IntKind.wrap_u8'];omega
 have w3:IntKind.u8.wrap (((crcE l:Nat):Int)/2^24)=((crcE l/16777216:Nat):Int)%256:=by rw[IntKind.wrap_u8'];omega
 have eB:[V.int .u8 (((crcE l/16777216:Nat):Int)%256),V.int .u8 (((crcE l/65536:Nat):Int)%256),V.int .u8 (((crcE l/256:Nat):Int)%256),V.int .u8 (((crcE l:Nat):Int)%256)]=(sumB l).map zt:=by rw[byte_of,byte_of,byte_of,byte_of];rfl
 have e4:(l++sumB l).length=l.length+4:=by rw[Yd];rfl
 have eO:((sumB l).map zt).all V.one=true:=by rw[List.all_map,Yo];intro x _;rfl
 have eL:((sumB l).map zt).length=4:=rfl;have eL2:(sumB l).length=4:=rfl;have eT:((sumB l).map zt).take 4=(sumB l).map zt:=rfl;have eA:=fun H R=>ziE l (sumB l) 0 l.length 4 R H rfl rfl Zo;simp(disch:=try exact Zp)only[go_sem,sm_eq,w0,w1,w2,w3,eB,eO,eL,eL2,eT,eA];rw[e4];refine⟨Zd,[(2,.sl 1 0 (l.length+4) 1 none)],Xh [(1,2)] rfl (by simp(disch:=try exact Zp)only[go_sem]) (by simp(disch:=try exact Zp)only[go_sem]) Zd ?_,rfl⟩;exact ZD
end Go.Proofs
