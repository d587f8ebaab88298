/- machine: Valid, Sigma. -/
import Derived.Test.YtbdlfegfepggnaaGreatDoorAbEvFn
import Derived.Shelf.Bytes.WriteAt
import Derived.Shelf.Bytes.WriteStringAt
import Derived.Shelf.Bytes.WriteByteAt
import Derived.Shelf.RegionOpenPlain
import Derived.RegionTactic
import Derived.Deep.RegionWith
import Derived.Deep.Draws
set_option linter.all false
set_option maxHeartbeats 16000000
set_option maxRecDepth 100000
noncomputable section
namespace Go.Proofs
open Tryz Go.Ab Go.Pl Go.Cnt
attribute [local go_sem] zbE zas zcv zW
def symO(s:Int):Bool:=decide (0≤s)&&decide (s≤500)
def ztL(s:Int):PCall prog 53 [.int .i64 s] (.ret (.bool (symO s))):=by
 refine Xa (rs:=[.tmp 2]) [0,2] [] mixed (zh) (zg) call53 func53 rfl ntmps53 rfl ?_;unfold symO;by_cases h:0≤s
 ·rw[Yf h];have d:decide (0≤s)=true:=Yf h;simp(disch:=try exact Zq)only[go_sem,d]
 rw[Yd h];have d:decide (0≤s)=false:=Yd h;simp(disch:=try exact Zq)only[go_sem,d]
def cSymO:ZV:=zL (fun s:Int=>[.int .i64 s]) (fun _=>True) fun s=>.ret (.bool (symO s))
def cSymO_eq(s:Int):cSymO [.int .i64 s]=some (.ret (.bool (symO s))):=zo (pat:=fun s:Int=>[V.int .i64 s]) (fun x y h=>by simpa using h) s trivial
def cSymO_ok:ZC cSymO 53:=zn fun s _=>ztL s
def zvl(m:Mach)(hm:FitM m):PCall prog 16 [zad m] (.ret (.bool (zcy m))):=by
 have hΓ:=zf cSmW_ok (zf cSymO_ok zh);obtain⟨R,hR⟩:∃R,R=zcy m:=⟨_,rfl⟩;rw[←hR];obtain⟨k,s,l,q⟩:=m;obtain⟨m1,m2,m3,m4,m5⟩:=hm;dsimp only at m1 m2 m3 m4 m5;unfold zcy at hR;dsimp only at hR;refine PCall.walk (rs:=[.tmp 2]) [0,1,2,3,4,6,8,46,48,49,50,51,73,75,76,77,78,109] [24] mixed (hΓ) (zg) call16 func16 rfl ntmps16 rfl Zk Zs (by simp[push_cast,zlO]) ?_;simp(disch:=try exact Zq)only[go_sem,zad,zot];have hb:(decide (k<1)||decide (3<k)||decide ((q.length:Int)<1)||decide (3000<(q.length:Int))||decide (s<0)||decide ((q.length:Int)≤s)|| !zam k l)=
  !(zcz k&&decide (1≤q.length)&&decide (q.length≤3000)&&decide (0≤s)&&decide (s<q.length)&&zam k l):=by
  unfold zcz
  simp only[Bool.not_and]
  congr 1
  congr 1
  ·congr 1
   ·congr 1
    ·congr 1
     ·congr 1
      ·rw[←Yb3];exact Ybh.2 Zo
      rw[←Yb3];exact Ybh.2 Zo
     rw[←Yb3];exact Ybh.2 Zo
    rw[←Yb3];exact Ybh.2 Zo
   rw[←Yb3];exact Ybh.2 Zo
  ·rw[←Yb3];exact Ybh.2 Zo
 rw[hb];cases hc:(zcz k&&decide (1≤q.length)&&decide (q.length≤3000)&&decide (0≤s)&&decide (s<q.length)&&zam k l)with
 |false=>rw[hc,Yaq,Yaq]at hR;rw[hR];simp(disch:=try exact Zq)only[go_sem]
 |true=>
  rw[hc,Yau]at hR;have hq3:q.length≤3000:=by simp only[Yj,Yn]at hc;omega
  clear hb hc;have hbad:∀i,i<q.length→staB k q.length (nthQ q i)=false→R=false:=fun i hi h=>by rw[hR,staR.all_f (p:=staB k q.length) hi h,Yaq]
  have hlong:∀i,i≤q.length→30000<sumA q i→R=false:=fun i hi h=>by have:=zcF q hi (Yc _);rw[zbP]at this;rw[hR,Yd (by omega:¬arcN q≤30000),YbR]
  have hs:=fun i h=>zdx q i h;simp(disch:=try exact Zq)only[go_sem];refine AXs.loop mixed (hΓ) (zg) (fun i:Nat=>[(50,.int .i64 i),(49,.int .i64 q.length),(48,.fs (stas q) q.length),(4,.int .i64 (sumA q i:Nat)),(3,.int .i64 q.length),(1,.fp [.int .i64 k,.int .i64 s,.str l,.fs (stas q) q.length])]) (fun _=>⟨[],0⟩) (fun i=>i≤q.length∧sumA q i≤30000∧∀j,j<i→staB k q.length (nthQ q j)=true) (fun i=>q.length-i) 0 Zk ⟨Yk _,by simp[sumA,arcN],fun j hj=>Zo⟩ (Xb [] rfl rfl ?_ ?_) ?_
  ·simp only[go_sem];simp[sumA,arcN]
  ·simp only[go_sem]
  rintro i ⟨h1,h2,h3⟩;simp(disch:=try exact Zq)only[go_sem];refine Xc (fun h4=>?_) (fun h4=>?_);rotate_left
  ·obtain rfl:i=q.length:=Zo;rw[zbP]at h2;have e:R=true:=by rw[hR,staR.all_t (p:=staB k q.length) h3,Yf h2];rfl
   rw[e];simp only[go_sem];refine AXa.go mixed (hΓ) (zg) Zk ?_;simp only[go_sem]
  have hi:i<q.length:=Zo;have at1:=zcw q i hi;have hqm:nthQ q i∈q:=staR.nth_mem hi;have hsi:=hs i hi;have ha:=m2 _ hqm;have hf:=m4 _ hqm;have hw:=m5 _ hqm;have hbi:=hbad i hi;have hli:=hlong (i+1) Zo;generalize hss:nthQ q i=st at at1 hsi ha hf hw hbi;obtain⟨F,A⟩:=st;dsimp only at at1 hsi ha hf hw;simp(disch:=try exact Zq)only[go_sem,at1,zot];refine⟨Zo,fun h=>⟨h,fun h'=>by rw[h,h'];rfl⟩,?_⟩;by_cases h5:30000<sumA q i+A.length
  ·have e1:decide (30000<(sumA q i:Int)+(A.length:Int))=true:=Yf Zo;rw[hli Zo,e1,Bool.true_or];simp(disch:=try exact Zq)only[go_sem]
  have e1:decide (30000<(sumA q i:Int)+(A.length:Int))=false:=Yd Zo;have e2:(!decide (F=[])&& !zam k F)= !(decide (F=[])||zam k F):=by rw[Bool.not_or]
  have hsB:staB k q.length ⟨F,A⟩=((decide (F=[])||zam k F)&&A.all (arcB k q.length)):=rfl;rw[e1,YaT,e2];cases h6:(decide (F=[])||zam k F)with
  |false=>rw[hbi (by rw[hsB,h6,Yaq])];simp(disch:=try exact Zq)only[go_sem]
  |true=>
   rw[h6,Yau]at hsB;have hba:∀j,j<A.length→arcB k q.length (nthA A j)=false→R=false:=fun j hj h=>hbi (by rw[hsB,arcR.all_f (p:=arcB k q.length) hj h]);clear e2 h6;simp(disch:=try exact Zq)only[go_sem];refine AXs.loop mixed (hΓ) (zg) (fun j:Nat=>[(77,.int .i64 j),(76,.int .i64 A.length),(75,.fs (arcs A) A.length),(6,.ptr 0 0),(50,.int .i64 i),(49,.int .i64 q.length),(48,.fs (stas q) q.length),(4,.int .i64 (sumA q (i+1):Nat)),(3,.int .i64 q.length),(1,.fp [.int .i64 k,.int .i64 s,.str l,.fs (stas q) q.length])]) (fun _=>⟨[(0,.cells [.str F,.fs (arcs A) A.length])],1⟩) (fun j=>j≤A.length∧∀z,z<j→arcB k q.length (nthA A z)=true) (fun j=>A.length-j) 0 Zk ⟨Yk _,fun j hj=>Zo⟩ (Xb [(0,0)] rfl rfl ?_ ?_) ?_
   ·rw[hsi];simp only[go_sem];simp
   ·simp only[go_sem]
   rintro j ⟨k1,k2⟩;simp(disch:=try exact Zq)only[go_sem];refine Xc (fun k3=>?_) (fun k3=>?_);rotate_left
   ·obtain rfl:j=A.length:=Zo;simp only[go_sem];refine AXa.go mixed (hΓ) (zg) Zk ?_;simp(disch:=try exact Zq)only[go_sem];refine zi (i+1) ⟨Zo,Zo,fun z hz=>?_⟩ Zo (Xb [] rfl rfl ?_ ?_)
    ·by_cases hzi:z<i
     ·exact h3 z hzi
     obtain rfl:z=i:=Zo;rw[hss,hsB];exact arcR.all_t (p:=arcB k q.length) k2
    ·simp only[go_sem];simp
    simp only[go_sem]
   have hj:j<A.length:=Zo;have at2:=zcA A j hj;have ham:nthA A j∈A:=arcR.nth_mem hj;have hwj:=hw _ ham;have hbj:=hba j hj;generalize hxx:nthA A j=x at at2 hwj hbj;obtain⟨xi,xo,xw,xt⟩:=x;dsimp only at at2 hwj;simp(disch:=try exact Zq)only[go_sem,at2,zot,cSymO_eq];refine⟨Zo,?_⟩;have e3:(!symO xi|| !symO xo||decide (xt<0)||decide ((q.length:Int)≤xt)|| !zam k xw)= !arcB k q.length ⟨xi,xo,xw,xt⟩:=by unfold arcB symO;simp only[Bool.not_and,←Yb3,Int.not_le,Int.not_lt,Bool.or_assoc]
   rw[e3];cases h7:arcB k q.length ⟨xi,xo,xw,xt⟩with
   |false=>rw[hbj h7];simp(disch:=try exact Zq)only[go_sem]
   |true=>
    simp(disch:=try exact Zq)only[go_sem];refine zi (j+1) ⟨Zo,fun z hz=>?_⟩ Zo (Xb [(0,0)] rfl rfl ?_ ?_)
    ·by_cases hzi:z<j
     ·exact k2 z hzi
     obtain rfl:z=j:=Zo;rw[hxx];exact h7
    ·simp only[go_sem];simp
    simp only[go_sem]
def cMVal:ZV:=zL (fun m:Mach=>[zad m]) FitM fun m=>.ret (.bool (zcy m))
def zgd(m:Mach)(h:FitM m):cMVal [zad m]=some (.ret (.bool (zcy m))):=zo (pat:=fun m:Mach=>[zad m]) (fun x y h=>zcK (by simpa using h)) m h
def zgc:ZC cMVal 16:=zn fun m h=>zvl m h
def sigA(n:Int)(a:Arc):Int:=maxI (maxI n a.i) a.o
def sigS(n:Int)(s:Sta):Int:=s.a.foldl sigA n
def sigQ(q:List Sta):Int:=q.foldl sigS 0
def sigM(m:Mach):Int:=if zcy m=true then sigQ m.q else 0
def zua(n:Int)(s:Sta)(j:Nat)(h:j<s.a.length):(s.a.take (j+1)).foldl sigA n=sigA ((s.a.take j).foldl sigA n) (nthA s.a j):=by rw[show s.a.take (j+1)=s.a.take j++[nthA s.a j]from arcR.take_nth s.a j h,List.foldl_append];rfl
def zue(q:List Sta)(i:Nat)(h:i<q.length):(q.take (i+1)).foldl sigS 0=sigS ((q.take i).foldl sigS 0) (nthQ q i):=by rw[show q.take (i+1)=q.take i++[nthQ q i]from staR.take_nth q i h,List.foldl_append];rfl
def sigma_ok(m:Mach)(hm:FitM m):PCall prog 18 [zad m] (.ret (.int .i64 (sigM m))):=by
 have hΓ:=zf zgc zh;have hv:=zgd m hm;have hsm:sigM m=if zcy m=true then sigQ m.q else 0:=rfl
 obtain⟨B,hB⟩:∃B,B=zcy m:=⟨_,rfl⟩;rw[←hB]at hv hsm;obtain⟨m1,m2,m3,m4,m5⟩:=hm;obtain⟨k,s,l,q⟩:=m;dsimp only at m1 m2 m3 m4 m5 hsm;generalize sigM ⟨k,s,l,q⟩=R at hsm;unfold zad at hv;dsimp only at hv;refine PCall.walk (rs:=[.tmp 2]) [0,1,2,4,6,9,11,12,13,14,18,19,20,21] [24] mixed (hΓ) (zg) call18 func18 rfl ntmps18 rfl Zk Zs (by simp[push_cast,zlO]) ?_;cases B with
 |false=>rw[Ye Zd]at hsm;subst hsm;simp(disch:=try exact Zq)only[go_sem,zad,hv]
 |true=>
  rw[Yi rfl]at hsm;simp(disch:=try exact Zq)only[go_sem,zad,hv];refine AXs.loop mixed (hΓ) (zg) (ι:=Nat) (fun i=>[(13,.int .i64 i),(12,.int .i64 q.length),(11,.fs (stas q) q.length),(2,.int .i64 ((q.take i).foldl sigS 0))]) (fun _=>⟨[],0⟩) (fun i=>i≤q.length) (fun i=>q.length-i) 0 Zk (Yk _) (Xb [] rfl rfl ?_ ?_) ?_
  ·simp only[go_sem];rfl
  ·simp only[go_sem]
  intro i h1;simp(disch:=try exact Zq)only[go_sem];refine Xc (fun h4=>?_) (fun h4=>?_)
  ·have hi:i<q.length:=Zo;have at1:=zcw q i hi;have hsi:=zue q i hi;have ei:(i:Int)+1=((i+1:Nat):Int):=Zo;have ha:(nthQ q i).a.length≤1000000000:=m2 _ (staR.nth_mem hi);generalize hss:nthQ q i=st at at1 hsi ha;generalize hn:(q.take i).foldl sigS 0=n at hsi ⊢;obtain⟨F,A⟩:=st;dsimp only at at1 hsi ha;simp(disch:=try exact Zq)only[go_sem,at1];refine⟨Zo,AXs.loop mixed (hΓ) (zg) (ι:=Nat) (fun j=>[(20,.int .i64 j),(19,.int .i64 A.length),(18,.fs (arcs A) A.length),(13,.int .i64 i),(12,.int .i64 q.length),(11,.fs (stas q) q.length),(2,.int .i64 ((A.take j).foldl sigA n))]) (fun _=>⟨[],0⟩) (fun j=>j≤A.length) (fun j=>A.length-j) 0 Zk (Yk _) (Xb [] rfl rfl ?_ ?_) ?_⟩
   ·simp only[go_sem];rfl
   ·simp only[go_sem]
   intro j k1;simp(disch:=try exact Zq)only[go_sem];refine Xc (fun k3=>?_) (fun k3=>?_)
   ·have hj:j<A.length:=Zo;have at2:=zcA A j hj;have ej:(j:Int)+1=((j+1:Nat):Int):=Zo;have hsj:(A.take (j+1)).foldl sigA n=sigA ((A.take j).foldl sigA n) (nthA A j):=zua n ⟨F,A⟩ j hj;simp(disch:=try exact Zq)only[go_sem,at2,ej];have hsg:maxI (maxI ((A.take j).foldl sigA n) (nthA A j).i) (nthA A j).o=(A.take (j+1)).foldl sigA n:=hsj.symm;rw[hsg];exact⟨Zo,zi (j+1) hj Zo (Xb [] rfl rfl Zg Zg)⟩
   obtain rfl:j=A.length:=Zo;simp(disch:=try exact Zq)only[go_sem];refine AXa.go mixed (hΓ) (zg) Zk ?_;simp(disch:=try exact Zq)only[go_sem,ei];rw[Ym];have hsg:A.foldl sigA n=(q.take (i+1)).foldl sigS 0:=hsi.symm;rw[hsg];exact zi (i+1) hi Zo (Xb [] rfl rfl Zg Zg)
  obtain rfl:i=q.length:=Zo;simp(disch:=try exact Zq)only[go_sem];refine AXa.go mixed (hΓ) (zg) Zk ?_;simp(disch:=try exact Zq)only[go_sem];rw[Ym];exact hsm.symm
def cSig:ZV:=zL (fun m:Mach=>[zad m]) FitM fun m=>.ret (.int .i64 (sigM m))
def zov(m:Mach)(h:FitM m):cSig [zad m]=some (.ret (.int .i64 (sigM m))):=zo (pat:=fun m:Mach=>[zad m]) (fun x y h=>zcK (by simpa using h)) m h
def zou:ZC cSig 18:=zn fun m h=>sigma_ok m h
def zlf(s:ZL):∀k i,zbq s k i=0∨zbq s k i=3
 |0,_=>.inl rfl
 |k+1,i=>by
  rw[zbq];split
  ·split
   ·exact .inr rfl
   exact zlf s k _
  exact .inl rfl
def pcF_le(s:ZL):∀k i,∀x∈pcF s k i,x.length≤4
 |0,_,x,h=>by cases h
 |k+1,i,x,h=>by
  rw[pcF]at h;split at h
  ·rename_i hp;rcases Yy.1 h with rfl|h
   ·have:=(pw_b s i hp).2.2;rw[Yai,Y0];omega
   exact pcF_le s k _ x h
  cases h
def pcF_n(s:ZL):∀k i,(pcF s k i).length≤k
 |0,_=>Yc _
 |k+1,i=>by
  rw[pcF];split
  ·have:=pcF_n s k (i+pw s i);simp;omega
  simp
def getD_mem {l:List ZL}{j:Nat}(h:j<l.length):l.getD j []∈l:=by
 have:l.getD j []=l[j]:=by simp[h]
 rw[this];exact Y1 h
def zuh(s:ZL)(hs:s.length≤1000000000):PCall prog 78 [.str s] (.ret (.tup [.any,.any,.int .i64 (zdz s)])):=by
 have hΓ:=zf cPcs_ok (zf cLet_ok zh);refine Xa (rs:=[.tmp 2,.tmp 3,.tmp 4]) [0,2,3,4,5,6,7,10,16,24] [] mixed (hΓ) (zg) call78 func78 rfl ntmps78 rfl ?_;by_cases h1:16384<s.length
 ·have e:zdz s=2:=Yi h1;have d0:decide (16384<(s.length:Int))=true:=Yf Zo;rw[e];simp(disch:=try exact Zq)only[go_sem,d0]
 have e:zdz s=zbq s s.length 0:=Ye h1;have d0:decide (16384<(s.length:Int))=false:=Yd Zo;have hall:=zuZ s s.length 0 Zo;have hor:=zlf s s.length 0;have hle:=pcF_le s s.length 0;have hn:=pcF_n s s.length 0;have hc:=cPcs_eq s Zo;rw[e];generalize zbq s s.length 0=E at*;generalize pcF s s.length 0=l at*;simp(disch:=try exact Zq)only[go_sem,d0,hc];refine AXs.loop mixed (hΓ) (zg) (ι:=Nat×Nat) (fun x=>[(7,.int .i64 x.1),(6,.int .i64 x.2),(5,.fs (strs l) l.length)]) (fun _=>⟨[],0⟩) (fun x=>x.1≤l.length∧x.2≤4*x.1∧∀j,j<x.1→letB (l.getD j [])=true) (fun x=>l.length-x.1) (0,0) Zk ⟨Yk _,Yk _,fun j hj=>absurd hj (Ya0 _)⟩ (Xb [] rfl rfl ?_ ?_) ?_
 ·simp only[go_sem]
 ·simp only[go_sem]
 rintro⟨i,f⟩ ⟨g1,g2,g3⟩;dsimp only at g1 g2 g3 ⊢;by_cases hi:i<l.length
 ·have d1:decide ((i:Int)<l.length)=true:=Yf Zo;have hx:=hle _ (getD_mem hi);generalize hxx:l.getD i []=x at hx;have hcl:=cLet_eq x Zo;have ei:(i:Int)+1=((i+1:Nat):Int):=Zo;have ef:(f:Int)+(x.length:Nat)=((f+x.length:Nat):Int):=Zo;cases hb:letB x with
  |false=>
   rw[hb]at hcl;simp(disch:=try exact Zq)only[go_sem,d1,hxx,hcl];refine⟨⟨Zo,Zo⟩,Zo,?_⟩;rw[zyC hi (by rw[hxx];exact hb)]at hall;have:¬E=0:=by simpa using hall
   omega
  |true=>
   rw[hb]at hcl;simp(disch:=try exact Zq)only[go_sem,d1,hxx,hcl,ei,ef];refine⟨⟨Zo,Zo⟩,Zo,⟨Zo,Zo⟩,Zo,zi (i+1,f+x.length) ⟨hi,by show f+x.length≤4*(i+1);omega,fun j hj=>?_⟩ (by show l.length-(i+1)<l.length-i;omega) (Xb [] rfl rfl Zg Zg)⟩;rcases YaJ j i with h|h
   ·exact g3 j h
   obtain rfl:j=i:=by have:j<i+1:=hj;omega
   rw[hxx];exact hb
 have d1:decide ((i:Int)<l.length)=false:=Yd Zo;simp(disch:=try exact Zq)only[go_sem,d1];refine AXa.go mixed (hΓ) (zg) Zk ?_;simp(disch:=try exact Zq)only[go_sem];rw[zyB (fun j hj=>g3 j Zo)]at hall;have:E=0:=by simpa using hall.symm
 omega
def cRSpl:ZV:=zL (fun s:ZL=>[.str s]) (fun s=>s.length≤1000000000) fun s=>.ret (.tup [.any,.any,.int .i64 (zdz s)])
def cRSpl_eq(s:ZL)(h:s.length≤1000000000):cRSpl [.str s]=some (.ret (.tup [.any,.any,.int .i64 (zdz s)])):=zo (pat:=fun s:ZL=>[V.str s]) (fun x y h=>by simpa using h) s h
def cRSpl_ok:ZC cRSpl 78:=zn fun s h=>zuh s h
def named_ok(s:ZL)(h:s.length≤1000000000):PCall prog 54 [.str s] (.ret (.bool (symN s))):=by
 refine Xa (rs:=[.tmp 2]) [0,2,5] [] mixed (zf cRSpl_ok zh) (zg) call54 func54 rfl ntmps54 rfl ?_;have hc:=cRSpl_eq s h;have hl:s=[]↔¬1≤s.length:=by rw[←List.length_eq_zero_iff];omega
 unfold symN;by_cases h1:1≤s.length
 ·have d1:decide ((1:Int)≤s.length)=true:=Yf Zo;rw[Yd (fun e=>hl.1 e h1)];by_cases h2:s.length≤40
  ·have d2:decide ((s.length:Int)≤40)=true:=Yf Zo;rw[Yf h2];simp(disch:=try exact Zq)only[go_sem,hc,d1,d2]
  have d2:decide ((s.length:Int)≤40)=false:=Yd Zo;rw[Yd h2];simp(disch:=try exact Zq)only[go_sem,hc,d1,d2]
 have d1:decide ((1:Int)≤s.length)=false:=Yd Zo;rw[Yf (hl.2 h1)];simp(disch:=try exact Zq)only[go_sem,hc,d1]
def cNamed:ZV:=zL (fun s:ZL=>[.str s]) (fun s=>s.length≤1000000000) fun s=>.ret (.bool (symN s))
def zxw(s:ZL)(h:s.length≤1000000000):cNamed [.str s]=some (.ret (.bool (symN s))):=zo (pat:=fun s:ZL=>[V.str s]) (fun x y h=>by simpa using h) s h
def zxv:ZC cNamed 54:=zn fun s h=>named_ok s h
def idx_lt:∀(t:List ZL)(a:ZL)(i:Nat),i<t.idxOf a→¬t.getD i []=a
 |[],a,i,h=>absurd h (Ya0 _)
 |x::t,a,0,h=>fun e=>by rw[List.getD_cons_zero]at e;rw[List.idxOf_cons,e]at h;simp at h
 |x::t,a,i+1,h=>by
  rw[List.getD_cons_succ];rw[List.idxOf_cons]at h;by_cases hx:x==a
  ·rw[hx]at h;simp at h
  have hx':(x==a)=false:=by simpa using hx
  rw[hx']at h;exact idx_lt t a i (by simpa using h)
def znx(t:List ZL)(a:ZL)(hl:t.length≤1000000000)(ha:a∈t):PCall prog 55 [.fs (strs t) t.length,.str a] (.ret (.int .i64 (t.idxOf a:Nat))):=by
 refine Xa (rs:=[.tmp 4]) [0,1,4,5,9,17] [] mixed (zh) (zg) call55 func55 rfl ntmps55 rfl ?_;have hlt:=List.idxOf_lt_length_iff.2 ha;simp(disch:=try exact Zq)only[go_sem];refine AXs.loop mixed (zh) (zg) (ι:=Nat) (fun i=>[(5,.int .i64 i),(1,.str a),(0,.fs (strs t) t.length)]) (fun _=>⟨[],0⟩) (fun i=>i≤t.idxOf a) (fun i=>t.length-i) 0 Zk (Yk _) (Xb [] rfl rfl ?_ ?_) ?_
 ·simp only[go_sem]
 ·simp only[go_sem]
 intro i h1;have d1:decide ((i:Int)<t.length)=true:=Yf Zo;have ei:(i:Int)+1=((i+1:Nat):Int):=Zo;by_cases he:i=t.idxOf a
 ·have hx:t.getD i []=a:=by
   have:t.getD i []=t[i]:=by simp[show i<t.length by omega]
   rw[this];subst he;exact List.getElem_idxOf hlt
  simp(disch:=try exact Zq)only[go_sem,d1,hx];refine⟨Zo,Zo,?_⟩;rw[he]
 have hx:¬t.getD i []=a:=idx_lt t a i Zo;have dx:decide (t.getD i []=a)=false:=Yd hx;simp(disch:=try exact Zq)only[go_sem,d1,dx,ei];exact⟨Zo,Zo,zi (i+1) (by show i+1≤_;omega) (by show t.length-(i+1)<t.length-i;omega) (Xb [] rfl rfl Zg Zg)⟩
def cPosn:ZV:=zL (fun p:List ZL×ZL=>[.fs (strs p.1) p.1.length,.str p.2]) (fun p=>p.1.length≤1000000000∧p.2∈p.1) fun p=>.ret (.int .i64 (p.1.idxOf p.2:Nat))
def cPosn_eq(t:List ZL)(a:ZL)(hl:t.length≤1000000000)(ha:a∈t):cPosn [.fs (strs t) t.length,.str a]=some (.ret (.int .i64 (t.idxOf a:Nat))):=
 zo (pat:=fun p:List ZL×ZL=>[V.fs (strs p.1) p.1.length,.str p.2]) (fun x y h=>by simp at h;exact YaC (zbv h.1.1) h.2) (t,a) ⟨hl,ha⟩
def cPosn_ok:ZC cPosn 55:=zn fun p h=>znx p.1 p.2 h.1 h.2
def zlK(t:List ZL):t.Nodup↔∀i,i<t.length→t.idxOf (t.getD i [])=i:=by
 constructor
 ·intro h i hi;have e:t.getD i []=t[i]:=by simp[hi]
  rw[e];exact h.idxOf_getElem i hi
 intro h;refine List.pairwise_iff_getElem.2 fun i j hi hj hij e=>?_;have e1:=h i hi;have e2:=h j hj;rw[show t.getD i []=t[i]by simp[hi]]at e1;rw[show t.getD j []=t[j]by simp[hj],←e]at e2;omega
def zk4(t:List ZL)(hl:t.length≤1000000000)(hs:∀j,(t.getD j []).length≤1000000000):PCall prog 17 [.fs (strs t) t.length] (.ret (.bool (tabB t))):=by
 have hΓ:=zf zxv (zf cPosn_ok zh);have hnd:=zlK t;unfold tabB;refine Xa (rs:=[.tmp 2]) [0,2,3,6,10,28] [] mixed (hΓ) (zg) call17 func17 rfl ntmps17 rfl ?_;by_cases h1:t.length≤500
 ·have d0:decide ((500:Int)<t.length)=false:=Yd Zo;rw[Yf h1];simp(disch:=try exact Zq)only[go_sem,d0];refine AXs.loop mixed (hΓ) (zg) (ι:=Nat) (fun i=>[(3,.int .i64 i),(0,.fs (strs t) t.length)]) (fun _=>⟨[],0⟩) (fun i=>i≤t.length∧∀j,j<i→symN (t.getD j [])=true∧t.idxOf (t.getD j [])=j) (fun i=>t.length-i) 0 Zk ⟨Yk _,fun j hj=>absurd hj (Ya0 _)⟩ (Xb [] rfl rfl ?_ ?_) ?_
  ·simp only[go_sem]
  ·simp only[go_sem]
  rintro i ⟨g1,g2⟩;by_cases hi:i<t.length
  ·have d1:decide ((i:Int)<t.length)=true:=Yf Zo;have ei:(i:Int)+1=((i+1:Nat):Int):=Zo;have hm:t.getD i []∈t:=getD_mem hi;have hcn:=zxw (t.getD i []) (hs i);have hcp:=cPosn_eq t (t.getD i []) hl hm;cases hb:symN (t.getD i [])with
   |false=>rw[hb]at hcn;simp(disch:=try exact Zq)only[go_sem,d1,hcn,hcp];refine⟨⟨Zo,Zo⟩,Zo,?_⟩;rw[zyC hi hb];rfl
   |true=>
    rw[hb]at hcn;by_cases hx:t.idxOf (t.getD i [])=i
    ·have dx:decide (((t.idxOf (t.getD i []):Nat):Int)=(i:Nat))=true:=Yf Zo;simp(disch:=try exact Zq)only[go_sem,d1,hcn,hcp,dx,ei];refine⟨⟨Zo,Zo⟩,Zo,⟨Zo,Zo⟩,Zo,zi (i+1) ⟨hi,fun j hj=>?_⟩ (by show t.length-(i+1)<t.length-i;omega) (Xb [] rfl rfl Zg Zg)⟩;rcases YaJ j i with h|h
     ·exact g2 j h
     obtain rfl:j=i:=Zo;exact⟨hb,hx⟩
    have dx:decide (((t.idxOf (t.getD i []):Nat):Int)=(i:Nat))=false:=Yd Zo;simp(disch:=try exact Zq)only[go_sem,d1,hcn,hcp,dx,ei];refine⟨⟨Zo,Zo⟩,Zo,⟨Zo,Zo⟩,Zo,?_⟩;rw[Yd fun h=>hx (hnd.1 h i hi),YbR]
  obtain rfl:i=t.length:=Zo;have d1:decide ((t.length:Int)<t.length)=false:=Yd Zo;simp(disch:=try exact Zq)only[go_sem,d1];refine AXa.go mixed (hΓ) (zg) Zk ?_;simp(disch:=try exact Zq)only[go_sem];rw[zyB (fun j hj=>(g2 j hj).1),Yf (hnd.2 fun j hj=>(g2 j hj).2)];rfl
 have d0:decide ((500:Int)<t.length)=true:=Yf Zo;rw[Yd h1];simp(disch:=try exact Zq)only[go_sem,d0]
def cRTab:ZV:=zL (fun t:List ZL=>[.fs (strs t) t.length]) (fun t=>t.length≤1000000000∧∀j,(t.getD j []).length≤1000000000) fun t=>.ret (.bool (tabB t))
def zqi(t:List ZL)(hl:t.length≤1000000000)(hs:∀j,(t.getD j []).length≤1000000000):cRTab [.fs (strs t) t.length]=some (.ret (.bool (tabB t))):=
 zo (pat:=fun t:List ZL=>[V.fs (strs t) t.length]) (fun x y h=>by simp at h;exact zbv h.1) t ⟨hl,hs⟩
def zqh:ZC cRTab 17:=zn fun t h=>zk4 t h.1 h.2
end Go.Proofs

namespace Go.Proofs
open Tryz Go.Shelf Go.RowKit
def renB:Ren where
 f:=fun x=>match x with|178=>24|179=>25|180=>32|181=>81|183=>34|184=>82|251=>61|252=>62|290=>83|324=>101|n=>n
 t:=fun x=>match x with|0=>0|3=>3|4=>4|5=>5|9=>9|20=>20|37=>28|75=>62|80=>194|91=>56|93=>58|130=>99|131=>100|n=>n
 g:=fun x=>match x with|14=>0|n=>n
def zj6:LaysM.n178 prog renB:=by constructor<;>first|kernel_rfl|(intro w;kernel_rfl)|(constructor<;>first|kernel_rfl|(intro w;kernel_rfl))
def laysB179:LaysM.n179 prog renB:=by constructor<;>first|kernel_rfl|(intro w;kernel_rfl)|(constructor<;>first|kernel_rfl|(intro w;kernel_rfl))
def laysB180:LaysM.n180 prog renB:=by constructor<;>first|kernel_rfl|(intro w;kernel_rfl)|(constructor<;>first|kernel_rfl|(intro w;kernel_rfl))
def Bg(T e:TypeId)(R:Nat→Option Value)(b q g l:Nat)(bs:List Value)(w:World):Prop:=
 ∃cap cur lr,LibA.Three w b q T R (.slice (some ⟨g,0,none⟩) l cap) (.int .i64 0) (.int .i8 lr)∧w.heap[g]? =some (.cells cur e (0,0))∧l≤cap∧cap≤maxLen∧(cap≤cur.size∧cur.size≤maxLen∧lr=0)∧cur.toList.take bs.length=bs∧g≠b
structure Oth(b g:Nat)(w w':World):Prop where
 os:w'.os=w.os
 tape:w'.tape=w.tape
 output:w'.output=w.output
 size:w.heap.size≤w'.heap.size
 block:∀k,k<w.heap.size→k≠b→k≠g→w'.heap[k]? =w.heap[k]?
def Oth.trans {b g g':Nat}{w1 w2 w3:World}(h:Oth b g w1 w2)(k:Oth b g' w2 w3)(hg:g'=g∨w1.heap.size≤g'):Oth b g w1 w3:=
 ⟨k.os.trans h.os,k.tape.trans h.tape,k.output.trans h.output,Yw h.size k.size,fun i hi h1 h2=>(k.block i (Yu hi h.size) h1 (by rcases hg with rfl|hg<;>omega)).trans (h.block i hi h1 h2)⟩
def zg3 {b g:Nat}{w w':World}(h:w.grownBy w' (some b)):Oth b g w w':=⟨h.os,h.tape,h.output,h.size,fun k hk h1 _=>h.block k hk (fun e=>h1 (Yh e))⟩
def zd3(w:World)(b g q:Nat)(v:Value):Oth b g w (w.setCell ⟨b,q,none⟩ v):=zg3 (Lib.grownBy_setCell w b q v)
def zpy(w:World)(b g q:Nat)(v:Value):Oth b g w (w.setCell ⟨g,q,none⟩ v):=⟨rfl,rfl,rfl,by simp[World.setCell],fun k _ _ h2=>Below.heap_setCell _ _ _ _ h2⟩
def zg2(w:World)(b g:Nat)(a:Array Value):Oth b g w (w.setRow g a):=⟨rfl,rfl,rfl,Zs,fun k _ _ h2=>setRow_other _ _ _ _ h2⟩
section
variable {P:Program}{ρ:Ren}
def bf_len(L:LaysM.n181 P ρ)(T:TypeId)(R:Nat→Option Value)(b q l cap:Nat)(lr:Int)(ao:Option Addr)(w:World)(hbk:LibA.Three w b q T R (.slice ao l cap) (.int .i64 0) (.int .i8 lr))(hl:l≤maxLen):Calls P (ρ.f 181) #[.pointer (some ⟨b,q,none⟩)] w fun e w'=>e=.returned (.int .i64 l)∧∃n,w'=w.drewN n:=by have mixed:=L.mixed;have t5:=L.t5;have a5:=L.a5;have z5:=L.z5;have v5:=L.v5;have t130:=L.t130;have a130:=L.a130;have z130:=L.z130;have v130:=L.v130;have t3:=L.t3;have a3:=L.a3;have z3:=L.z3;have v3:=L.v3;have t93:=L.t93;have u93:=run_underlying L.t93;have a93:=L.a93;have z93:=L.z93;have v93:=L.v93;have t37:=L.t37;have a37:=L.a37;have z37:=L.z37;have v37:=L.v37;have c0:=hbk.c0;have c1:=hbk.c1;unfold maxLen at hl;go_enter L.f181,Body.n181_ntmps ρ;go_wp2;go_region_o;all_goals (go_wp2;go_ret;exact⟨Zs,1,rfl⟩)
def bf_slice(L:LaysM.n290 P ρ)(g l c n:Nat)(cur:Array Value)(w:World)(hg:w.heap[g]? =some (.cells cur (ρ.t 5) (0,0)))(hcs:c≤cur.size)(hlc:l≤c)(hn:1≤n) (hlim:l+n≤140737488355328) (hc2:c≤140737488355328) (h1:∀v∈cur.toList.take l,v.oneCell'=true):Calls P (ρ.f 290) #[.slice (some ⟨g,0,none⟩) l c,.int .i64 n] w fun e w'=>∃cap2 cells,e=.returned (.slice (some ⟨w.heap.size,0,none⟩) l cap2)∧w'.heap[w.heap.size]? =some (.cells cells (ρ.t 5) (0,0))∧cells.size=cap2∧cells.toList.take l=cur.toList.take l∧l+n≤cap2∧cap2≤maxLen∧Below w.heap.size w w':=by
 have mixed:=L.mixed;have t5:=L.t5;have a5:=L.a5;have z5:=L.z5;have v5:=L.v5;have t37:=L.t37;have a37:=L.a37;have z37:=L.z37;have v37:=L.v37;have t3:=L.t3;have a3:=L.a3;have z3:=L.z3;have v3:=L.v3;have t0:=L.t0;have a0:=L.a0;have z0:=L.z0;have v0:=L.v0;have t4:=L.t4;have a4:=L.a4;have z4:=L.z4;have v4:=L.v4;obtain⟨i0,hi,hz0,hz1,hz2⟩:=info_parts L.i5;have hsz1:(P.info? (ρ.t 5)).map (·.size)=some 1:=by rw[hi];simp[hz1]
 have hxl:(cur.toList.take l).length=l:=by rw[Y0,YX];omega
 have hgl:=Lib.lt_of_heap hg;obtain⟨C,hC0,hC⟩:∃C,l+n≤C∧((l+n<2*c∧C=2*c)∨(¬l+n<2*c∧C=l+n)):=by
  by_cases h:l+n<2*c
  ·exact⟨2*c,Zo,.inl ⟨h,rfl⟩⟩
  exact⟨l+n,Yc _,.inr ⟨h,rfl⟩⟩
 have happ:=Lib.run_append_nil_zeros (P:=P) w (ρ.t 37) (ρ.t 3) (ρ.t 37) (ρ.t 5) i0 (.int .u8 0) .i64 .i64 L.t37 L.t3 hi hz0 C Zo Zo Zo (by rw[hz2];omega);generalize hcap:grownCap w C 0 (ρ.t 5)=cap2 at happ;have hcapge:C≤cap2:=by rw[←hcap];exact grownCap_ge w _ 0 (ρ.t 5)
 have hcaple:cap2≤maxLen:=by rw[←hcap];exact grownCap_le_maxLen w _ 0 (ρ.t 5) (by unfold maxLen;omega)
 generalize hZ:(Builtin.zeroCells (Value.int .u8 0).cells C++Builtin.zeroCells (Value.int .u8 0).cells (cap2-C))=Z at happ;have hZs:Z.size=cap2:=by rw[←hZ];simp[size_zeroCells,Value.cells];omega
 clear hcap hZ;have hg1:(w.alloc (.cells Z (ρ.t 5))).drew.heap[g]? =some (.cells cur (ρ.t 5) (0,0)):=by show (w.alloc (.cells Z (ρ.t 5))).heap[g]? =_;rw[RowKit.Below.heap_alloc w _ g hgl];exact hg
 have hcopy:=run_copy_row (P:=P) (w.alloc (.cells Z (ρ.t 5))).drew (ρ.t 37) (ρ.t 37) (ρ.t 3) (ρ.t 5) w.heap.size 0 C cap2 ⟨g,0,none⟩ l c Z (ρ.t 5) (cur.toList.take l) L.t37 hsz1 (heap_alloc_new w _) (by rw[hxl];exact(YaZ Zo).symm) (Lib.cells_of_row hg1 l) (by rw[hxl];omega) h1;rw[hxl]at hcopy;generalize hY:(Z.toList.take 0++cur.toList.take l++Z.toList.drop (0+l)).toArray=Y at hcopy;have hYl:Y.toList=cur.toList.take l++Z.toList.drop l:=by rw[←hY];simp
 have fin:Y.size=cap2∧Y.toList.take l=cur.toList.take l∧l+n≤cap2:=by
  refine⟨?_,?_,Zo⟩
  ·have:Y.toList.length=cap2:=by rw[hYl,Yg,hxl,Yai,YX,hZs];omega
   simpa using this
  rw[hYl,List.take_append_of_le_length (by rw[hxl];exact Yc _),Yp (by rw[hxl];exact Yc _)]
 have hbel:Below w.heap.size w ((w.alloc (.cells Z (ρ.t 5))).drew.setRow w.heap.size Y):=⟨rfl,rfl,rfl,Zs,fun k hk=>by rw[setRow_other _ _ _ _ Zo];exact Below.heap_alloc w _ k hk⟩;have hrow:((w.alloc (.cells Z (ρ.t 5))).drew.setRow w.heap.size Y).heap[w.heap.size]? =some (.cells Y (ρ.t 5) (0,0)):=setRow_heap _ _ Z Y (ρ.t 5) (0,0) (heap_alloc_new w _);rcases hC with⟨hC,hCe⟩|⟨hC,hCe⟩
 ·have hCi:(C:Int)=2*(c:Int):=Zo;rw[hCi]at happ;subst hCe;go_enter_defers L.f290,Body.n290_ntmps ρ;go_wp2_with (at_builtin;refine Lib.wpList_append_run _ rfl _ _ _ _ rfl _ _ rfl rfl _ _ happ ?_);refine leaves_cons (f:=(ρ.f 324)) (args:=#[]) Zs (enters_of L.f324 Zk rfl _ _) ?_;refine(Any.growSlice_catch_idle { L with } _).mono ?_;rintro e u' w'' ⟨rfl,rfl,rfl⟩;exact⟨_,results_tmp rfl _ _ _,cap2,Y,rfl,hrow,fin.1,fin.2.1,fin.2.2,hcaple,hbel⟩
 have hCi:(C:Int)=(l:Int)+(n:Int):=Zo;rw[hCi]at happ;subst hCe;go_enter_defers L.f290,Body.n290_ntmps ρ;go_wp2_with (at_builtin;refine Lib.wpList_append_run _ rfl _ _ _ _ rfl _ _ rfl rfl _ _ happ ?_);refine leaves_cons (f:=(ρ.f 324)) (args:=#[]) Zs (enters_of L.f324 Zk rfl _ _) ?_;refine(Any.growSlice_catch_idle { L with } _).mono ?_;rintro e u' w'' ⟨rfl,rfl,rfl⟩;exact⟨_,results_tmp rfl _ _ _,cap2,Y,rfl,hrow,fin.1,fin.2.1,fin.2.2,hcaple,hbel⟩
def zoD(L:LaysM.n252 P ρ)(T:TypeId)(R:Nat→Option Value)(b q g n:Nat)(bs:List Value)(w:World)(h:Bg T (ρ.t 5) R b q g bs.length bs w)(hl0:¬bs.length=0)(hnr:LibA.NoRoom b q n w)(h1:∀v∈bs,v.oneCell'=true)(hlim:bs.length+n≤140737488355328):Calls P (ρ.f 252) #[.pointer (some ⟨b,q,none⟩),.int .i64 n] w fun e w'=>e=.returned (.int .i64 bs.length)∧∃g',w.heap.size≤g'∧Bg T (ρ.t 5) R b q g' (bs.length+n) bs w'∧Oth b g w w':=by
 obtain⟨cap,cur,lr,hbk,hg,hlc,hcm,hcs,htake,hgb⟩:=id h;clear h;obtain⟨ao,l',cap0,hc,hroom⟩:=hnr;rw[hbk.c0]at hc;cases hc;obtain⟨l,hl⟩:∃l,bs.length=l:=⟨_,rfl⟩;rw[hl]at hbk hlc htake hroom hlim hl0 ⊢;have hn:1≤n:=Zo;have mixed:=L.mixed;have t5:=L.t5;have a5:=L.a5;have z5:=L.z5;have v5:=L.v5;have t130:=L.t130;have a130:=L.a130;have z130:=L.z130;have v130:=L.v130;have t3:=L.t3;have a3:=L.a3;have z3:=L.z3;have v3:=L.v3;have t4:=L.t4;have a4:=L.a4;have z4:=L.z4;have v4:=L.v4;have t0:=L.t0;have a0:=L.a0;have z0:=L.z0;have v0:=L.v0;have t93:=L.t93;have u93:=run_underlying L.t93;have a93:=L.a93;have z93:=L.z93;have v93:=L.v93;have t131:=L.t131;have a131:=L.a131;have z131:=L.z131;have v131:=L.v131;have t37:=L.t37;have a37:=L.a37;have z37:=L.z37;have v37:=L.v37;have t75:=L.t75;have a75:=L.a75;have z75:=L.z75;have v75:=L.v75;have e181:∀args w,(callFunc (ρ.f 181) args).run P w=.ok (.enter (ρ.f 181) args) w:=enters_of L.f181 Zk rfl;have e251:∀args w,(callFunc (ρ.f 251) args).run P w=.ok (.enter (ρ.f 251) args) w:=enters_of L.f251 Zk rfl;have e290:∀args w,(callFunc (ρ.f 290) args).run P w=.ok (.enter (ρ.f 290) args) w:=enters_of L.f290 Zk rfl;have hnil:∀W,(binOp .eql (ρ.t 37) (.slice (some ⟨g,0,none⟩) l cap) (.slice none 0 0)).run P W=.ok (.bool false) W:=fun W=>Lib.run_eql_slice_some_nil W _ _ _ L.t37;go_enter L.f252,Body.n252_ntmps ρ;go_wp2_with (go_at_fn (ρ.f 181);refine(bf_len { L with } T R b q l cap lr _ _ hbk Zo).mono ?_);rintro e W0 ⟨rfl,k,hW0⟩;have hbk0:LibA.Three W0 b q T R (.slice (some ⟨g,0,none⟩) l cap) (.int .i64 0) (.int .i8 lr):=by rw[hW0];exact hbk
 have hg0:W0.heap[g]? =some (.cells cur (ρ.t 5) (0,0)):=by rw[hW0];exact hg
 have c0:W0.cell? ⟨b,q,none⟩=some (.slice (some ⟨g,0,none⟩) l cap):=hbk0.c0;have c1:W0.cell? ⟨b,q+1,none⟩=some (.int .i64 0):=hbk0.c1;have f0:W0.frozen? ⟨b,q,none⟩=false:=hbk0.f q;have f1:W0.frozen? ⟨b,q+1,none⟩=false:=hbk0.f (q+1);have HW0:=Lib.hid hW0;clear hW0;have hcm':=hcm;unfold maxLen at hcm';go_wp2_with (go_at_fn (ρ.f 251);refine(Any.Buffer_tryGrow_none_at { L with } b q _ l cap n _ c0 hlc hcm hroom).mono ?_;rintro e w' ⟨rfl,rfl⟩);have hc2:cap≤140737488355328:=Zo;have h1':∀v∈cur.toList.take l,v.oneCell'=true:=by rw[htake];exact h1
 have hbW:=hbk0.lt;have hwn:IntKind.i64.wrap (n:Int)=n:=by rw[IntKind.wrap_i64];omega
 go_region_with_o (
  go_at_fn (ρ.f 290)
  refine(bf_slice { L with } g l cap n cur _ ?_ hcs.1 hlc hn hlim hc2 h1').mono ?_
  exact hg0
  rintro e w2 ⟨cap2,cells,rfl,hN,hcsz,htk,hcap2,hcm2,hbel⟩
  have hbk2:LibA.Three w2 b q T R (.slice (some ⟨g,0,none⟩) l cap) (.int .i64 0) (.int .i8 lr):=hbk0.of_heap (hbel.block b hbW)
  have d0:w2.cell? ⟨b,q,none⟩=some (.slice (some ⟨g,0,none⟩) l cap):=hbk2.c0
  have d1:w2.cell? ⟨b,q+1,none⟩=some (.int .i64 0):=hbk2.c1
  have e0:w2.frozen? ⟨b,q,none⟩=false:=hbk2.f q
  have e1:w2.frozen? ⟨b,q+1,none⟩=false:=hbk2.f (q+1))
 all_goals (
  go_wp2
  go_ret
  have hsz0:w'.heap.size=w.heap.size:=by rw[HW0.out];rfl
  have hg2:w.grownBy w2 (some b):=Lib.grownBy_below (w:=w'.drew) (by rw[HW0.out];exact⟨rfl,rfl,rfl,Yc _,fun _ _ _=>rfl⟩) hbel
  have hNb:w'.heap.size≠b:=Zo
  refine⟨rfl,w'.heap.size,Zo,⟨cap2,cells,lr,((hbk2.set0 _).set1 _).set0 _,?_,hcap2,hcm2,Zo,by rw[hl];exact htk.trans htake,hNb⟩,zg3 (Lib.grownBy_setB (Lib.grownBy_setB (Lib.grownBy_setB hg2 q _) (q+1) _) q _)⟩
  rw[Below.heap_setCell _ _ _ _ hNb,Below.heap_setCell _ _ _ _ hNb,Below.heap_setCell _ _ _ _ hNb]
  exact hN)
end
end Go.Proofs
