/- The reference's rows of probabilities (ref35.row). -/
import Derived.Test.YtfilkkmcagndlaaGreatDoorF3b
import Derived.Test.YtfilkkmcagndlaaGreatDoorM2
import Derived.Test.YtfilkkmcagndlaaGreatDoorAbIn
set_option linter.all false
namespace Go.Proofs
open Go.Ab Go.Pl Go.Cnt
def ixU(T:List Str)(b:Str):Nat→Nat
 |0=>T.length
 |j+1=>if T.getD j []=b then j else ixU T b j
theorem ixU_le(T:List Str)(b:Str):∀ j,j≤T.length→ixU T b j≤T.length
 |0,_=>Nat.le_refl _
 |j+1,h=>by
  unfold ixU;split
  ·omega
  ·exact ixU_le T b j (by omega)
def zjh(a:Str)(T:List Str)(v:List Nat)(e:Ent):List Nat:=
 if e.1.1=a then v.set (ixU T e.1.2 T.length) (v.getD (ixU T e.1.2 T.length) 0+e.2.toNat)else v
def vecU(a:Str)(T:List Str)(l:List Ent):Nat→List Nat
 |0=>List.replicate (T.length+1) 0
 |i+1=>zjh a T (vecU a T l i) (nthE l i)
def sumU(a:Str)(l:List Ent):Nat→Nat
 |0=>0
 |i+1=>if (nthE l i).1.1=a then sumU a l i+(nthE l i).2.toNat else sumU a l i
def zcD(l:List Ent):Prop:=∀ e∈l,0≤e.2∧e.2≤1000000
set_option maxRecDepth 100000 in
theorem zgs {l:List Ent}(h:zcD l)(i:Nat):(nthE l i).2.toNat≤1000000:=by
 by_cases hi:i<l.length
 ·have:=h _ (zcq hi);omega
 ·rw [nthE,zba _ _ _ (by omega)];decide
theorem zq0 {a:Str}{l:List Ent}{M:Nat}(h:∀ i,(nthE l i).2.toNat≤M):∀ i,sumU a l i≤i*M
 |0=>Nat.zero_le _
 |i+1=>by have:=zq0 (a:=a) h i;have:=h i;rw [Nat.succ_mul];generalize i*M=P at*;unfold sumU;split<;>omega
theorem zoO {a:Str}{l:List Ent}(h:zcD l)(i:Nat):sumU a l i≤i*1000000:=zq0 (zgs h) i
theorem zeV(a:Str)(T:List Str)(l:List Ent):∀ i,(vecU a T l i).length=T.length+1
 |0=>by simp [vecU]
 |i+1=>by have:=zeV a T l i;unfold vecU zjh;split<;>simp [this]
theorem zkM {a:Str}{T:List Str}{l:List Ent}{M:Nat}(h:∀ i,(nthE l i).2.toNat≤M)(j:Nat):∀ i,(vecU a T l i).getD j 0≤i*M
 |0=>by
  unfold vecU;rw [List.getD_eq_getElem?_getD];by_cases hj:j<T.length+1
  ·rw [List.getElem?_replicate,if_pos hj];exact Nat.zero_le _
  ·rw [List.getElem?_replicate,if_neg hj];exact Nat.zero_le _
 |i+1=>by
  have h1:=zkM (a:=a) (T:=T) h j i;have h2:=zkM (a:=a) (T:=T) h (ixU T (nthE l i).1.2 T.length) i;have h3:=h i;rw [Nat.succ_mul];generalize i*M=P at*;unfold vecU zjh;split
  ·rw [List.getD_eq_getElem?_getD,List.getElem?_set];split
   ·split
    ·simp only [Option.getD_some];omega
    ·simp
   ·rw [←List.getD_eq_getElem?_getD];omega
  ·omega
theorem zvS {a:Str}{T:List Str}{l:List Ent}(h:zcD l)(j i:Nat):(vecU a T l i).getD j 0≤i*1000000:=zkM (zgs h) j i
theorem zvd(a b:List UInt8)(la:a.length≤1000000000)(lb:b.length≤1000000000):zr4 [.str a,.str b]=some (.ret (.tup [.str (resP (zK a b)).1,.int .i64 (resP (zK a b)).2])):=by have h:zr4 [.str a,.str b]=some (.ret (zK a b)):=zn (pat:=fun p:List UInt8×List UInt8=>[V.str p.1,.str p.2]) (fun x y h=>by simp at h;exact Prod.ext h.1 h.2) (a,b) ⟨la,lb⟩;obtain⟨s,e,hse⟩:=zfm a b;rw [hse,zdd, ←hse];exact h
theorem zku(a b:List UInt8)(la:a.length≤1000000000)(lb:b.length≤1000000000):zr6 [.str a,.str b]=some (.ret (.tup [.str (resP (zM a b)).1,.int .i64 (resP (zM a b)).2])):=by have h:zr6 [.str a,.str b]=some (.ret (zM a b)):=zn (pat:=fun p:List UInt8×List UInt8=>[V.str p.1,.str p.2]) (fun x y h=>by simp at h;exact Prod.ext h.1 h.2) (a,b) ⟨la,lb⟩;obtain⟨s,e,hse⟩:=zfo a b;rw [hse,zdd, ←hse];exact h
theorem zve(a b:List UInt8)(la:a.length≤1000000000)(lb:b.length≤1000000000):zr5 [.str a,.str b]=some (.ret (.tup [.str (resP (zaH a b)).1,.int .i64 (resP (zaH a b)).2])):=by have h:zr5 [.str a,.str b]=some (.ret (zaH a b)):=zn (pat:=fun p:List UInt8×List UInt8=>[V.str p.1,.str p.2]) (fun x y h=>by simp at h;exact Prod.ext h.1 h.2) (a,b) ⟨la,lb⟩;obtain⟨s,e,hse⟩:=zfn a b;rw [hse,zdd, ←hse];exact h
def acSV(l:List Str):V:=match l with|[]=>.nilS|_=>.sl 0 0 l.length 1 none
def acSB(l:List Str):List (Nat×Blk):=match l with|[]=>[]|_=>[(0,.cells (strs l))]
def acSN(l:List Str):Nat:=match l with|[]=>0|_=>1
set_option maxHeartbeats 8000000 in
set_option maxRecDepth 100000 in
theorem rrow_ok(l:List Ent)(a:Str)(T:List Str)(k:Str)(hl:l.length≤100000)(hT:T.length≤100000)(hs:zcD l)(lk:k.length≤1000000000):
 PCall Tryz.prog 40 [.fs (cnts l) l.length,.str a,.fs (strs T) T.length,.str k] (.ret (zcG k (T.length+1) (sumU a l l.length) (vecU a T l l.length))):=by
 have hΓ:=zf zqq (zf zzN (zf zzP (zf zzO zh)))
 refine PCall.walk (rs:=[.tmp 8,.tmp 9]) [0,1,2,3,8,9,10,11,12,13,14,15,16,17,18,19,20,28,37,50,62,87,96,101,119,127] [] mixed (hΓ) (zg) call40 Tryz.func40 rfl Tryz.ntmps40 rfl (by kernel_rfl) (by simp) (by simp [push_cast]) ?_
 simp (disch:=first|assumption|(push_cast<;>omega)|omega) only [go_sem]
 refine⟨by omega,?_⟩
 rw [show ints .i64 (List.replicate (T.length+1) 0)=nats .i64 (vecU a T l 0)by simp [vecU,nats,ints]]
 refine AXs.loop mixed (hΓ) (zg) (fun i:Nat=>[(0,.fs (cnts l) l.length),(1,.str a),(2,.fs (strs T) T.length),(3,.str k),(10,.int .i64 (sumU a l i)),(11,.sl 0 0 (T.length+1) 1 (some (T.length+1))),(12,.int .i64 i)]) (fun i=>⟨[(0,.cells (nats .i64 (vecU a T l i)))],1⟩) (fun i=>i≤l.length) (fun i=>l.length - i) 0 (by kernel_rfl) (Nat.zero_le _) (Sub.of0 [(0,0)] rfl rfl ?_ ?_) ?_
 ·simp only [go_sem,sumU]
 ·simp only [go_sem]
 intro i hi
 have b1:=zoO (a:=a) hs i
 have b3:=zeV a T l i
 simp (disch:=first|assumption|(push_cast<;>omega)|omega) only [go_sem]
 refine AXc.introP (fun h5=>?_) (fun h5=>?_)
 ·have hi':i<l.length:=by omega
  have a1:=zci l i hi'
  have b4:=zgs hs i
  simp (disch:=first|assumption|(push_cast<;>omega)|omega) only [go_sem,a1]
  refine⟨by omega,AXc.introN (fun h6=>?_) (fun h6=>?_)⟩
  ·have e1:sumU a l (i+1)=sumU a l i:=by rw [sumU,if_neg h6]
   have e2:vecU a T l (i+1)=vecU a T l i:=by rw [vecU,zjh,if_neg h6]
   simp (disch:=first|assumption|(push_cast<;>omega)|omega) only [go_sem]
   refine zi (i+1) (by omega) (by omega) (Sub.of0 [(0,0)] rfl rfl ?_ ?_)
   ·simp only [go_sem,e1]
    simp only [V.int.injEq,true_and];omega
   ·simp only [go_sem,e2]
  ·have e1:sumU a l (i+1)=sumU a l i+(nthE l i).2.toNat:=by rw [sumU,if_pos h6]
   have e2:vecU a T l (i+1)=zjh a T (vecU a T l i) (nthE l i):=rfl
   have q1:=hs _ (zcq hi')
   have e3:(nthE l i).2=((nthE l i).2.toNat:Int):=by omega
   simp (disch:=first|assumption|(push_cast<;>omega)|omega) only [go_sem,a1]
   refine⟨by omega,by omega,?_⟩
   obtain⟨N,hN⟩:∃ N,N=(nthE l i).2.toNat:=⟨_,rfl⟩
   obtain⟨B,hB⟩:∃ B,B=(nthE l i).1.2:=⟨_,rfl⟩
   rw [e3, ←hN]
   refine AXs.loop mixed (hΓ) (zg) (fun j:Nat=>[(0,.fs (cnts l) l.length),(1,.str a),(2,.fs (strs T) T.length),(3,.str k),(10,.int .i64 ((sumU a l i:Int)+N)),(11,.sl 0 0 (T.length+1) 1 (some (T.length+1))),(12,.int .i64 i),(13,.int .i64 (ixU T B j)),(14,.int .i64 j)]) (fun _=>⟨[(0,.cells (nats .i64 (vecU a T l i)))],1⟩) (fun j=>j≤T.length) (fun j=>T.length - j) 0 (by kernel_rfl) (Nat.zero_le _) (Sub.of0 [(0,0)] rfl rfl ?_ ?_) ?_
   ·simp only [go_sem,ixU]
   ·simp only [go_sem]
   intro j hj
   have c1:=ixU_le T B j hj
   simp (disch:=first|assumption|(push_cast<;>omega)|omega) only [go_sem]
   refine AXc.introP (fun h7=>?_) (fun h7=>?_)
   ·have hj':j<T.length:=by omega
    simp (disch:=first|assumption|(push_cast<;>omega)|omega) only [go_sem,a1]
    refine⟨by omega,by omega,by omega,?_⟩
    rw [←hB]
    refine AXc.introP (fun h8=>?_) (fun h8=>?_)
    ·have e4:ixU T B (j+1)=j:=by rw [ixU,if_pos h8]
     simp (disch:=first|assumption|(push_cast<;>omega)|omega) only [go_sem]
     refine zi (j+1) (by omega) (by omega) (Sub.of0 [(0,0)] rfl rfl ?_ ?_)
     ·simp only [go_sem,e4]
      simp only [V.int.injEq,true_and];omega
     ·simp only [go_sem]
    ·have e4:ixU T B (j+1)=ixU T B j:=by rw [ixU,if_neg h8]
     simp (disch:=first|assumption|(push_cast<;>omega)|omega) only [go_sem]
     refine zi (j+1) (by omega) (by omega) (Sub.of0 [(0,0)] rfl rfl ?_ ?_)
     ·simp only [go_sem,e4]
      simp only [V.int.injEq,true_and];omega
     ·simp only [go_sem]
   ·obtain rfl:j=T.length:=by omega
    have d1:=zvS (a:=a) (T:=T) hs (ixU T B T.length) i
    have d2:nthV (nats .i64 (vecU a T l i)) (ixU T B T.length)=.int .i64 ((vecU a T l i).getD (ixU T B T.length) 0:Nat):=zdC _ _ _ (by omega)
    simp (disch:=first|assumption|(push_cast<;>omega)|omega) only [go_sem]
    refine AXa.go mixed (hΓ) (zg) (by kernel_rfl) ?_
    have e5:(nthE l i).2=(N:Int):=by omega
    simp (disch:=first|assumption|(push_cast<;>omega)|omega) only [go_sem,a1,d2,e5]
    refine⟨by omega,by omega,by omega,by omega,by omega,by omega,?_⟩
    refine AXk.intro (by kernel_rfl) ?_
    simp (disch:=first|assumption|(push_cast<;>omega)|omega) only [go_sem]
    rw [show (nats .i64 (vecU a T l i)).set (ixU T B T.length) (.int .i64 (((vecU a T l i).getD (ixU T B T.length) 0:Nat)+(N:Int)))=nats .i64 (vecU a T l (i+1))by rw [e2,zjh,if_pos h6, ←hB, ←hN, ←zhl];rfl]
    refine zi (i+1) (by omega) (by omega) (Sub.of0 [(0,0)] rfl rfl ?_ ?_)
    ·simp only [go_sem,e1]
     simp only [V.int.injEq,true_and];omega
    ·simp only [go_sem]
 ·obtain rfl:i=l.length:=by omega
  have b5:=fun j=>zvS (a:=a) (T:=T) hs j l.length
  generalize hVec:vecU a T l l.length=W at b3 b5 ⊢
  generalize sumU a l l.length=S at b1 ⊢
  simp (disch:=first|assumption|(push_cast<;>omega)|omega) only [go_sem]
  refine AXa.fz [0] rfl rfl rfl (env':=[(0,.fs (cnts l) l.length),(1,.str a),(2,.fs (strs T) T.length),(3,.str k),(10,.int .i64 S),(11,.fs (nats .i64 W) W.length)]) (bs':=[]) (n':=1) ?_ ?_ ?_
  ·simp only [go_sem]
   right
   exact FrzF.slp (by simp) rfl (by omega) (by simp [zW,b3]) (by rw [List.drop_zero,Nat.mul_one, ←b3, ←zW .i64 W,List.take_length]) (zaS _ _)
  ·simp only [go_sem]
  refine AXa.go mixed (hΓ) (zg) (by kernel_rfl) ?_
  have r1:=zvd k (dec (T.length+1)) lk (by have:=zat (n:=T.length+1) (k:=7) (by omega) (by omega);omega)
  have lS:(dec S).length≤13:=zat (by omega) (by omega)
  have lm:=zii k (dec (T.length+1))
  have r2:=zku (resP (zK k (dec (T.length+1)))).1 (dec S) (by omega) (by omega)
  have r0:zgf [.int .i64 ((T.length:Int)+1)]=some (.ret (.str (dec (T.length+1)))):=zfy (T.length+1) (by omega)
  have p1:zeB k (T.length+1) S W=if (resP (zK k (dec (T.length+1)))).2≠0 then((resP (zK k (dec (T.length+1)))).2,[])else if (resP (zM (resP (zK k (dec (T.length+1)))).1 (dec S))).2≠0 then((resP (zM (resP (zK k (dec (T.length+1)))).1 (dec S))).2,[])else outR (resP (zM (resP (zK k (dec (T.length+1)))).1 (dec S))).1 k W W.length:=rfl
  have lA:=zcX (resP (zK k (dec (T.length+1)))).1 (dec S)
  simp (disch:=first|assumption|(push_cast<;>omega)|omega) only [go_sem,r0,r1]
  generalize resP (zK k (dec (T.length+1)))=m1 at r1 lm r2 p1 lA ⊢
  obtain⟨s1,f1⟩:=m1
  dsimp only at r1 lm r2 p1 lA ⊢
  generalize resP (zM s1 (dec S))=m2 at r2 p1 lA ⊢
  obtain⟨all,f2⟩:=m2
  dsimp only at r2 p1 lA ⊢
  have r3:zgf [.int .i64 (S:Int)]=some (.ret (.str (dec S))):=zfy S (by omega)
  refine AXc.introP (fun h6=>?_) (fun h6=>?_)
  rotate_left
  ·rw [if_pos h6]at p1
   simp (disch:=first|assumption|(push_cast<;>omega)|omega) only [go_sem]
   rw [decide_eq_false h6]
   simp (disch:=first|assumption|(push_cast<;>omega)|omega) only [go_sem,zcG,p1]
  ·rw [if_neg (by simpa using h6)]at p1
   simp (disch:=first|assumption|(push_cast<;>omega)|omega) only [go_sem,r2,r3]
   refine AXc.introN (fun h7=>?_) (fun h7=>?_)
   ·rw [if_pos h7]at p1
    simp (disch:=first|assumption|(push_cast<;>omega)|omega) only [go_sem,zcG,p1]
   ·rw [if_neg (by simpa using h7)]at p1
    simp (disch:=first|assumption|(push_cast<;>omega)|omega) only [go_sem]
    refine AXs.loop mixed (hΓ) (zg) (fun j:Nat=>[(3,.str k),(11,.fs (nats .i64 W) W.length),(15,.str all),(17,acSV (outR all k W j).2),(18,.int .i64 j)]) (fun j=>⟨acSB (outR all k W j).2,acSN (outR all k W j).2⟩) (fun j=>j≤W.length∧(outR all k W j).1=0) (fun j=>W.length - j) 0 (by kernel_rfl) ⟨Nat.zero_le _,rfl⟩ (Sub.of0 [] rfl rfl ?_ ?_) ?_
    ·simp only [go_sem,outR,acSV]
    ·simp only [go_sem,outR,acSB]
    rintro j ⟨hj,ho⟩
    have hlen:=zrb (all:=all) (k:=k) (ns:=W) j ho
    have hstep:outR all k W (j+1)=if (pR all k (W.getD j 0)).2≠0 then((pR all k (W.getD j 0)).2,[])else(0,(outR all k W j).2++[(pR all k (W.getD j 0)).1]):=by rw [outR,if_neg (by simpa using ho)]
    have hfin:(pR all k (W.getD j 0)).2≠0→j<W.length→outR all k W W.length=((pR all k (W.getD j 0)).2,[]):=fun h h'=>by rw [if_pos h]at hstep;rw [zhv (j:=j+1) (by rw [hstep];exact h) W.length (by omega),hstep]
    simp (disch:=first|assumption|(push_cast<;>omega)|omega) only [go_sem]
    refine AXc.introP (fun h8=>?_) (fun h8=>?_)
    rotate_left
    ·obtain rfl:j=W.length:=by omega
     simp (disch:=first|assumption|(push_cast<;>omega)|omega) only [go_sem]
     refine AXa.go mixed (hΓ) (zg) (by kernel_rfl) ?_
     generalize outR all k W W.length=r at ho hlen p1 ⊢
     obtain⟨e,o⟩:=r
     dsimp only at ho hlen p1 ⊢
     subst ho
     rcases o with _|⟨x,o⟩
     ·simp (disch:=first|assumption|(push_cast<;>omega)|omega) only [go_sem,zcG,p1,acSV,acSB,acSN]
     ·simp (disch:=first|assumption|(push_cast<;>omega)|omega) only [go_sem,zcG,p1,acSV,acSB,acSN]
      exact Frz.slp rfl rfl (by simp [strs]) (by rw [List.drop_zero,Nat.mul_one,za5,List.take_of_length_le (by simp)]) (zV _)
    ·have hj':j<W.length:=by omega
     have d2:nthV (nats .i64 W) j=.int .i64 (W.getD j 0:Nat):=zdC _ _ _ hj'
     have b6:=b5 j
     have r4:zgf [.int .i64 (W.getD j 0:Nat)]=some (.ret (.str (dec (W.getD j 0)))):=zfy _ (by omega)
     have ln:(dec (W.getD j 0)).length≤13:=zat (by omega) (by omega)
     have r5:=zku (dec (W.getD j 0)) k (by omega) lk
     have lB:=zcX (dec (W.getD j 0)) k
     have r6:=zve (resP (zM (dec (W.getD j 0)) k)).1 all (by omega) (by omega)
     unfold pR at hstep hfin
     simp (disch:=first|assumption|(push_cast<;>omega)|omega) only [go_sem,d2,r4,r5]
     refine⟨by omega,by omega,?_⟩
     generalize resP (zM (dec (W.getD j 0)) k)=m3 at r5 r6 lB hstep hfin ⊢
     obtain⟨s3,f3⟩:=m3
     dsimp only at r5 r6 lB hstep hfin ⊢
     rw [show (decide (f3=0)&& !decide (all=[48]))=decide (f3=0∧all≠[48])by simp]
     refine AXc.introP (fun h9=>?_) (fun h9=>?_)
     ·simp only [if_pos h9]at hstep hfin
      simp (disch:=first|assumption|(push_cast<;>omega)|omega) only [go_sem,r6]
      generalize resP (zaH s3 all)=m4 at r6 hstep hfin ⊢
      obtain⟨s4,f4⟩:=m4
      dsimp only at r6 hstep hfin ⊢
      refine AXc.introN (fun h10=>?_) (fun h10=>?_)
      ·have h11:=hfin h10 hj'
       rw [h11]at p1
       simp (disch:=first|assumption|(push_cast<;>omega)|omega) only [go_sem,zcG,p1]
      ·rw [if_neg (by simpa using h10)]at hstep
       generalize (outR all k W j).2=w at hlen hstep ⊢
       rcases w with _|⟨x,w⟩
       ·simp (disch:=first|assumption|(push_cast<;>omega)|omega) only [go_sem,acSV,acSB,acSN]
        (repeat refine sdC ?_)
        refine zi (j+1) ⟨by omega,by rw [hstep]⟩ (by omega) (Sub.of0 [(0,1)] rfl (by rw [hstep];rfl) ?_ ?_)
        ·simp only [go_sem,hstep,acSV]
         simp only [V.int.injEq,true_and];omega
        ·simp only [go_sem,hstep,acSB]
         rfl
       ·have hw:w.length+1=j:=hlen
        simp (disch:=first|assumption|(push_cast<;>omega)|omega) only [go_sem,acSV,acSB,acSN]
        (repeat refine sdC ?_)
        refine zi (j+1) ⟨by omega,by rw [hstep]⟩ (by omega) (Sub.of0 [(0,2)] rfl (by rw [hstep];rfl) ?_ ?_)
        ·simp only [go_sem,hstep,acSV]
         refine⟨by simp,?_⟩
         simp only [V.int.injEq,true_and];omega
        ·simp only [go_sem,hstep,acSB]
         rw [List.take_length]
     ·simp only [if_neg h9]at hstep hfin
      simp (disch:=first|assumption|(push_cast<;>omega)|omega) only [go_sem]
      refine AXc.introN (fun h10=>?_) (fun h10=>?_)
      ·have h11:=hfin h10 hj'
       rw [h11]at p1
       simp (disch:=first|assumption|(push_cast<;>omega)|omega) only [go_sem,zcG,p1]
      ·rw [if_neg (by simpa using h10)]at hstep
       generalize (outR all k W j).2=w at hlen hstep ⊢
       rcases w with _|⟨x,w⟩
       ·simp (disch:=first|assumption|(push_cast<;>omega)|omega) only [go_sem,acSV,acSB,acSN]
        (repeat refine sdC ?_)
        refine zi (j+1) ⟨by omega,by rw [hstep]⟩ (by omega) (Sub.of0 [(0,1)] rfl (by rw [hstep];rfl) ?_ ?_)
        ·simp only [go_sem,hstep,acSV]
         simp only [V.int.injEq,true_and];omega
        ·simp only [go_sem,hstep,acSB]
         rfl
       ·have hw:w.length+1=j:=hlen
        simp (disch:=first|assumption|(push_cast<;>omega)|omega) only [go_sem,acSV,acSB,acSN]
        (repeat refine sdC ?_)
        refine zi (j+1) ⟨by omega,by rw [hstep]⟩ (by omega) (Sub.of0 [(0,2)] rfl (by rw [hstep];rfl) ?_ ?_)
        ·simp only [go_sem,hstep,acSV]
         refine⟨by simp,?_⟩
         simp only [V.int.injEq,true_and];omega
        ·simp only [go_sem,hstep,acSB]
         rw [List.take_length]
noncomputable def cRRow:List V→Option PR:=zH (fun p:List Ent×Str×List Str×Str=>[.fs (cnts p.1) p.1.length,.str p.2.1,.fs (strs p.2.2.1) p.2.2.1.length,.str p.2.2.2]) (fun p=>p.1.length≤100000∧p.2.2.1.length≤100000∧zcD p.1∧p.2.2.2.length≤1000000000)
 (fun p=>.ret (zcG p.2.2.2 (p.2.2.1.length+1) (sumU p.2.1 p.1 p.1.length) (vecU p.2.1 p.2.2.1 p.1 p.1.length)))
theorem cRRow_ok:∀ args r,cRRow args=some r→PCall Tryz.prog 40 args r:=zo fun p h=>rrow_ok p.1 p.2.1 p.2.2.1 p.2.2.2 h.1 h.2.1 h.2.2.1 h.2.2.2
theorem zwd {l r:List Str}(h:strs l=strs r):l=r:=by
 induction l generalizing r with
 |nil=>cases r with
  |nil=>rfl
  |cons y r=>simp [strs]at h
 |cons x l ih=>cases r with
  |nil=>simp [strs]at h
  |cons y r=>
   simp only [strs,List.map_cons,List.cons.injEq,V.str.injEq]at h
   rw [ih h.2,h.1]
theorem zr0(l:List Ent)(a:Str)(T:List Str)(k:Str)(hl:l.length≤100000)(hT:T.length≤100000)(hs:zcD l)(lk:k.length≤1000000000):cRRow [.fs (cnts l) l.length,.str a,.fs (strs T) T.length,.str k]=some (.ret (zcG k (T.length+1) (sumU a l l.length) (vecU a T l l.length))):=
 zn (pat:=fun p:List Ent×Str×List Str×Str=>[V.fs (cnts p.1) p.1.length,.str p.2.1,.fs (strs p.2.2.1) p.2.2.1.length,.str p.2.2.2]) (fun x y h=>by obtain⟨x1,x2,x3,x4⟩:=x;obtain⟨y1,y2,y3,y4⟩:=y;simp only [List.cons.injEq,V.fs.injEq,V.str.injEq,and_true]at h;obtain⟨⟨h1,_⟩,h2,⟨h3,_⟩,h4⟩:=h;rw [zbp h1,h2,zwd h3,h4]) (l,a,T,k) ⟨hl,hT,hs,lk⟩
end Go.Proofs
