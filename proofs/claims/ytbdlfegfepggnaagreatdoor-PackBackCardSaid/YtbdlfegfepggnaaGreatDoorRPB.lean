/- A packed file is read as what was packed. -/
import Derived.Test.YtbdlfegfepggnaaGreatDoorRW5
import Derived.Test.YtbdlfegfepggnaaGreatDoorCards
import Derived.Test.YtbdlfegfepggnaaGreatDoorTie
import Derived.ProofKit
import Derived.LaidMore
import Derived.Lay
import Derived.MakeChecks
import Derived.Lib.LaidU8
import Derived.OpenShut
import Derived.Stop.Joined
import Derived.Stop.LaidErr
import Derived.SevenTiedAt
import Derived.Lib.LaidTab
import Derived.Carry
set_option linter.all false
set_option maxHeartbeats 16000000
set_option maxRecDepth 100000
noncomputable section
namespace Go.Proofs
open Go.Ab Go.Pl Go.Cnt
def ratP_802 {a:Str}(h:(ratP a).isSome=true):a.length≤802:=by
 unfold ratP at h;split at h
 ·rename_i hk;simp only[zbI,Yj]at hk;obtain⟨⟨⟨⟨h1,h2⟩,_⟩,_⟩,_⟩:=hk;have l1:=(shortN_iff.1 h1).2;have l2:=(shortN_iff.1 h2).2;unfold zH at l1 l2;dsimp only at l1 l2;have hr:a.length≤(if decide (a.getD 0 0=45)=true then a.drop 1 else a).length+1:=by
   split
   ·rw[Yai];omega
   omega
  generalize (if decide (a.getD 0 0=45)=true then a.drop 1 else a)=r at*;split at l1
  ·rename_i i hi;rw[hi]at l2;dsimp only at l1 l2;rw[Y0]at l1;rw[Yai]at l2;omega
  dsimp only at l1;omega
 cases h
def znk {k:Int}{a:Str}(h:zam k a=true):a.length≤802:=by unfold zam zgJ at h;simp only[Yj,Yn]at h;obtain⟨⟨⟨⟨_,h1⟩,h2⟩,h3⟩,_⟩:=h;rw[Ye (by rintro(h|h);exact h2 h;exact h3 h),Yj]at h1;exact ratP_802 h1.1
def sigA_ge(n:Int)(a:Arc):n≤sigA n a∧a.i≤sigA n a∧a.o≤sigA n a:=by unfold sigA maxI;refine⟨?_,?_,?_⟩<;>(repeat' split)<;>omega
def zug:∀(l:List Arc)(n:Int),n≤l.foldl sigA n∧∀a∈l,a.i≤l.foldl sigA n∧a.o≤l.foldl sigA n
 |[],n=>⟨Ych _,fun a h=>by cases h⟩
 |b::l,n=>by
  obtain⟨h1,h2⟩:=zug l (sigA n b);obtain⟨g1,g2,g3⟩:=sigA_ge n b;refine⟨Int.le_trans g1 h1,fun a h=>?_⟩;rcases Yy.1 h with rfl|h
  ·exact⟨Int.le_trans g2 h1,Int.le_trans g3 h1⟩
  exact h2 a h
def zuf:∀(q:List Sta)(n:Int),n≤q.foldl sigS n∧∀s∈q,∀a∈s.a,a.i≤q.foldl sigS n∧a.o≤q.foldl sigS n
 |[],n=>⟨Ych _,fun s h=>by cases h⟩
 |b::l,n=>by
  obtain⟨h1,h2⟩:=zuf l (sigS n b);obtain⟨g1,g2⟩:=zug b.a n;refine⟨Int.le_trans g1 h1,fun s h a ha=>?_⟩;rcases Yy.1 h with rfl|h
  ·exact⟨Int.le_trans (g2 a ha).1 h1,Int.le_trans (g2 a ha).2 h1⟩
  exact h2 s h a ha
def zqB:∀(q:List Sta)(n:Nat),n≤q.foldl (fun n s=>max n s.a.length) n∧∀s∈q,s.a.length≤q.foldl (fun n s=>max n s.a.length) n
 |[],n=>⟨Yc _,fun s h=>by cases h⟩
 |b::l,n=>by
  obtain⟨h1,h2⟩:=zqB l (max n b.a.length);refine⟨Yw (Nat.le_max_left _ _) h1,fun s h=>?_⟩;rcases Yy.1 h with rfl|h
  ·exact Yw (Nat.le_max_right _ _) h1
  exact h2 s h
def arcX_ge {q:List Sta}{s:Sta}(h:s∈q):s.a.length≤arcX q:=(zqB q 0).2 s h
def totQ_up(x:Lay)(q:List Sta)(k:Nat):totQ x q k≤totQ x q q.length:=by
 unfold totQ;rw[Ym];have h:(q.map (zb8 x)).sum=((q.take k).map (zb8 x)).sum+((q.drop k).map (zb8 x)).sum:=by rw[←List.sum_append,←Yax,Yaf]
 omega
def zlc(x:Lay)(e:Ens):∀q:List Sta,zbp (q.flatMap (staP x e))=(q.map (zb8 x)).sum
 |[]=>rfl
 |s::q=>by rw[List.flatMap_cons,zbY,zt2,zlc x e q];rfl
theorem varL_7(a0 a1 a2 a3 a4 a5 a6:Nat):varL [a0,a1,a2,a3,a4,a5,a6] 7=varF 5 a0++(varF 5 a1++(varF 5 a2++(varF 5 a3++(varF 5 a4++(varF 5 a5++(varF 5 a6++[])))))):=rfl
def mach_w {m:Mach}(h:zcy m=true):zam m.k m.l=true∧∀s∈m.q,(s.f=[]∨zam m.k s.f=true)∧∀a∈s.a,zam m.k a.w=true∧a.t<m.q.length:=by unfold zcy at h;simp only[Yj,Yn]at h;obtain⟨⟨⟨⟨⟨⟨⟨_,_⟩,_⟩,_⟩,_⟩,h6⟩,h7⟩,_⟩:=h;refine⟨h6,fun s hs=>?_⟩;have h8:=Yl.1 h7 s hs;unfold staB at h8;rw[Yj,Yaj,Yn]at h8;refine⟨h8.1,fun a ha=>?_⟩;have h9:=Yl.1 h8.2 a ha;unfold arcB at h9;simp only[Yj,Yn]at h9;exact⟨h9.2,h9.1.2⟩
def wts_802 {m:Mach}(h:zcy m=true):∀w∈wts m,w.length≤802:=fun w hw=>by
 obtain⟨h1,h2⟩:=mach_w h;have hw:=(zfj m w).1 hw;unfold wtsM at hw;rcases Yy.1 hw with rfl|hw
 ·exact znk h1
 obtain⟨s,hs1,hw⟩:=Yay.1 hw;obtain⟨h3,h4⟩:=h2 s hs1;unfold wtsS at hw;rcases Yam.1 hw with hw|hw
 ·split at hw
  ·cases hw
  rename_i hf;rw[YB.1 hw];exact znk (h3.resolve_left hf)
 obtain⟨a,ha1,rfl⟩:=YZ.1 hw;exact znk (h4 a ha1).1
def wts_in {m:Mach}:m.l∈wts m∧∀s∈m.q,(s.f≠[]→s.f∈wts m)∧∀a∈s.a,a.w∈wts m:=by
 refine⟨(zfj m _).2 (YK ..),fun s hs=>⟨fun hf=>(zfj m _).2 (Yaa _ (Yay.2 ⟨s,hs,?_⟩)),fun a ha=>(zfj m _).2 (Yaa _ (Yay.2 ⟨s,hs,?_⟩))⟩⟩
 ·unfold wtsS;rw[Ye hf];exact YC _ (YB.2 rfl)
 unfold wtsS;exact YJ _ (YZ.2 ⟨a,ha,rfl⟩)
def zgR {m:Mach}{t:List Str}{B:ZL}(hp:zeS m t=(B,0)):9≤B.length∧B.length≤1048576∧B.take 4=[65,66,71,49]∧sumB (B.take (B.length-4))=B.drop (B.length-4)∧PCall Tryz.prog 46 [.fs (((B.take (B.length-4)).drop 4).map zq) (B.length-8)] (.ret (.tup [zad m,.fs (strs t) t.length,.bool true])):=by
 unfold zeS at hp;split at hp;rotate_left
 ·cases hp
 rename_i hc;split at hp
 ·cases hp
 rename_i hlen;obtain rfl:zdu m t=B:=by cases hp;rfl
 clear hp;rw[Yj,Yj,Yn]at hc;obtain⟨⟨hm,ht⟩,hs⟩:=hc;obtain⟨k1,k2,q1,q2,s1,s2,hA,hArc⟩:=ziC hm;obtain⟨t1,t2⟩:=zk5 ht;obtain⟨w0,w1⟩:=mach_w hm;obtain⟨i0,i1⟩:=@wts_in m;have hwl:=Yw (ztA m) (zo2 m);have hW:=wts_802 hm;have hinc:=wts_inc m;have hval:=fun a ha=>wnum_mem (wts m) hinc a ha;have hidx:=fun a (ha:a∈wts m)=>List.idxOf_lt_length_iff.2 ha;unfold sigM at hs;rw[Yi hm]at hs;have hsig:=(zuf m.q 0).2;have hax:arcX m.q≤arcN m.q:=by have:=zkH m.q m.q.length (Yc _);rwa [Ym]at this
 have hb4:∀l:ZL,(sumB l).length=4:=fun l=>rfl;have hbody:=body_law m t;have hoff:offP (layM m t) m.q m.q.length=((List.range m.q.length).map (totQ (layM m t) m.q)).map fun n=>(n,widI (totQ (layM m t) m.q m.q.length)):=by unfold offP;rw[List.map_map];rfl
 have hsta:zeO (layM m t) (wnum (wts m) (wts m).length) m.q m.q.length=m.q.flatMap (staP (layM m t) (wnum (wts m) (wts m).length)):=by unfold zeO;rw[Ym]
 rw[hsta]at hbody;have htot:=zlc (layM m t) (wnum (wts m) (wts m).length) m.q;have htot':totQ (layM m t) m.q m.q.length=(m.q.map (zb8 (layM m t))).sum:=by unfold totQ;rw[Ym]
 rw[←htot']at htot;have hbl:=zbY (offP (layM m t) m.q m.q.length) (m.q.flatMap (staP (layM m t) (wnum (wts m) (wts m).length)));have hmono:=fun k=>totQ_up (layM m t) m.q k;rw[←zfd,za9]at hbody;rw[←zfd,za9]at hbl;have hbt:∀b∈zb6 (offP (layM m t) m.q m.q.length)++zb6 (m.q.flatMap (staP (layM m t) (wnum (wts m) (wts m).length))),b.toNat<2:=fun b hb=>by
  rcases Yam.1 hb with hb|hb
  ·exact zqr _ b hb
  exact zqr _ b hb
 have hR:=RdAt.start hbt;obtain⟨bits,hbits⟩:∃x,zdQ (zb6 (offP (layM m t) m.q m.q.length)++zb6 (m.q.flatMap (staP (layM m t) (wnum (wts m) (wts m).length)))) (((zb6 (offP (layM m t) m.q m.q.length)++zb6 (m.q.flatMap (staP (layM m t) (wnum (wts m) (wts m).length)))).length+7)/8)=x:=⟨_,rfl⟩;have hbitl:bits.length=((zb6 (offP (layM m t) m.q m.q.length)++zb6 (m.q.flatMap (staP (layM m t) (wnum (wts m) (wts m).length)))).length+7)/8:=by rw[←hbits,zmC]
 rw[hbits]at hbody hR;have hxn:(layM m t).nm=t.length:=rfl;have hxw:(layM m t).wt=(wts m).length:=rfl;have hxs:(layM m t).st=m.q.length:=rfl;have hxa:(layM m t).ar=arcX m.q:=rfl;have hld:=hval m.l i0;have hlx:=hidx m.l i0;have htq:=zfn (layM m t) m.q m.q.length (Yc _);rw[zbP]at htq;generalize hT:totQ (layM m t) m.q m.q.length=tot at*;obtain⟨l10,p10,v10,hR⟩:=zpA (widI tot) _ (fun n hn=>by obtain⟨k,_,rfl⟩:=YZ.1 hn;exact ziD Zo (hmono k)) (by rw[←hoff];exact hR);rw[Yan,List.length_range]at v10;obtain⟨l11,p11,v11,_⟩:=zpk (x:=layM m t) (e:=wnum (wts m) (wts m).length) (L:=wts m) ⟨by rw[hxn];omega,by rw[hxs];omega⟩ (by rw[hxa];omega) hxw Zo m.q (R:=[]) (fun s hs'=>⟨by rw[hxa];exact arcX_ge hs',fun hf=>⟨(i1 s hs').1 hf,hval _ ((i1 s hs').1 hf)⟩,fun a ha=>by
  have hg:=hsig s hs' a ha;have hg2:=hArc s hs' a ha;have hg3:=(w1 s hs').2 a ha;refine⟨hg2.1,?_,hg2.2.2.1,?_,hg2.2.2.2.2.1,?_,(i1 s hs').2 a ha,hval _ ((i1 s hs').2 a ha)⟩
  ·rw[hxn];unfold sigQ at hs;omega
  ·rw[hxn];unfold sigQ at hs;omega
  rw[hxs];exact hg3.2⟩) (by rw[Yab];exact hR)
 rw[hxn,hxs,hxa]at v11;have hhead:(zfa m t).1=[65,66,71,49]++(UInt8.ofNat m.k.toNat::(varF 5 t.length++(varF 5 (wts m).length++(varF 5 m.q.length++(varF 5 m.s.toNat++(varF 5 ((wts m).idxOf m.l)++(varF 5 (arcX m.q)++(varF 5 tot++(zbc [] t++(zbc [] (wts m)++bits)))))))))):=by rw[hbody];unfold headB;rw[hT,hld,Yq,varL_7];simp
 have hBl:(zdu m t).length=(zfa m t).1.length+4:=by unfold zdu;rw[Yg,hb4]
 have hB4:(zdu m t).take ((zdu m t).length-4)=(zfa m t).1:=by rw[hBl,Ya9];unfold zdu;exact List.take_left
 have hB5:(zdu m t).drop ((zdu m t).length-4)=sumB (zfa m t).1:=by rw[hBl,Ya9];unfold zdu;exact List.drop_left
 have hlen2:(zfa m t).1.length≤1048572:=Zo;obtain⟨r7,h7⟩:∃x,zbc [] t++(zbc [] (wts m)++bits)=x:=⟨_,rfl⟩;have hr7:bits.length≤r7.length:=by rw[←h7];simp only[Yg];omega
 rw[h7]at hhead;obtain⟨l0,hl0⟩:∃x,varF 5 t.length++(varF 5 (wts m).length++(varF 5 m.q.length++(varF 5 m.s.toNat++(varF 5 ((wts m).idxOf m.l)++(varF 5 (arcX m.q)++(varF 5 tot++r7))))))=x:=⟨_,rfl⟩;have hl7:r7.length≤l0.length:=by rw[←hl0];simp only[Yg];omega
 rw[hl0]at hhead;have hbl5:(zfa m t).1.length=l0.length+5:=by rw[hhead];rfl
 have htb:tot≤8388608:=Zo;have e1:(((UInt8.ofNat m.k.toNat).toNat:Nat):Int)=m.k:=by rw[UInt8.toNat_ofNat'];omega
 have e2:((m.s.toNat:Nat):Int)=m.s:=Zo;have e3:(wts m).getD ((wts m).idxOf m.l) []=m.l:=by rw[Ya,Yb hlx];exact List.getElem_idxOf hlx
 have u1:=zeH t.length (varF 5 (wts m).length++(varF 5 m.q.length++(varF 5 m.s.toNat++(varF 5 ((wts m).idxOf m.l)++(varF 5 (arcX m.q)++(varF 5 tot++r7)))))) Zo;rw[hl0]at u1;have u8:=zkk 40 t [] (zbc [] (wts m)++bits) t2 Zd (Yk _);rw[h7]at u8;have key:=read_W (UInt8.ofNat m.k.toNat) l0 _ _ _ _ _ _ r7 (zbc [] (wts m)++bits) bits l10 l11 t.length (wts m).length m.q.length m.s.toNat ((wts m).idxOf m.l) (arcX m.q) tot t (wts m) m.q p10 p11 u1 t1 (zeH _ _ Zo) Zo (zeH _ _ Zo) q2 (zeH _ _ Zo) Zo (zeH _ _ Zo) Zo (zeH _ _ Zo) Zo (zeH _ _ Zo) htb u8 (zkk 802 (wts m) [] bits hW Zd (Yk _)) hlx v10 v11 hA Zo;rw[e1,e2,e3]at key;refine⟨Zo,Zo,?_,by rw[hB4,hB5],?_⟩
 ·unfold zdu;rw[hhead];rfl
 rw[hB4,hhead,hBl,hbl5,show l0.length+5+4-8=l0.length+1 by omega];exact key
end Go.Proofs

namespace Go.Proofs
open Tryz Go.Ab Go.Pl Go.Cnt
attribute [local go_sem] zbE zas zcv zW
def arc_neq(i o t:Int)(w:Str)(H:Hp):aBin prog .neq 46 (.agg [.int .i64 i,.int .i64 o,.str w,.int .i64 t]) (.agg [.int .i64 i,.int .i64 o,.str w,.int .i64 t]) H=⟨True,.bool false,H,[],[]⟩:=by
 have h1:keyT prog 46 (.agg [.int .i64 i,.int .i64 o,.str w,.int .i64 t])=true:=Zk;have h3:zfM [.int .i64 i,.int .i64 o,.str w,.int .i64 t] [.int .i64 i,.int .i64 o,.str w,.int .i64 t]=some true:=by simp[zfM,zcM]
 have h4:eqV prog 46 (.agg [.int .i64 i,.int .i64 o,.str w,.int .i64 t]) (.agg [.int .i64 i,.int .i64 o,.str w,.int .i64 t])=some true:=by unfold eqV;rw[Tryz.underlying46];dsimp only;rw[h1];exact h3
 show XR.ar H (xEq prog .neq 46 _ _ H)=_;unfold xEq;rw[h4];rfl
def zll(m:Mach)(h1:m.q.length≤1000000000000000)(h2:∀s∈m.q,s.a.length≤1000000000000000):PCall prog 14 [zad m,zad m] (.ret (.bool true)):=by
 obtain⟨k,s,l,q⟩:=m;dsimp only at h1 h2;unfold zad;dsimp only;refine PCall.walk (rs:=[.tmp 4]) [0,1,2,3,4,5,6,7,8,36,41,67,72,85] [24] mixed (zh) (zg) call14 func14 rfl ntmps14 rfl Zk Zs (by simp[push_cast,zW]) ?_;simp(disch:=try exact Zq)only[go_sem];refine AXs.loop mixed (zh) (zg) (ι:=Nat) (fun i=>[(5,.int .i64 i),(3,.fp [.int .i64 k,.int .i64 s,.str l,.fs (stas q) q.length]),(2,.fp [.int .i64 k,.int .i64 s,.str l,.fs (stas q) q.length])]) (fun _=>⟨[],0⟩) (fun i=>i≤q.length) (fun i=>q.length-i) 0 Zk (Yk _) (Xb [] rfl rfl ?_ ?_) ?_
 ·simp only[go_sem]
 ·simp only[go_sem]
 intro i h3;by_cases hi:i<q.length
 ·have d0:decide ((i:Int)<q.length)=true:=Yf Zo;have at1:=zcw q i hi;have hl:(nthQ q i).a.length≤1000000000000000:=h2 _ (staR.nth_mem hi);have ei:(i:Int)+1=((i+1:Nat):Int):=Zo;generalize nthQ q i=S at*;obtain⟨F,A⟩:=S;dsimp only at at1 hl;simp(disch:=try exact Zq)only[go_sem,d0,at1];refine⟨⟨Zo,Zo⟩,⟨Zo,Zo⟩,AXk.intro Zk ?_⟩;simp(disch:=try exact Zq)only[go_sem];refine AXs.loop mixed (zh) (zg) (ι:=Nat) (fun j=>[(8,.int .i64 j),(7,.ptr 1 0),(6,.ptr 0 0),(5,.int .i64 i),(3,.fp [.int .i64 k,.int .i64 s,.str l,.fs (stas q) q.length]),(2,.fp [.int .i64 k,.int .i64 s,.str l,.fs (stas q) q.length])]) (fun _=>⟨[(1,.cells [.str F,.fs (arcs A) A.length]),(0,.cells [.str F,.fs (arcs A) A.length])],2⟩) (fun j=>j≤A.length) (fun j=>A.length-j) 0 Zk (Yk _) (Xb [] rfl rfl ?_ ?_) ?_
  ·simp only[go_sem]
  ·simp only[go_sem]
  intro j p1;by_cases hj:j<A.length
  ·have d2:decide ((j:Int)<A.length)=true:=Yf Zo;have at2:=zcA A j hj;have ej:(j:Int)+1=((j+1:Nat):Int):=Zo;generalize nthA A j=ax at at2;simp(disch:=try exact Zq)only[go_sem,d2,at2,ej,arc_neq];refine⟨⟨Zo,Zo⟩,⟨Zo,Zo⟩,AXk.intro Zk ?_⟩;simp(disch:=try exact Zq)only[go_sem,ej];exact zi (j+1) hj (by show A.length-(j+1)<A.length-j;omega) (Xb [] rfl rfl Zg Zg)
  obtain rfl:j=A.length:=Zo;have d2:decide ((A.length:Int)<A.length)=false:=Yd Zo;simp(disch:=try exact Zq)only[go_sem,d2];refine AXa.go mixed (zh) (zg) Zk ?_;simp(disch:=try exact Zq)only[go_sem,ei];exact zi (i+1) hi (by show q.length-(i+1)<q.length-i;omega) (Xb [] rfl rfl Zg Zg)
 obtain rfl:i=q.length:=Zo;have d0:decide ((q.length:Int)<q.length)=false:=Yd Zo;simp(disch:=try exact Zq)only[go_sem,d0];refine AXa.go mixed (zh) (zg) Zk ?_;simp(disch:=try exact Zq)only[go_sem]
def zpq(t:List Str)(h:t.length≤1000000000000000):PCall prog 15 [.fs (strs t) t.length,.fs (strs t) t.length] (.ret (.bool true)):=by
 refine Xa (rs:=[.tmp 4]) [0,1,4,5,10,14,25] [] mixed (zh) (zg) call15 func15 rfl ntmps15 rfl ?_;simp(disch:=try exact Zq)only[go_sem];refine AXs.loop mixed (zh) (zg) (ι:=Nat) (fun i=>[(5,.int .i64 i),(1,.fs (strs t) t.length),(0,.fs (strs t) t.length)]) (fun _=>⟨[],0⟩) (fun i=>i≤t.length) (fun i=>t.length-i) 0 Zk (Yk _) (Xb [] rfl rfl ?_ ?_) ?_
 ·simp only[go_sem]
 ·simp only[go_sem]
 intro i h3;by_cases hi:i<t.length
 ·have d0:decide ((i:Int)<t.length)=true:=Yf Zo;have ei:(i:Int)+1=((i+1:Nat):Int):=Zo;simp(disch:=try exact Zq)only[go_sem,d0,ei];exact⟨⟨Zo,Zo⟩,Zo,⟨Zo,Zo⟩,Zo,zi (i+1) hi (by show t.length-(i+1)<t.length-i;omega) (Xb [] rfl rfl Zg Zg)⟩
 obtain rfl:i=t.length:=Zo;have d0:decide ((t.length:Int)<t.length)=false:=Yd Zo;simp(disch:=try exact Zq)only[go_sem,d0];refine AXa.go mixed (zh) (zg) Zk ?_;simp(disch:=try exact Zq)only[go_sem]
attribute [local go_sem] zaO znn zbg zfR
def zii:PCall prog 11 [.fs (exB.map zq) exB.length] (.ret (.tup [zad exM,.fs (strs exT) exT.length,.int .i64 0])):=by obtain⟨b9,b1,bm,bs,hrd⟩:=zgR zjN;exact zgu exB exM exT b9 b1 bm bs hrd ok_ex zjN
def zwX:PCall prog 13 [.fs (exB.map zq) exB.length] (.ret (.int .i64 0)):=zkr exB zii
def zyq:PCall prog 7 [] (.ret (.bool true)):=by
 have hΓ:=zf (zdi zsD) (zf ze8 (zf (cTwo_ok zwX check_8) (zf (zdi zii) (zf (zdi (zll exM Zd (fun s hs=>by obtain rfl:=YB.1 hs;decide))) (zf (zdi (zpq exT Zd)) zh)))));have hΔ:zay prog (zaQ 10 (conD SealO) noΔ):=zK (zT sealO_ok) zg;have s0:=zdj [] (.tup [zad exM,.fs (strs exT) 2]);have s1:=zkw exM exT ok_ex;rw[zjN]at s1;unfold byR at s1;dsimp only at s1;have s2:=cTwo_1 [.fs (exB.map zq) exB.length] [.fs ((exB.take 8).map zq) (exB.take 8).length] (.int .i64 0) (.int .i64 10);have s3:=cTwo_2 [.fs (exB.map zq) exB.length] [.fs ((exB.take 8).map zq) (exB.take 8).length] (.int .i64 0) (.int .i64 10) (by intro e;have:=(V.fs.inj (List.cons.inj e).1).2;exact absurd this Zd);have s4:=zdj [.fs (exB.map zq) exB.length] (.tup [zad exM,.fs (strs exT) exT.length,.int .i64 0]);have s5:=zdj [zad exM,zad exM] (.bool true);have s6:=zdj [.fs (strs exT) 2,.fs (strs exT) 2] (.bool true);have hl:exT.length=2:=rfl;have hl8:(exB.take 8).length=8:=rfl;have hlk:known.length=26:=rfl;have c1:=fun H=>zd6 exB exB.length H rfl;have t8:(exB.map zq).take 8=(exB.take 8).map zq:=by rw[List.map_take]
 have hk0:known≠[]:=Zd;have hkn:known++sumB known=exB:=rfl;have hM:zad exM=.agg [.int .i64 1,.int .i64 0,.str [48],.fs (stas exM.q) 1]:=rfl;have hse:=fun(c n:Nat) (bs:ZH) (nx:Nat) hc hn hk=>sealO_eq c n known bs nx hc hn hk0 Zd hk;rw[hM]at s0 s1 s4 s5 hΓ;rw[hl]at s1 s4 hΓ;rw[hl8]at s2 s3 hΓ;rw[zwv]at s1 s2 s3 s4 c1 hΓ;rw[hkn]at hse;refine Xa (rs:=[.tmp 0]) [0,1,2,3,4,5,6,7,39] [] mixed (hΓ) (hΔ) call7 func7 rfl ntmps7 rfl ?_;have hcv:=fun H hb=>conv_ro 1 0 26 1 (some 26) (known.map zq) H hb;have hcs:=fun H hb=>conv_slb exB 2 exB.length H hb rfl;simp(disch:=try exact Zp)only[go_sem,s0,s1,s2,s3,s4,s5,s6,c1,t8,zx6,hcv,hse,hcs];refine⟨rfl,AXk.intro Zk ?_⟩;simp(disch:=try exact Zp)only[go_sem,s0,s1,s2,s3,s4,s5,s6]
attribute [local go_sem] zbE zas zcv zW zaO
def znA(m:Mach)(t:List Str):(zeS m t=([],1)∧(zcy m&&tabB t&&decide (sigM m≤t.length))=false)∨(zeS m t=([],2)∧(zcy m&&tabB t&&decide (sigM m≤t.length))=true)∨∃B,zeS m t=(B,0):=by
 unfold zeS;split
 ·rename_i h;split
  ·exact .inr (.inl ⟨rfl,h⟩)
  exact .inr (.inr ⟨_,rfl⟩)
 rename_i h;exact .inl ⟨rfl,by simpa using h⟩
def back_law(hA:PCall prog 7 [] (.ret (.bool true)))(m:Mach)(t:List Str)(h:InP m t):PCall prog 5 [zad m,.fs (strs t) t.length] (.ret (.bool true)):=by
 have h1:=zxO m t h;have hbp:=zqv h;cases hb:bigB m t with
 |true=>rw[hb]at h1;unfold zad at h1 ⊢;refine PCall.walk (rs:=[.tmp 4]) [0,1,2,4,5,6,7,8,9,10,11,14,23,70] [24] mixed (zf ze9 (zf (zkC hA) zh)) (zg) call5 func5 rfl ntmps5 rfl Zk Zs (by simp[push_cast,zW]) ?_;simp(disch:=try exact Zq)only[go_sem,h1,zfH]
 |false=>
  rw[hb]at h1;have hok:=hbp hb;have h2:=zkw m t hok;rcases znA m t with⟨hp,hc⟩|⟨hp,hc⟩|⟨B,hp⟩
  ·have hΓ:=zf ze9 (zf ze8 (zf zgc (zf zqh (zf zou (zf (zkC hA) zh)))));have h3:=zgd m hok.fit;have h4:=zqi t hok.tl hok.ts;have h5:=zov m hok.fit;rw[hp]at h2;unfold byR at h2;dsimp only[List.map_nil,List.length_nil]at h2;unfold zad at h1 h2 h3 h5 ⊢;refine PCall.walk (rs:=[.tmp 4]) [0,1,2,4,5,6,7,8,9,10,11,14,23,70] [24] mixed (hΓ) (zg) call5 func5 rfl ntmps5 rfl Zk Zs (by simp[push_cast,zW]) ?_;cases e1:zcy m with
   |false=>rw[e1]at h3;simp(disch:=try exact Zq)only[go_sem,h1,h2,h3,h4,h5,zfH]
   |true=>
    rw[e1]at h3 hc;cases e2:tabB t with
    |false=>rw[e2]at h4;simp(disch:=try exact Zq)only[go_sem,h1,h2,h3,h4,h5,zfH]
    |true=>
     rw[e2]at h4 hc;have d5:decide ((t.length:Int)<sigM m)=true:=by simp only[Yau,Yat]at hc;exact Yf Zo
     simp(disch:=try exact Zq)only[go_sem,h1,h2,h3,h4,h5,d5,zfH]
  ·have hΓ:=zf ze9 (zf ze8 (zf zgc (zf zqh (zf zou (zf (zkC hA) zh)))));have h3:=zgd m hok.fit;have h4:=zqi t hok.tl hok.ts;have h5:=zov m hok.fit;rw[hp]at h2;unfold byR at h2;dsimp only[List.map_nil,List.length_nil]at h2;rw[Yj,Yj,Yn]at hc;rw[hc.1.1]at h3;rw[hc.1.2]at h4;have d5:decide ((t.length:Int)<sigM m)=false:=Yd Zo;unfold zad at h1 h2 h3 h5 ⊢;refine PCall.walk (rs:=[.tmp 4]) [0,1,2,4,5,6,7,8,9,10,11,14,23,70] [24] mixed (hΓ) (zg) call5 func5 rfl ntmps5 rfl Zk Zs (by simp[push_cast,zW]) ?_;simp(disch:=try exact Zq)only[go_sem,h1,h2,h3,h4,h5,d5,zfH]
  obtain⟨b9,b1,bm,bs,hrd⟩:=zgR hp;have hU:=zgu B m t b9 b1 bm bs hrd hok hp;have hC:=zkr B hU;have hΓ:=zf ze9 (zf ze8 (zf (zdi hU) (zf (zdi hC) (zf (zdi (zll m h.q h.a)) (zf (zdi (zpq t h.tl)) (zf (zkC hA) zh))))));have s1:=zdj [.fs (B.map zq) B.length] (.tup [zad m,.fs (strs t) t.length,.int .i64 0]);have s2:=zdj [.fs (B.map zq) B.length] (.int .i64 0);have s3:=zdj [zad m,zad m] (.bool true);have s4:=zdj [.fs (strs t) t.length,.fs (strs t) t.length] (.bool true);have hcv:=fun H=>zd6 B B.length H rfl;rw[hp]at h2;unfold byR at h2;dsimp only at h2;unfold zad at h1 h2 s1 s3 hΓ ⊢;refine PCall.walk (rs:=[.tmp 4]) [0,1,2,4,5,6,7,8,9,10,11,14,23,70] [24] mixed (hΓ) (zg) call5 func5 rfl ntmps5 rfl Zk Zs (by simp[push_cast,zW]) ?_;simp(disch:=try exact Zq)only[go_sem,h1,h2,s1,s2,s3,s4,zfH,hcv]
end Go.Proofs

namespace Go.Proofs
open Go.Ab Go.Cnt Go.Pl
def back_in(p:zyP)(t:List Str)(h:zu5 p)(ht:okTab t):PCall Tryz.prog 5 [.agg (machTR.enc p),.fs (strR.cells t) t.length] (.ret (.bool true)):=by rw[mach_enc,zm9];exact back_law zyq _ t (inP_of h ht)
end Go.Proofs

namespace Go.Proofs.YtbdlfegfepggnaaGreatDoor
open Go.ChangeShapes Go.WideShapes Go.ChangeAt Go.WideMaps Go.WideElems Go.RowKit
def ownK:ownKnob Tryz.prog.godebug=none:=Zk
def zpP:laidOutB Tryz.prog=true:=Zk
abbrev zep:List (String×DataW Unit):=[("math/bits.deBruijn32tab",Rows.laid_math_bits_deBruijn32tab),("math/bits.deBruijn64tab",Rows.laid_math_bits_deBruijn64tab),("internal/strconv.uint64pow10",Rows.laid_internal_strconv_uint64pow10),("unicode/utf8.acceptRanges",Rows.laid_unicode_utf8_acceptRanges),("bytes.ErrTooLarge",Rows.laid_bytes_ErrTooLarge),("unicode/utf8.first",Rows.laid_unicode_utf8_first)]
def door_met(os:Os):laidMetH Tryz.prog zep ((World.laidAll Tryz.prog os zep).forCall (fun _ _=>0) ⟨#[],#[.agg #[.int .i64 0,.int .i64 0,.string ⟨#[]⟩,.slice none 0 0],.slice none 0 0],[]⟩).memory:=by rw[MakeChecks.laidMetH_plain _ _ _ Zk];exact laidMet_laidAll _ Zk Zk
def tens:List Int:=(List.range 20).map fun i=>((10^i:Nat):Int)
def firstZ:List Int:=(List.range 256).map fun b=>(Go.Ab.firstN b:Int)
def accZ:List (Int×Int):=[(128,191),(160,191),(128,159),(144,191),(128,143)]++List.replicate 11 (0,0)
def accL:List Int:=[128,191,160,191,128,159,144,191,128,143]++List.replicate 22 0
def zqY:(Rows.laid_internal_strconv_uint64pow10:DataW Unit)=Lib.tabData .u64 tens:=Zk
def zod:(Rows.laid_unicode_utf8_first:DataW Unit)=Lib.tabData .u8 firstZ:=Zk
def zyD:(Rows.laid_unicode_utf8_acceptRanges:DataW Unit)=.agg (accZ.map fun z=>.agg ([z.1,z.2].map fun z=>.lit (.int .u8 z))):=Zk
def zyE:(accZ.flatMap fun z=>[Value.int .u8 z.1,Value.int .u8 z.2])=accL.map fun z=>Value.int .u8 z:=Zk
def zhp {W:World}{name:String}{g:Nat}{cs:Array Value}(hg:Tryz.prog.globalNamed name=some g)(h:W.var? Tryz.prog name=some cs):∃t fr,W.heap[g]? =some (.cells cs t fr):=by
 unfold World.var? at h;rw[hg]at h;simp only[Option.bind_some]at h;cases hb:W.heap[g]? with
 |none=>rw[hb]at h;cases h
 |some o=>
  rw[hb]at h;cases o<;>first|(cases h;exact⟨_,_,rfl⟩)|cases h
def tab_of {W:World}(h:laidMet Tryz.prog zep W){name:String}{g t e n:Nat}{k:IntKind}{zs:List Int}(hm:(name,Lib.tabData k zs)∈zep)(hg:Tryz.prog.globalNamed name=some g)(hty:(Tryz.prog.globals[g]?).map (·.type)=some t) (ht:Tryz.prog.underlying t=some (.array n e)) (he:Tryz.prog.underlying e=some (.int k)) (hce:Tryz.prog.cellsOf e=1) (hct:Tryz.prog.cellsOf t=n):∃t fr,W.heap[g]? =some (.cells (zs.map fun z=>Value.int k z).toArray t fr):=by
 obtain⟨g',t',cs,fuel,p,hg',hty',hvar,hd⟩:=Lib.laidMet.reads h hm;obtain rfl:=Yh (hg.symm.trans hg');obtain rfl:=Yh (hty.symm.trans hty');have hcs:=Lib.cells_of_tab ht he hce hct hd;have:cs=(zs.map fun z=>Value.int k z).toArray:=by rw[←hcs]
 rw[this]at hvar;exact zhp hg hvar
def acc_of {W:World}(h:laidMet Tryz.prog zep W):∃t fr,W.heap[2]? =some (.cells (accL.map fun z=>Value.int .u8 z).toArray t fr):=by
 have hm:("unicode/utf8.acceptRanges",(.agg (accZ.map fun z=>.agg ([z.1,z.2].map fun z=>.lit (.int .u8 z))):DataW Unit))∈zep:=by rw[←zyD];simp[zep]
 obtain⟨g',t',cs,fuel,p,hg',hty',hvar,hd⟩:=Lib.laidMet.reads h hm;have hg:Tryz.prog.globalNamed "unicode/utf8.acceptRanges" =some 2:=Zk;have hty:(Tryz.prog.globals[2]?).map (·.type)=some 186:=Zk;obtain rfl:=Yh (hg.symm.trans hg');obtain rfl:=Yh (hty.symm.trans hty');have hcs:=Go.Proofs.cells_of_pairs (n:=16) Zk Tryz.underlying185 (fun i f hf=>by
  match i,hf with
  |0,hf=>cases hf;exact⟨Zk,rfl,Zk⟩
  |1,hf=>cases hf;exact⟨Zk,rfl,Zk⟩) rfl Zk Zk hd
 rw[zyE]at hcs;have:cs=(accL.map fun z=>Value.int .u8 z).toArray:=by rw[←hcs]
 rw[this]at hvar;exact zhp hg hvar
def ok_of {W:World}{g:Nat}{k:IntKind}{zs:List Int}{cs:List Go.Ab.V}(h:∃t fr,W.heap[g]? =some (.cells (zs.map fun z=>Value.int k z).toArray t fr))(hc:cs=zs.map fun z=>Go.Ab.V.int k z):Go.Ab.VRel ⟨fun _=>none,(Go.Ab.gW W).phi⟩ (.fp cs) (.pointer (some ⟨g,0,none⟩))∧∃arr,(Go.Ab.gW W).phi g=some arr∧arr.size=cs.length:=by subst hc;obtain⟨t,fr,hb⟩:=h;have hphi:=Go.Ab.gW_of hb;refine⟨Go.Ab.VRel.mk_fp hphi ?_,_,hphi,Zs⟩;intro i x hx;rw[YT]at hx;obtain⟨z,hz,rfl⟩:=YN.1 hx;refine⟨.int k z,?_,.int _ _⟩;show (zs.map fun z=>Value.int k z).toArray[0+i]? =_;rw[Yae];simp[hz]
def gok_of {W:World}(h:laidMetH Tryz.prog zep W):Go.Ab.GOK (Go.Ab.gW W):=by
 rw[MakeChecks.laidMetH_plain _ _ _ Zk]at h;have h1:=tab_of (t:=228) (e:=129) (n:=20) h (name:= "internal/strconv.uint64pow10") (g:=4) (k:=.u64) (zs:=tens) (by rw[←zqY];simp[zep]) Zk Zk Zk Zk Zk Zk;have h2:=tab_of (t:=183) (e:=5) (n:=256) h (name:= "unicode/utf8.first") (g:=1) (k:=.u8) (zs:=firstZ) (by rw[←zod];simp[zep]) Zk Zk Zk Zk Zk Zk;have h3:=acc_of h;intro k cs e;unfold Go.Ab.GL at e;split at e
 ·rename_i hk;cases e;subst hk;exact ok_of h1 Zk
 split at e
 ·rename_i hk;cases e;subst hk;exact ok_of h2 Zk
 split at e
 ·rename_i hk;cases e;subst hk;exact ok_of h3 Zk
 cases e
def call_of {W:World}(h:laidMetH Tryz.prog zep W){args:Array Value}{vs:List Go.Ab.V}(hc:Go.Ab.PCall Tryz.prog 5 vs (.ret (.bool true)))(hs:args.size=vs.length)(hp:Go.Ab.PW (Go.Ab.gW W) vs (fun i=>args[i]?)):Calls Tryz.prog 5 args W fun e W'=>e=.returned (.bool true)∧Below W.heap.size W W':=by have hc':=hc (Go.Ab.gW W) W args (gok_of h) Go.Ab.gW_frz hs hp;refine(zmV (Go.Ab.canB_ok Zk) hc').mono fun e W' q=>?_;obtain⟨phi',vc,_,hbel,rfl,hv⟩:=q;rw[hv.inv_bool];exact⟨rfl,hbel.os,hbel.tape.eq,hbel.output,hbel.size,hbel.block⟩
def zu0:Tryz.f5.params.toList=[24,25]:=Zk
def stand24:Tryz.pinned.checked.prog.wantsStandIn (24:Nat)=false:=Zk
def stand25:Tryz.pinned.checked.prog.wantsStandIn (25:Nat)=false:=Zk
def lifted(os:Os)(started:os.Started)(H:Type)(enc:TypeId×Value→H):ReturnsInHanded {} Tryz.checked os 5 .any (fun w args=>(Rows.packBackSpec.pre enc Tryz.prog Tryz.f5 [] false w args∧laidMetH Tryz.prog zep w)∧sizedMet enc Tryz.prog Tryz.f5 (OpenSpec.ofChange Rows.packBackSpec) false w args) (Rows.packBackSpec.post enc Tryz.prog Tryz.f5 false true false false):=by
 refine returnsInHanded_of_change_and (C:=Tryz.checked) (X:=fun w _=>laidMetH Tryz.prog zep w) (fun _ _ _ hh h=>h.of_heap hh) ownK started Zk Tryz.func5
  (ChangeSpec.witness_shaped (enc:=enc) (C:=Tryz.checked) (os:=os) (X:=fun w _=>laidMetH Tryz.prog zep w) false (World.laidAll Tryz.prog os zep) #[.agg #[.int .i64 0,.int .i64 0,.string ⟨#[]⟩,.slice none 0 0],.slice none 0 0] 8 (World.laidAll_os _ _ _) (World.shaped_of_ZipB Zk Zk) Zk Zk Zk (door_met os)) ?_
 intro W base args ds gs before hval0 hW _ hwt hL _;have hW':=hW;obtain⟨p,q,hA0,hV,rfl,hfz,hnd⟩:=hW;have hA:DataW.TrodAll enc Tryz.prog W 0 (fun _=>true) true Tryz.f5.params.toList args.toList ds p:=hA0;rw[zu0]at hA;obtain⟨v0,v1,d0,d1,p0,p1,rfl,rfl,rfl,h0,h1⟩:=trodAll_two hA;obtain⟨rfl,rfl⟩:=trodVars_none hV;have hlt:=DataW.TrodAll.lt hA;have hwt':∀n∈DataW.weightsEach Tryz.prog [24,25] [d0,d1],n≤reachBytes:=fun n hn=>by have:=Yl.1 hwt n (by rw[zu0,show Rows.packBackSpec.plain.varTypes Tryz.checked.prog=[]from rfl,Yab,Yab];exact hn);simpa using this
 simp only[Go.Ab.weightsEach_cons]at hwt';have w0:∀n∈d0.weights Tryz.prog 24,n≤reachBytes:=fun n hn=>hwt' n (YC _ hn);have w1:∀n∈d1.weights Tryz.prog 25,n≤reachBytes:=fun n hn=>hwt' n (YJ _ (YC _ hn));have hv0:Value.okWide Tryz.prog W .any base 24 v0:=hval0 0 24 v0 rfl rfl;have c0:∃cs,v0=.agg cs:=by obtain⟨cs,e,_⟩:=okWide_struct Tryz.underlying24 hv0;exact⟨cs,e⟩
 obtain⟨a0,o0,r0⟩:=Go.Proofs.dMach.argS h0 c0 w0;have hv1:Value.okWide Tryz.prog W .any base 25 v1:=hval0 1 25 v1 rfl rfl;have c1:v1.cells=#[v1]:=by obtain⟨_,_,_,e⟩:=okWide_slice Tryz.underlying25 hv1;rw[e];rfl
 obtain⟨a1,o1,r1⟩:=Go.Proofs.dTab.arg1 h1 c1 w1;replace r1:=r1 _ rfl;refine(call_of hL (Go.Proofs.back_in a0 a1 o0 o1) rfl (fun i x hx=>by
  match i with
  |0=>cases hx;exact⟨v0,rfl,r0⟩
  |1=>cases hx;exact⟨v1,rfl,r1⟩
  |i+2=>simp at hx)).mono fun e W' ⟨he,bel⟩=>?_
 subst he;have k0:=Below.trod zpP Zk (Yah Zk) h0 bel (fun x hx=>hlt x (YC _ hx));have k1:=Below.trod zpP Zk (Yah Zk) h1 bel (fun x hx=>hlt x (YJ _ hx));exact⟨_,rfl,_,_,_,[],_,[],hW',trodAll_mk1 (shut_bool Tryz.underlying4 _),trodAll_mk2 k0 k1,rfl,bel.frame _,fun h=>by cases h⟩
def said:Rows.PackBackSaid:=
 OpenClaim.holds_of_wide 5 Tryz.f5 rfl rfl rfl rfl rfl rfl rfl ⟨rfl,rfl,rfl,rfl,rfl⟩ rfl rfl rfl rfl rfl Zk Tryz.func5 Zk
  (Yah Zk) (by unfold Func.isWrapper;first|(rw[Yi (by decide+kernel)];kernel_rfl)|(rw[Ye (by decide+kernel)];exact⟨rfl,rfl⟩))
  (fun os started H enc _=>lifted os started H enc)
def back_holds:Rows.PackBackCardSaid:=
 Claim7.holds_tied_plain_at .later [] [.data,.data,.data,.data,.sentinel,.pinned] true (true, "2c9e860415fe8e086765a9185655ada8af5d692075c6c7676e3ac85e5d43f81f") true
  said (fun _ h=>by cases h) Zk (fun _ h=>by cases h) packBack_row_tie rfl ⟨rfl,rfl⟩ Zk rfl
  (fun f fn hf hfn=>by
   obtain rfl:f=5:=Yh ((show Tryz.prog.funcNamed "abugida/abugidalaw41.PackBack" =some 5 by kernel_rfl).symm.trans hf) |>.symm
   obtain rfl:fn=Tryz.f5:=(Yh (Tryz.func5.symm.trans hfn)).symm;exact⟨Zk,fun j t ht=>by
    rw[Tryz.params5]at ht;match j with
    |0=>exact(Yh ht:(24:Nat)=t)▸stand24
    |1=>exact(Yh ht:(25:Nat)=t)▸stand25
    |j+2=>simp at ht⟩)
  Zk
#print axioms back_holds
end Go.Proofs.YtbdlfegfepggnaaGreatDoor
