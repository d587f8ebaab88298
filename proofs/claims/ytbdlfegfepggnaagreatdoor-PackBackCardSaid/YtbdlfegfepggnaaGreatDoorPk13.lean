/- Pack: the whole. -/
import Derived.Test.YtbdlfegfepggnaaGreatDoorPk10
set_option linter.all false
set_option maxHeartbeats 16000000
set_option maxRecDepth 100000
noncomputable section
namespace Go.Proofs
open Tryz Go.Ab Go.Pl Go.Cnt
attribute [local go_sem] zbg zjA zbE zas zcv zW zvt zvu
def wnum(l:List Str)(i:Nat):Ens:=((l.take i).zipIdx).foldl (fun m p=>stoS m p.1 (p.2:Nat)) []
def zgq(l:List Str)(i:Nat)(h:i<l.length):wnum l (i+1)=stoS (wnum l i) (l.getD i []) ((i:Nat):Int):=by
 unfold wnum;rw[YaW,Yb h,List.zipIdx_append,List.foldl_append];have:(l.take i).length=i:=by simp;omega
 rw[this];simp[h]
def zf3(l:List Str)(a:Str):∀i,i≤l.length→0≤valS (wnum l i) a∧(valS (wnum l i) a=0∨valS (wnum l i) a<i)
 |0,_=>⟨Ych _,.inl rfl⟩
 |i+1,h=>by
  obtain⟨h1,h2⟩:=zf3 l a i Zo;rw[zgq l i Zo,zjc];split
  ·exact⟨Zo,.inr Zo⟩
  exact⟨h1,h2.imp id Zo⟩
def arcX(q:List Sta):Nat:=q.foldl (fun n s=>max n s.a.length) 0
def zmS(q:List Sta)(i:Nat)(h:i<q.length):arcX (q.take (i+1))=max (arcX (q.take i)) (nthQ q i).a.length:=by unfold arcX;rw[show q.take (i+1)=q.take i++[nthQ q i]from staR.take_nth q i h,List.foldl_append];rfl
def layM(m:Mach)(t:List Str):Lay:=⟨t.length,(wts m).length,m.q.length,arcX m.q⟩
def totQ(x:Lay)(q:List Sta)(i:Nat):Nat:=((q.take i).map (zb8 x)).sum
def zgw(x:Lay)(q:List Sta)(i:Nat)(h:i<q.length):totQ x q (i+1)=totQ x q i+zb8 x (nthQ q i):=by unfold totQ;rw[show q.take (i+1)=q.take i++[nthQ q i]from staR.take_nth q i h,Yax,List.sum_append];simp
def idx_7(a0 a1 a2 a3 a4 a5 a6 j:Nat)(H:Hp)(hj:j<7):zb0 prog 66 (.agg [.int .i64 a0,.int .i64 a1,.int .i64 a2,.int .i64 a3,.int .i64 a4,.int .i64 a5,.int .i64 a6]) (.int .i64 j) H=⟨True,.int .i64 (([a0,a1,a2,a3,a4,a5,a6].getD j 0:Nat):Int),H,[],[]⟩:=by
 rcases(show j=0∨j=1∨j=2∨j=3∨j=4∨j=5∨j=6 by omega)with rfl|rfl|rfl|rfl|rfl|rfl|rfl
 ·kernel_rfl
 ·kernel_rfl
 ·kernel_rfl
 ·kernel_rfl
 ·kernel_rfl
 ·kernel_rfl
 kernel_rfl
def varL(L:ZN)(j:Nat):ZL:=(L.take j).flatMap (varF 5)
def zkZ(L:ZN)(j:Nat)(h:j<L.length):varL L (j+1)=varL L j++varF 5 (L.getD j 0):=by unfold varL;rw[YaW,Yb h,List.flatMap_append];simp[h]
def zo7(L:ZN):∀j,j≤L.length→(varL L j).length≤6*j
 |0,_=>by simp[varL]
 |j+1,h=>by have:=zo7 L j Zo;have h1:=zdX 5 (L.getD j 0);rw[zkZ L j Zo,Yg];omega
def headB(m:Mach)(t:List Str):ZL:=
 [65,66,71,49]++[UInt8.ofNat m.k.toNat]++varL [t.length,(wts m).length,m.q.length,m.s.toNat,(valS (wnum (wts m) (wts m).length) m.l).toNat,arcX m.q,totQ (layM m t) m.q m.q.length] 7++zbc [] t++zbc [] (wts m)
def offP(x:Lay)(q:List Sta)(i:Nat):List (Nat×Nat):=(List.range i).map fun k=>(totQ x q k,widI (totQ x q q.length))
def zeO(x:Lay)(e:Ens)(q:List Sta)(i:Nat):List (Nat×Nat):=(q.take i).flatMap (staP x e)
def zfa(m:Mach)(t:List Str):WS:=
 zca (numL (zeO (layM m t) (wnum (wts m) (wts m).length) m.q m.q.length) (numL (offP (layM m t) m.q m.q.length) (headB m t,0,0)))
def zdu(m:Mach)(t:List Str):ZL:=(zfa m t).1++sumB (zfa m t).1
def zeS(m:Mach)(t:List Str):ZL×Int:=
 if (zcy m&&tabB t&&decide (sigM m≤t.length))=true then(if 1048576<(zdu m t).length then([],2)else(zdu m t,0))else([],1)
def byR(p:ZL×Int):V:=.tup [.fs (p.1.map zq) p.1.length,.int .i64 p.2]
structure PackOK(m:Mach)(t:List Str):Prop where
 fit:FitM m
 tl:t.length≤1000000000
 ts:∀j,(t.getD j []).length≤1000000000
 ws:∀w∈wtsM m,w.length≤1000
def pl_7:zbx prog 66=none:=Zk
theorem buK_7(z:Value)(parts:List (Nat×V))(H:Hp)(orig:AR):buK (some z) none parts H orig=orig:=rfl
def bld_7(a0 a1 a2 a3 a4 a5 a6:Int)(H:Hp):zoS prog 66 [(0,.int .i64 a0),(1,.int .i64 a1),(2,.int .i64 a2),(3,.int .i64 a3),(4,.int .i64 a4),(5,.int .i64 a5),(6,.int .i64 a6)] H=⟨True,.agg [.int .i64 a0,.int .i64 a1,.int .i64 a2,.int .i64 a3,.int .i64 a4,.int .i64 a5,.int .i64 a6],H,[],[]⟩:=Zk
def zhu:∀(l:List Str)(p:Str),(zbc p l).length≤12*l.length+sumL l
 |[],_=>by simp[zbc]
 |s::l,p=>by have ih:=zhu l s;have h1:=zdX 5 (cpl p s);have h2:=zdX 5 (s.length-cpl p s);show (varF 5 (cpl p s)++(varF 5 (s.length-cpl p s)++(s.drop (cpl p s)++zbc s l))).length≤_;unfold sumL at*;simp only[Yg,Yai,Yv,Y7,List.sum_cons];omega
def zlB(x:Lay)(q:List Sta)(i:Nat):offP x q (i+1)=offP x q i++[(totQ x q i,widI (totQ x q q.length))]:=by unfold offP;rw[List.range_succ,Yax];rfl
def zim(x:Lay)(e:Ens)(q:List Sta)(i:Nat)(h:i<q.length):zeO x e q (i+1)=zeO x e q i++staP x e (nthQ q i):=by unfold zeO;rw[show q.take (i+1)=q.take i++[nthQ q i]from staR.take_nth q i h,List.flatMap_append];simp
def zlC(x:Lay)(q:List Sta):∀i,zbp (offP x q i)≤64*i
 |0=>by simp[offP,zbp]
 |i+1=>by have ih:=zlC x q i;have:=zct (totQ x q q.length);rw[zlB];unfold zbp at*;rw[Yax,List.sum_append];simp;omega
def zin {x:Lay}{e:Ens}(h:LayOK x e)(q:List Sta):∀i,i≤q.length→zbp (zeO x e q i)≤100*i+100*sumA q i
 |0,_=>by simp[zeO,zbp]
 |i+1,hi=>by have ih:=zin h q i Zo;have h1:=zeN h (nthQ q i) (nthQ q i).a.length (Yc _);rw[zjq]at h1;rw[zim x e q i Zo,zdx q i Zo];unfold zbp at*;rw[Yax,List.sum_append];omega
theorem zuB(b:Nat):zcI (.map b)=[]:=rfl
attribute [local go_sem] zuB
def ziC {m:Mach}(h:zcy m=true):1≤m.k∧m.k≤3∧1≤m.q.length∧m.q.length≤3000∧0≤m.s∧m.s<m.q.length∧arcN m.q≤30000∧∀s∈m.q,∀a∈s.a,zkI a:=by unfold zcy zcz at h;simp only[Yj,Yn]at h;obtain⟨⟨⟨⟨⟨⟨⟨⟨h1,h2⟩,h3⟩,h4⟩,h5⟩,h6⟩,h7⟩,h8⟩,h9⟩:=h;refine⟨h1,h2,h3,h4,h5,h6,h9,fun s hs a ha=>?_⟩;have:=Yl.1 h8 s hs;unfold staB at this;rw[Yj]at this;have:=Yl.1 this.2 a ha;unfold arcB at this;simp only[Yj,Yn]at this;obtain⟨⟨⟨⟨⟨⟨a1,a2⟩,a3⟩,a4⟩,a5⟩,a6⟩,_⟩:=this;exact⟨a1,Zo,a3,Zo,a5,Zo⟩
def zo2(m:Mach):(wtsM m).length≤1+m.q.length+arcN m.q:=by
 unfold wtsM arcN;rw[Yv];have:∀q:List Sta,(q.flatMap wtsS).length≤q.length+(q.map fun s=>s.a.length).sum:=by
  intro q;induction q with
  |nil=>simp
  |cons s q ih=>
   rw[List.flatMap_cons,Yg,Y7,List.sum_cons,Yv];have:(wtsS s).length≤1+s.a.length:=by unfold wtsS wtsA;split<;>simp<;>omega
   omega
 have:=this m.q;omega
def ztA(m:Mach):(wts m).length≤(wtsM m).length:=by have h1:=zet (srtS (wtsM m));rw[zjs]at h1;exact h1
def zfj(m:Mach)(w:Str):w∈wts m↔w∈wtsM m:=by unfold wts;rw[(zeu (zei (wtsM m))).2];unfold srtS;exact List.mem_mergeSort
def ztM {l:List Str}{k:Nat}(h:∀s∈l,s.length≤k):sumL l≤l.length*k:=by
 induction l with
 |nil=>simp[sumL]
 |cons x l ih=>have h1:=h x Zs;have h2:=ih fun s hs=>h s (by simp[hs]);unfold sumL at*;rw[Y7,List.sum_cons,Yv,Y5];omega
def zff {q:List Sta}{s:Sta}(h:s∈q):s.a.length≤arcN q:=by
 unfold arcN;induction q with
 |nil=>simp at h
 |cons x q ih=>
  rw[Y7,List.sum_cons];rcases Yy.1 h with rfl|h
  ·omega
  have:=ih h;omega
def zfn(x:Lay)(q:List Sta):∀i,i≤q.length→totQ x q i≤200*i+300*sumA q i
 |0,_=>by simp[totQ]
 |i+1,h=>by
  have ih:=zfn x q i Zo;have h1:=zdZ x (nthQ q i) (nthQ q i).a.length (Yc _);have e9:zF x (nthQ q i) (nthQ q i).a.length=zb8 x (nthQ q i):=by unfold zF zb8;rw[Ym]
  rw[zgw x q i Zo,zdx q i Zo];omega
def zkH(q:List Sta):∀i,i≤q.length→arcX (q.take i)≤arcN q
 |0,_=>by simp[arcX]
 |i+1,h=>by have ih:=zkH q i Zo;have h1:(nthQ q i).a.length≤arcN q:=zff (staR.nth_mem (show i<q.length by omega));rw[zmS q i Zo];omega
def zk5 {t:List Str}(h:tabB t=true):t.length≤500∧∀s∈t,s.length≤40:=by unfold tabB at h;simp only[Yj,Yn]at h;refine⟨h.1.1,fun s hs=>?_⟩;have:=Yl.1 h.1.2 s hs;unfold symN at this;simp only[Yj,Yn]at this;exact this.1.2
def max_cast(a b:Nat):maxI (a:Int) (b:Int)=((max a b:Nat):Int):=by unfold maxI;split<;>omega
def pack_ok(m:Mach)(t:List Str)(h:PackOK m t):PCall prog 8 [zad m,.fs (strs t) t.length] (.ret (byR (zeS m t))):=by
 have hΓ:=zf zgc (zf cSymV_ok (zf zou (zf cWts_ok (zf zb5 zh))));have hΔ:=Δp_ok;have hv1:=zgd m h.fit;have hv2:=cSymV_eq t h.tl h.ts;have hv3:=zov m h.fit;have hR:zeS m t=if (zcy m&&tabB t&&decide (sigM m≤t.length))=true then(if 1048576<(zdu m t).length then([],2)else(zdu m t,0))else([],1):=rfl
 obtain⟨R,hRe⟩:∃R,R=zeS m t:=⟨_,rfl⟩;rw[←hRe]at hR ⊢;clear hRe;cases hc:(zcy m&&tabB t&&decide (sigM m≤t.length))with
 |false=>
  rw[hc,Ye Zd]at hR;subst hR;unfold zad at hv1 hv3 ⊢;refine PCall.walk (rs:=[.tmp 4,.tmp 5]) [0,1,2,4,5,6,7,8,9,11,12,14,15,17,18,20,22,37,49,50,51,52,62,63,64,65,77,78,79,80,118,119,120,133,134,135,136,151,152,153,154,179] [24] mixed (hΓ) (hΔ) call8 func8 rfl ntmps8 rfl Zk Zs (by simp[push_cast,zW]) ?_;have fz1:∀H:Hp,Frz H (.tup [.nilS,.int .i64 1]) (byR ([],1)):=fun H=>zeq .nil0 (zeq (.pure (.int _ _)) (.pure (.tup Zs)));cases c1:zcy m with
  |false=>rw[c1]at hv1;simp(disch:=try exact Zq)only[go_sem,hv1,hv2,hv3];exact fz1 _
  |true=>
   rw[c1]at hv1 hc;cases c2:tabB t with
   |false=>rw[c2]at hv2;simp(disch:=try exact Zq)only[go_sem,hv1,hv2,hv3];exact fz1 _
   |true=>
    rw[c2]at hv2 hc;have d3:decide ((t.length:Int)<sigM m)=true:=Yf (by
     have:decide (sigM m≤(t.length:Int))=false:=by simpa using hc
     have:=of_decide_eq_false this;omega)
    simp(disch:=try exact Zq)only[go_sem,hv1,hv2,hv3,d3];exact fz1 _
 |true=>
  rw[hc,Yi rfl]at hR;simp only[Yj]at hc;obtain⟨⟨c1,c2⟩,c3⟩:=hc;rw[c1]at hv1;rw[c2]at hv2;have c3':sigM m≤t.length:=Yah c3;have d3:decide ((t.length:Int)<sigM m)=false:=Yd Zo;obtain⟨f1,f2,f3,f4,f5,f6,f7,f8⟩:=ziC c1;obtain⟨t1,t2⟩:=zk5 c2;have g1:=zo2 m;have g2:=ztA m;have hw:=cWts_eq m Zo Zo;unfold zad at hv1 hv3 hw ⊢;refine PCall.walk (rs:=[.tmp 4,.tmp 5]) [0,1,2,4,5,6,7,8,9,11,12,14,15,17,18,20,22,37,49,50,51,52,62,63,64,65,77,78,79,80,118,119,120,133,134,135,136,151,152,153,154,179] [24] mixed (hΓ) (hΔ) call8 func8 rfl ntmps8 rfl Zk Zs (by simp[push_cast,zW]) ?_;simp(disch:=try exact Zq)only[go_sem,hv1,hv2,hv3,d3,hw];obtain⟨W,hW⟩:∃W,W=wts m:=⟨_,rfl⟩;rw[←hW];have g3:W.length≤33001:=by rw[hW];omega
  refine AXs.loop mixed (hΓ) (hΔ) (ι:=Nat) (fun i=>[(51,.int .i64 i),(50,.int .i64 W.length),(49,.fs (strs W) W.length),(7,.ptr 1 0),(6,.fs (strs W) W.length),(2,.fp [.int .i64 m.k,.int .i64 m.s,.str m.l,.fs (stas m.q) m.q.length]),(1,.fs (strs t) t.length)])
   (fun i=>⟨[(1,.cells [.int .i64 t.length,.int .i64 W.length,.int .i64 m.q.length,.int .i64 0,.map 0]),(0,.mp (mpS 0 (wnum W i)) (wnum W i).length)],2⟩) (fun i=>i≤W.length) (fun i=>W.length-i) 0 Zk (Yk _) (Xb [] rfl rfl ?_ ?_) ?_
  ·simp only[go_sem]
  ·show subH _ _ _ [(1,_),(0,.mp (mpS 0 []) 0)];simp only[go_sem,zgP];exact(zgP [] 0).2 trivial
  intro i hi0;simp(disch:=try exact Zq)only[go_sem];refine Xc (fun hc=>?_) (fun hc=>?_)
  ·have hi:i<W.length:=Zo;have ei:(i:Int)+1=((i+1:Nat):Int):=Zo;have hsu:=zgq W i hi;simp(disch:=try exact Zq)only[go_sem,ei];refine⟨Zo,Zo,zi (i+1) hi Zo (Xb [] rfl rfl ?_ ?_)⟩
   ·simp only[go_sem]
   rw[hsu];simp only[go_sem,zgP]
  obtain rfl:i=W.length:=Zo;obtain⟨E,hE⟩:∃E,E=wnum W W.length:=⟨_,rfl⟩;rw[←hE];simp(disch:=try exact Zq)only[go_sem];refine AXa.go mixed (hΓ) (hΔ) Zk ?_;simp(disch:=try exact Zq)only[go_sem];refine AXs.loop mixed (hΓ) (hΔ) (ι:=Nat) (fun i=>[(64,.int .i64 i),(63,.int .i64 m.q.length),(62,.fs (stas m.q) m.q.length),(7,.ptr 1 0),(6,.fs (strs W) W.length),(2,.fp [.int .i64 m.k,.int .i64 m.s,.str m.l,.fs (stas m.q) m.q.length]),(1,.fs (strs t) t.length)])
   (fun i=>⟨[(1,.cells [.int .i64 t.length,.int .i64 W.length,.int .i64 m.q.length,.int .i64 (arcX (m.q.take i):Nat),.map 0]),(0,mpB E)],2⟩) (fun i=>i≤m.q.length) (fun i=>m.q.length-i) 0 Zk (Yk _) (Xb [] rfl rfl ?_ ?_) ?_
  ·simp only[go_sem]
  ·simp only[go_sem];exact⟨rfl,zlM E⟩
  intro i hi0;have hax:=zkH m.q i hi0;simp(disch:=try exact Zq)only[go_sem];refine Xc (fun hc=>?_) (fun hc=>?_)
  ·have hi:i<m.q.length:=Zo;have at1:=zcw m.q i hi;have ei:(i:Int)+1=((i+1:Nat):Int):=Zo;have hsu:=zmS m.q i hi;simp(disch:=try exact Zq)only[go_sem,at1,ei,max_cast];rw[←hsu];refine⟨Zo,zi (i+1) hi Zo (Xb [] rfl rfl ?_ ?_)⟩
   ·simp only[go_sem]
   simp only[go_sem]
  obtain rfl:i=m.q.length:=Zo;rw[Ym]at hax;rw[Ym];simp(disch:=try exact Zq)only[go_sem];refine AXa.go mixed (hΓ) (hΔ) Zk ?_;simp(disch:=try exact Zq)only[go_sem];obtain⟨X,hX⟩:∃X,X=layM m t:=⟨_,rfl⟩;have hX':X=⟨t.length,W.length,m.q.length,arcX m.q⟩:=by rw[hX,layM,hW]
  refine AXs.loop mixed (hΓ) (hΔ) (ι:=Nat) (fun i=>[(79,.int .i64 i),(78,.int .i64 m.q.length),(77,.fs (stas m.q) m.q.length),(12,.int .i64 (totQ X m.q i:Nat)),(7,.ptr 1 0),(6,.fs (strs W) W.length),(2,.fp [.int .i64 m.k,.int .i64 m.s,.str m.l,.fs (stas m.q) m.q.length]),(1,.fs (strs t) t.length)])
   (fun _=>⟨[(1,.cells [.int .i64 t.length,.int .i64 W.length,.int .i64 m.q.length,.int .i64 (arcX m.q:Nat),.map 0]),(0,mpB E)],2⟩) (fun i=>i≤m.q.length) (fun i=>m.q.length-i) 0 Zk (Yk _) (Xb [] rfl rfl ?_ ?_) ?_
  ·simp only[go_sem];rfl
  ·simp only[go_sem]
  intro i hi0;have htl:=zfn X m.q i hi0;have hsl:sumA m.q i≤30000:=Yw (zcF m.q hi0 (Yc _)) (by rw[zbP];exact f7);simp(disch:=try exact Zq)only[go_sem];refine Xc (fun hc=>?_) (fun hc=>?_)
  ·have hi:i<m.q.length:=Zo;have at1:=zcw m.q i hi;have ei:(i:Int)+1=((i+1:Nat):Int):=Zo;have hsu:=zgw X m.q i hi;have hal:(nthQ m.q i).a.length≤arcN m.q:=zff (staR.nth_mem hi);have htl2:=zfn X m.q (i+1) hi;have hsl2:sumA m.q (i+1)≤30000:=Yw (zcF m.q (show i+1≤m.q.length from hi) (Yc _)) (by rw[zbP];exact f7);have htq:X=⟨t.length,W.length,m.q.length,arcX m.q⟩:=hX';have eT:(totQ X m.q i:Int)+(zb8 ⟨t.length,W.length,m.q.length,arcX m.q⟩ ⟨(nthQ m.q i).f,(nthQ m.q i).a⟩:Nat)=((totQ X m.q (i+1):Nat):Int):=by rw[hsu,←htq];exact(Int.natCast_add _ _).symm
   simp(disch:=try exact Zp)only[go_sem,at1,ei,zoY,eT];refine⟨Zo,zi (i+1) hi Zo (Xb [] rfl rfl ?_ ?_)⟩
   ·simp only[go_sem]
   simp only[go_sem]
  obtain rfl:i=m.q.length:=Zo;obtain⟨sn,hsn⟩:∃n:Nat,m.s=n:=⟨m.s.toNat,Zo⟩;obtain⟨kn,hkn⟩:∃n:Nat,m.k=n:=⟨m.k.toNat,Zo⟩;obtain⟨vn,hvn⟩:∃n:Nat,valS E m.l=n:=⟨(valS E m.l).toNat,by have:=(zf3 W m.l W.length (Yc _)).1;rw[←hE]at this;omega⟩;have hvb:vn≤33001:=by have:=(zf3 W m.l W.length (Yc _)).2;rw[←hE,hvn]at this;omega
  have hT:sumA m.q m.q.length=arcN m.q:=zbP m.q;obtain⟨T,hTe⟩:∃T,T=totQ X m.q m.q.length:=⟨_,rfl⟩;rw[←hTe]at htl ⊢;have ek:IntKind.u8.wrap (kn:Int)=(kn:Int):=by rw[IntKind.wrap_u8'];omega
  have n0:([65,66,71,49]:ZL)≠[]:=Zd;simp(disch:=try exact Zq)only[go_sem];refine AXa.go mixed (hΓ) (hΔ) Zk ?_;simp(disch:=try exact Zp)only[go_sem,Δp_str0,Δp_byte,hsn,hkn,hvn,ek,Yq];refine AXk.intro Zk ?_;obtain⟨h0,hh0⟩:∃h0:ZL,h0=[65,66,71,49,UInt8.ofNat kn]:=⟨_,rfl⟩;rw[←hh0];have m0:h0≠[]:=by rw[hh0];simp
  have z0:5=h0.length:=by rw[hh0];rfl
  simp(disch:=try exact Zp)only[go_sem,hsn,hkn,hvn,ek,Yq,zto,pl_7,buK_7,bld_7,idx_7];obtain⟨L,hL⟩:∃L:ZN,L=[t.length,W.length,m.q.length,sn,vn,arcX m.q,T]:=⟨_,rfl⟩;have hL7:L.length=7:=by rw[hL];rfl
  have hLb:∀j,L.getD j 0<128^6:=by
   intro j;rw[hL];match j with
   |0=>show t.length<_;omega
   |1=>show W.length<_;omega
   |2=>show m.q.length<_;omega
   |3=>show sn<_;omega
   |4=>show vn<_;omega
   |5=>show arcX m.q<_;omega
   |6=>show T<_;omega
   |j+7=>show 0<_;omega
  have idx:∀(j:Nat)(H:Hp),j<7→zb0 prog 66 (.agg [.int .i64 t.length,.int .i64 W.length,.int .i64 m.q.length,.int .i64 sn,.int .i64 vn,.int .i64 (arcX m.q:Nat),.int .i64 T]) (.int .i64 j) H=⟨True,.int .i64 ((L.getD j 0:Nat):Int),H,[],[]⟩:=fun j H hj=>by rw[hL];exact idx_7 _ _ _ _ _ _ _ j H hj
  refine AXs.loop mixed (hΓ) (hΔ) (ι:=Nat) (fun j=>[(119,.int .i64 j),(118,.agg [.int .i64 t.length,.int .i64 W.length,.int .i64 m.q.length,.int .i64 sn,.int .i64 vn,.int .i64 (arcX m.q:Nat),.int .i64 T]),(15,.ptr 2 0),(12,.int .i64 T),(7,.ptr 1 0),(6,.fs (strs W) W.length),(2,.fp [.int .i64 kn,.int .i64 sn,.str m.l,.fs (stas m.q) m.q.length]),(1,.fs (strs t) t.length)])
   (fun j=>⟨[(3,bly (h0++varL L j)),(2,.cells [.sl 3 0 (h0++varL L j).length 1 none,.int .i64 0,.int .i8 0,.int .u8 0,.int .i64 0]),(1,.cells [.int .i64 t.length,.int .i64 W.length,.int .i64 m.q.length,.int .i64 (arcX m.q:Nat),.map 0]),(0,mpB E)],4⟩) (fun j=>j≤7) (fun j=>7-j) 0 Zk (Yk _) (Xb [(3,4)] rfl rfl ?_ ?_) ?_
  ·simp only[go_sem]
  ·have e0:h0++varL L 0=h0:=by simp[varL]
   rw[e0,←z0];simp only[go_sem]
  intro j hj0;have hvl:=zo7 L j Zo;have mj:h0++varL L j≠[]:=by simp[m0]
  have hlj:(h0++varL L j).length≤90000000:=by rw[Yg];omega
  have hLj:=hLb j;simp(disch:=try exact Zq)only[go_sem];refine Xc (fun hc=>?_) (fun hc=>?_)
  ·have hj:j<7:=Zo;have ej:(j:Int)+1=((j+1:Nat):Int):=Zo;have hsu:=zkZ L j Zo;simp(disch:=try exact Zp)only[go_sem,idx,zto,ej];rw[YH,←hsu];exact zi (j+1) hj Zo (Xb [(3,4)] rfl rfl Zg Zg)
  obtain rfl:j=7:=Zo;have hsW:sumL W≤W.length*1000:=ztM fun w hw=>h.ws w ((zfj m w).1 (by rw[←hW];exact hw));have hst:sumL t≤t.length*40:=ztM t2;have fl1:=zhu t [];have fl2:=zhu W [];have hsW':sumL W≤33001000:=Yw hsW Zo;have hst':sumL t≤20000:=Yw hst Zo;obtain⟨B0,hB0⟩:∃B0,B0=h0++varL L 7:=⟨_,rfl⟩;rw[←hB0]at mj hlj ⊢;have hB0l:B0.length≤47:=by rw[hB0,Yg];omega
  have p1:B0.length+20*t.length+sumL t≤80000000:=Zo;have p2:∀s∈t,s.length≤1000000:=fun s hs=>Yw (t2 s hs) Zd;have p3:(B0++zbc [] t).length+20*W.length+sumL W≤80000000:=by rw[Yg];omega
  have p4:∀s∈W,s.length≤1000000:=fun s hs=>Yw (h.ws s ((zfj m s).1 (by rw[←hW];exact hs))) Zd;have mj1:B0++zbc [] t≠[]:=by simp[mj]
  simp(disch:=try exact Zq)only[go_sem];refine AXa.go mixed (hΓ) (hΔ) Zk ?_;simp(disch:=try exact Zp)only[go_sem,Δp_fold];obtain⟨B2,hB2⟩:∃B2,B2=B0++zbc [] t++zbc [] W:=⟨_,rfl⟩;rw[←hB2];have m2:B2≠[]:=by rw[hB2];simp[mj]
  have hB2l:B2.length≤34000000:=by rw[hB2,Yg,Yg];omega
  have ok2:okW (B2,0,0):=⟨by show 0<256;omega,by show 0≤7;omega,by show 0%2^0=0;rfl,m2⟩;refine AXs.loop mixed (hΓ) (hΔ) (ι:=Nat×WS) (fun i=>[(135,.int .i64 i.1),(134,.int .i64 m.q.length),(133,.fs (stas m.q) m.q.length),(18,.int .i64 (totQ X m.q i.1:Nat)),(15,.ptr 2 0),(12,.int .i64 T),(7,.ptr 1 0),(6,.fs (strs W) W.length),(2,.fp [.int .i64 kn,.int .i64 sn,.str m.l,.fs (stas m.q) m.q.length]),(1,.fs (strs t) t.length)])
   (fun i=>⟨[(3,bly i.2.1),(2,.cells [.sl 3 0 i.2.1.length 1 none,.int .i64 0,.int .i8 0,.int .u8 (i.2.2.1:Nat),.int .i64 (i.2.2.2:Nat)]),(1,.cells [.int .i64 t.length,.int .i64 W.length,.int .i64 m.q.length,.int .i64 (arcX m.q:Nat),.map 0]),(0,mpB E)],4⟩) (fun i=>i.1≤m.q.length∧i.2=numL (offP X m.q i.1) (B2,0,0)) (fun i=>m.q.length-i.1) (0,(B2,0,0)) Zk ⟨Yk _,rfl⟩ (Xb [(3,5)] rfl rfl ?_ ?_) ?_
  ·simp only[go_sem];rfl
  ·simp only[go_sem]
  rintro⟨i,d,la,fr⟩ ⟨q1,q2⟩;dsimp only at q1 q2;have gok:=zg5 (offP X m.q i) (B2,0,0) ok2;have gbi:=zlC X m.q i;rw[←q2]at gok;obtain⟨gk,gl⟩:=gok;dsimp only at gl;have htq:=zfn X m.q i q1;have hsl:sumA m.q i≤30000:=Yw (zcF m.q q1 (Yc _)) (by rw[zbP];exact f7);simp(disch:=try exact Zq)only[go_sem];refine Xc (fun hc=>?_) (fun hc=>?_)
  ·have hi:i<m.q.length:=Zo;have at1:=zcw m.q i hi;have ei:(i:Int)+1=((i+1:Nat):Int):=Zo;have hsu:=zgw X m.q i hi;have hal:(nthQ m.q i).a.length≤arcN m.q:=zff (staR.nth_mem hi);have htl2:=zfn X m.q (i+1) hi;have hsl2:sumA m.q (i+1)≤30000:=Yw (zcF m.q (show i+1≤m.q.length from hi) (Yc _)) (by rw[zbP];exact f7);have eT:(totQ X m.q i:Int)+(zb8 ⟨t.length,W.length,m.q.length,arcX m.q⟩ ⟨(nthQ m.q i).f,(nthQ m.q i).a⟩:Nat)=((totQ X m.q (i+1):Nat):Int):=by rw[hsu,←hX'];exact(Int.natCast_add _ _).symm
   have hwT:widI T≤30:=zi8 (n:=T) (k:=30) Zo Zd;simp(disch:=try exact Zp)only[go_sem,at1,ei,zoY,Δp_num,zN,eT,Yq];have hnx:numW (widI T) (totQ X m.q i) (d,la,fr)=numL (offP X m.q (i+1)) (B2,0,0):=by rw[zlB,zbJ,←q2,←hTe];rfl
   refine⟨Zo,zi (i+1,numW (widI T) (totQ X m.q i) (d,la,fr)) ⟨hi,hnx⟩ (by show m.q.length-(i+1)<m.q.length-i;omega) (Xb [(3,5)] rfl rfl ?_ ?_)⟩
   ·simp only[go_sem]
   simp only[go_sem]
  obtain rfl:i=m.q.length:=Zo;have hE0:∀a,0≤valS E a∧valS E a<1000000:=fun a=>by have:=zf3 W a W.length (Yc _);rw[←hE]at this;omega
  have hax2:=zkH m.q m.q.length (Yc _);rw[Ym]at hax2;have hLO:LayOK ⟨t.length,W.length,m.q.length,arcX m.q⟩ E:=⟨by show t.length≤_;omega,by show W.length≤_;omega,by show m.q.length≤_;omega,by show arcX m.q≤_;omega,hE0⟩;have hLX:LayOK X E:=by rw[hX'];exact hLO
  obtain⟨S8,hS8⟩:∃S8:WS,S8=(d,la,fr):=⟨_,rfl⟩;have hd:d=S8.1:=by rw[hS8]
  have hla:la=S8.2.1:=by rw[hS8]
  have hfr:fr=S8.2.2:=by rw[hS8]
  have gk8:okW S8:=by rw[hS8];exact gk
  have gl8:S8.1.length≤34200000:=by rw[←hd];omega
  rw[←hS8]at q2;simp(disch:=try exact Zq)only[go_sem];refine AXa.go mixed (hΓ) (hΔ) Zk ?_;simp(disch:=try exact Zq)only[go_sem];rw[hd,hla,hfr];clear hd hla hfr hS8 gk gl gbi mj1 p1 p3 hlj;clear d la fr;refine AXs.loop mixed (hΓ) (hΔ) (ι:=Nat×WS) (fun i=>[(153,.int .i64 i.1),(152,.int .i64 m.q.length),(151,.fs (stas m.q) m.q.length),(15,.ptr 2 0),(7,.ptr 1 0),(6,.fs (strs W) W.length),(2,.fp [.int .i64 kn,.int .i64 sn,.str m.l,.fs (stas m.q) m.q.length]),(1,.fs (strs t) t.length)])
   (fun i=>⟨[(3,bly i.2.1),(2,.cells [.sl 3 0 i.2.1.length 1 none,.int .i64 0,.int .i8 0,.int .u8 (i.2.2.1:Nat),.int .i64 (i.2.2.2:Nat)]),(1,.cells [.int .i64 t.length,.int .i64 W.length,.int .i64 m.q.length,.int .i64 (arcX m.q:Nat),.map 0]),(0,mpB E)],4⟩) (fun i=>i.1≤m.q.length∧i.2=numL (zeO X E m.q i.1) S8) (fun i=>m.q.length-i.1) (0,S8) Zk ⟨Yk _,rfl⟩ (Xb [] rfl rfl ?_ ?_) ?_
  ·simp only[go_sem]
  ·simp only[go_sem]
  rintro⟨i,d,la,fr⟩ ⟨u1,u2⟩;dsimp only at u1 u2;have gok:=zg5 (zeO X E m.q i) S8 gk8;have gbi:=zin hLX m.q i u1;rw[←u2]at gok;obtain⟨gk,gl⟩:=gok;dsimp only at gl;have hsl3:sumA m.q i≤30000:=Yw (zcF m.q u1 (Yc _)) (by rw[zbP];exact f7);simp(disch:=try exact Zq)only[go_sem];refine Xc (fun hc=>?_) (fun hc=>?_)
  ·have hi:i<m.q.length:=Zo;have at1:=zcw m.q i hi;have ei:(i:Int)+1=((i+1:Nat):Int):=Zo;have hal:(nthQ m.q i).a.length≤arcN m.q:=zff (staR.nth_mem hi);have haa:∀x∈(nthQ m.q i).a,zkI x:=f8 _ (staR.nth_mem hi);simp(disch:=try exact Zp)only[go_sem,at1,ei,ztp];have hnx:numL (staP ⟨t.length,W.length,m.q.length,arcX m.q⟩ E ⟨(nthQ m.q i).f,(nthQ m.q i).a⟩) (d,la,fr)=numL (zeO X E m.q (i+1)) S8:=by rw[zim X E m.q i hi,zbJ,←u2,hX']
   refine⟨Zo,zi (i+1,numL (staP ⟨t.length,W.length,m.q.length,arcX m.q⟩ E ⟨(nthQ m.q i).f,(nthQ m.q i).a⟩) (d,la,fr)) ⟨hi,hnx⟩ (by show m.q.length-(i+1)<m.q.length-i;omega) (Xb [(3,5)] rfl rfl ?_ ?_)⟩
   ·simp only[go_sem]
   simp only[go_sem]
  obtain rfl:i=m.q.length:=Zo;have hfl:(zca (d,la,fr)).1≠[]∧(zca (d,la,fr)).1.length≤d.length+1:=by
   unfold zca;dsimp only;split
   ·exact⟨gk.2.2.2,Ya7 _⟩
   exact⟨Zs,Zs⟩
  obtain⟨F,hF⟩:∃F,F=(zca (d,la,fr)).1:=⟨_,rfl⟩;have hfile:zdu m t=F++sumB F:=by
   have hb:zfa m t=zca (d,la,fr):=by unfold zfa;rw[←hX,←hW,←hE,u2,q2];congr 3;rw[hB2,hB0,hh0];unfold headB;rw[←hX,←hW,←hE,hkn,hsn,hvn,hL,←hTe];simp
   unfold zdu;rw[hb,←hF]
  rw[←hF]at hfl;obtain⟨w1,w2⟩:=hfl;have w3:(sumB F).length=4:=rfl;have w4:F++sumB F≠[]:=by simp[w1]
  have w5:(F++sumB F).length≤90000000:=by rw[Yg];omega
  simp(disch:=try exact Zq)only[go_sem];refine AXa.go mixed (hΓ) (hΔ) Zk ?_;simp(disch:=try exact Zp)only[go_sem,zoZ];rw[←hF];simp(disch:=try exact Zp)only[go_sem,zoZ,zgh,Δp_sum,Δp_wrt];refine AXk.intro Zk ?_;by_cases hbig:1048576<(F++sumB F).length
  ·have db:decide (1048576<((F++sumB F).length:Int))=true:=Yf Zo;rw[hfile,Yi hbig]at hR;subst hR;simp(disch:=try exact Zp)only[go_sem,zgh,db];exact zeq .nil0 (zeq (.pure (.int _ _)) (.pure (.tup Zs)))
  have db:decide (1048576<((F++sumB F).length:Int))=false:=Yd Zo;rw[hfile,Ye hbig]at hR;subst hR;simp(disch:=try exact Zp)only[go_sem,zgh,db];refine zeq (Xz (t:=5) (cs:=(F++sumB F).map zq) rfl ?_ ?_ (zaj _)) (zeq (.pure (.int _ _)) (.pure (.tup Zs)))
  ·rw[Yan];omega
  rw[YW,Yas,Yp (by rw[Yan];exact Yc _)]
def cPack:ZV:=zL (fun p:Mach×List Str=>[zad p.1,.fs (strs p.2) p.2.length]) (fun p=>PackOK p.1 p.2) fun p=>.ret (byR (zeS p.1 p.2))
def zkw(m:Mach)(t:List Str)(h:PackOK m t):cPack [zad m,.fs (strs t) t.length]=some (.ret (byR (zeS m t))):=
 zo (pat:=fun p:Mach×List Str=>[zad p.1,V.fs (strs p.2) p.2.length]) (fun x y h=>by simp only[Yt,V.fs.injEq,Yad]at h;exact YaC (zcK h.1) (zbv h.2.1)) (m,t) h
def ze8:ZC cPack 8:=zn fun p h=>pack_ok p.1 p.2 h
end Go.Proofs
