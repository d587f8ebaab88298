/- The reference's pack: the whole. -/
import Derived.Test.YtbdlfegfepggnaaGreatDoorRP4
set_option linter.all false
set_option maxHeartbeats 16000000
set_option maxRecDepth 100000
noncomputable section
namespace Go.Proofs
open Tryz Go.Ab Go.Pl Go.Cnt
attribute [local go_sem] zbJ zaW zaj rows_rn
def rpack_ok(m:Mach)(t:List Str)(h:PackOK m t):PCall prog 9 [zU m,.fs (strs t) t.length] (.ret (byR (zfw m t))):=by
 have hΓ:=zg znN (zg cRTab_ok (zg cRSig_ok (zg cRWts_ok (zg zr8 (zg zsd (zg cRSta_ok zh))))));have hΔ:=Δr_ok;have hv1:=znO m h.fit;have hv2:=cRTab_eq t h.tl h.ts;have hv3:=cRSig_eq m h.fit;have hR:zfw m t=if (zco m&&tabB t&&decide (sigM m≤t.length))=true then(if 1048576<(zgj m t).length then([],2)else(zgj m t,0))else([],1):=rfl
 obtain⟨R,hRe⟩:∃R,R=zfw m t:=⟨_,rfl⟩;rw[←hRe]at hR ⊢;clear hRe;cases hc:(zco m&&tabB t&&decide (sigM m≤t.length))with
 |false=>
  rw[hc,Yh Zd]at hR;subst hR;unfold zU at hv1 hv3 ⊢;refine PCall.walk (rs:=[.tmp 4,.tmp 5]) [0,1,2,4,5,6,7,8,9,10,11,12,13,15,16,17,18,19,20,21,22,37,44,60,106,107,108,109,125,143,155,162,166,188] [24] mixed (hΓ) (hΔ) call9 func9 rfl ntmps9 rfl Zk Zs (by simp[push_cast,zaj]) ?_;have fz1:∀H:Hp,Frz H (.tup [.nilS,.int .i64 1]) (byR ([],1)):=fun H=>zb8 .nil0 (zb8 (.pure (.int _ _)) (.pure (.tup Zs)));cases c1:zco m with
  |false=>rw[c1]at hv1;simp(disch:=try exact Zq)only[go_sem,hv1,hv2,hv3];exact fz1 _
  |true=>
   rw[c1]at hv1 hc;cases c2:tabB t with
   |false=>rw[c2]at hv2;simp(disch:=try exact Zq)only[go_sem,hv1,hv2,hv3];exact fz1 _
   |true=>
    rw[c2]at hv2 hc;have d3:decide ((t.length:Int)<sigM m)=true:=Yf (by
     have:decide (sigM m≤(t.length:Int))=false:=by simpa using hc
     have:=of_decide_eq_false this;omega)
    simp(disch:=try exact Zq)only[go_sem,hv1,hv2,hv3,d3];exact fz1 _
 |true=>
  rw[hc,Yi rfl]at hR;simp only[Yg]at hc;obtain⟨⟨c1,c2⟩,c3⟩:=hc;rw[c1]at hv1;rw[c2]at hv2;have c3':sigM m≤t.length:=Yaq c3;have d3:decide ((t.length:Int)<sigM m)=false:=Ye Zo;obtain⟨f1,f2,f3,f4,f5,f6,f7,f8⟩:=zjz c1;obtain⟨t1,t2⟩:=zmk c2;have g1:=zqN m;have g2:=zvQ m;have hw:=cRWts_eq m Zo Zo;have hwi:=wts_inc m;have hwm:=zox m;unfold zU at hv1 hv3 hw ⊢;refine PCall.walk (rs:=[.tmp 4,.tmp 5]) [0,1,2,4,5,6,7,8,9,10,11,12,13,15,16,17,18,19,20,21,22,37,44,60,106,107,108,109,125,143,155,162,166,188] [24] mixed (hΓ) (hΔ) call9 func9 rfl ntmps9 rfl Zk Zs (by simp[push_cast,zaj]) ?_;simp(disch:=try exact Zq)only[go_sem,hv1,hv2,hv3,d3,hw];obtain⟨W,hW⟩:∃W,W=wts m:=⟨_,rfl⟩;rw[←hW]at hwi hwm ⊢;have g3:W.length≤33001:=by rw[hW];omega
  have g4:1≤W.length:=by have hm:m.l∈W:=(hwm _).2 (by unfold wtsM;exact YA ..);exact List.length_pos_of_mem hm
  obtain⟨E,hE⟩:∃E,E=wnum W W.length:=⟨_,rfl⟩;refine AXs.loop mixed (hΓ) (hΔ) (ι:=Nat) (fun i=>[(8,.int .i64 i),(7,.int .i64 (arcX (m.q.take i):Nat)),(6,.fs (strs W) W.length),(2,.fp [.int .i64 m.k,.int .i64 m.s,.str m.l,.fs (stas m.q) m.q.length]),(1,.fs (strs t) t.length)])
   (fun i=>⟨[],0⟩) (fun i=>i≤m.q.length) (fun i=>m.q.length-i) 0 Zk (Yk _) (Xa [] rfl rfl ?_ ?_) ?_
  ·simp only[go_sem];rfl
  ·simp only[go_sem]
  intro i hi0;have hax:=zlY m.q i hi0;by_cases hi:i<m.q.length
  ·have d0:decide ((i:Int)<m.q.length)=true:=Yf Zo;have at1:=zbU m.q i hi;have ei:(i:Int)+1=((i+1:Nat):Int):=Zo;have hsu:=ziB m.q i hi;simp(disch:=try exact Zq)only[go_sem,d0,at1,ei,zrq];rw[←hsu];exact⟨⟨Zo,Zo⟩,Zo,zi (i+1) hi (by show m.q.length-(i+1)<m.q.length-i;omega) (Xa [] rfl rfl Zg Zg)⟩
  obtain rfl:i=m.q.length:=Zo;have d0:decide ((m.q.length:Int)<m.q.length)=false:=Ye Zo;rw[Ym]at hax;rw[Ym];obtain⟨X,hX⟩:∃X,X=layM m t:=⟨_,rfl⟩;have hX':X=⟨t.length,W.length,m.q.length,arcX m.q⟩:=by rw[hX,layM,hW]
  simp(disch:=try exact Zq)only[go_sem,d0];refine AXa.go mixed (hΓ) (hΔ) Zk ?_;simp(disch:=try exact Zq)only[go_sem];have hE0:∀a,0≤valS E a∧valS E a<1000000:=fun a=>by have:=zfo W a W.length (Yc _);rw[←hE]at this;omega
  have hLO:LayOK X E:=by rw[hX'];exact⟨by show t.length≤_;omega,by show W.length≤_;omega,by show m.q.length≤_;omega,by show arcX m.q≤_;omega,hE0⟩
  have hsta:∀i,i<m.q.length→cRSta [.agg [.str (nthQ m.q i).f,.fs (arcs (nthQ m.q i).a) (nthQ m.q i).a.length],.fs (strs W) W.length,.int .i64 t.length,.int .i64 m.q.length,.int .i64 (arcX m.q:Nat)]=some (.ret (.fs ((zaE (staP X E (nthQ m.q i))).map zt) (zaE (staP X E (nthQ m.q i))).length)):=fun i hi=>by have hm:nthQ m.q i∈m.q:=staR.nth_mem hi;rw[hX',hE];refine cRSta_eq t.length m.q.length (arcX m.q) W (nthQ m.q i) ⟨by rw[←hX',←hE];exact hLO,g4,f3,?_,f8 _ hm,hwi,fun a ha=>(hwm a).2 (YD _ (Ya5.2 ⟨_,hm,ha⟩))⟩;have:=zdV hm;omega
  refine AXs.loop mixed (hΓ) (hΔ) (ι:=Nat×List ZL) (fun i=>[(11,.int .i64 i.1),(10,.int .i64 (totQ X m.q i.1:Nat)),(9,rwV i.2),(7,.int .i64 (arcX m.q:Nat)),(6,.fs (strs W) W.length),(2,.fp [.int .i64 m.k,.int .i64 m.s,.str m.l,.fs (stas m.q) m.q.length]),(1,.fs (strs t) t.length)])
   (fun i=>⟨rwB i.2,rwN i.2⟩) (fun i=>i.1≤m.q.length∧i.2=rwsQ X E m.q i.1) (fun i=>m.q.length-i.1) (0,[]) Zk ⟨Yk _,rfl⟩ (Xa [] rfl rfl ?_ ?_) ?_
  ·simp only[go_sem,rwV];rfl
  ·simp only[go_sem,rwB,rwN]
  rintro⟨i,L⟩ ⟨g5,g6⟩;dsimp only at g5 g6 ⊢;have hLl:L.length=i:=by rw[g6];exact rwsQ_len X E m.q i g5
  have htl:=zdB X m.q i g5;have hsl:sumA m.q i≤30000:=Ys (za7 m.q g5 (Yc _)) (by rw[zaM];exact f7);by_cases hi:i<m.q.length
  ·have d0:decide ((i:Int)<m.q.length)=true:=Yf Zo;have at1:=zbU m.q i hi;have ei:(i:Int)+1=((i+1:Nat):Int):=Zo;have hsu:=zdd X m.q i hi;have hst:=hsta i hi;have hrs:=zwv X E m.q i hi;have hlen:=zks X E (nthQ m.q i);generalize zaE (staP X E (nthQ m.q i))=Z at*;have eT:(totQ X m.q i:Int)+(Z.length:Nat)=((totQ X m.q (i+1):Nat):Int):=by rw[hsu,hlen];exact(Int.natCast_add _ _).symm
   have htl2:=zdB X m.q (i+1) hi;have hsl2:sumA m.q (i+1)≤30000:=Ys (za7 m.q (show i+1≤m.q.length from hi) (Yc _)) (by rw[zaM];exact f7);cases L with
   |nil=>
    have hnx:[Z]=rwsQ X E m.q (i+1):=by rw[hrs,←g6];rfl
    have hZ1:=zwA Z;simp(disch:=try exact Zp)only[go_sem,rwV,rwB,rwN,d0,at1,ei,hst,eT];exact⟨⟨Zo,Zo⟩,zi (i+1,[Z]) ⟨hi,hnx⟩ (by show m.q.length-(i+1)<m.q.length-i;omega) (Xa [(0,1)] rfl rfl (by simp(disch:=try exact Zq)only[go_sem,rwV]) (by simp(disch:=try exact Zq)only[go_sem,rwB,rwN,←hZ1];exact fun x hx=>zad Z x hx))⟩
   |cons a L=>
    have hnx:a::L++[Z]=rwsQ X E m.q (i+1):=by rw[hrs,←g6]
    have hRl:(rows (a::L)).length=L.length+1:=zkE _;have hRt:(rows (a::L)).take (L.length+1)=rows (a::L):=Yl Zo;have hRa:=zwB (a::L) Z;have hLl':L.length+1=i:=hLl;simp(disch:=try exact Zp)only[go_sem,rwV,rwB,rwN,d0,at1,ei,hst,eT,hRt,hRa];refine⟨⟨Zo,Zo⟩,⟨Zo,Zo,Zo⟩,zi (i+1,a::L++[Z]) ⟨hi,hnx⟩ (by show m.q.length-(i+1)<m.q.length-i;omega) (Xa [(0,2)] rfl rfl (by simp(disch:=try exact Zq)only[go_sem,rwV];simp) (by simp(disch:=try exact Zq)only[go_sem,rwB,rwN]))⟩
  obtain rfl:i=m.q.length:=Zo;have d0:decide ((m.q.length:Int)<m.q.length)=false:=Ye Zo;have hL0:L≠[]:=by intro e;rw[e]at hLl;simp at hLl;omega
  obtain⟨sn,hsn⟩:∃n:Nat,m.s=n:=⟨m.s.toNat,Zo⟩;obtain⟨kn,hkn⟩:∃n:Nat,m.k=n:=⟨m.k.toNat,Zo⟩;obtain⟨vn,hvn⟩:∃n:Nat,valS E m.l=n:=⟨(valS E m.l).toNat,by have:=(hE0 m.l).1;omega⟩;have hvb:vn<1000000:=by have:=(hE0 m.l).2;omega
  have hml:m.l∈W:=(hwm _).2 (by unfold wtsM;exact YA ..);have hnum:zqd [.fs (strs W) W.length,.str m.l]=some (.ret (.int .i64 vn)):=by rw[zse W m.l Zo hml,←zqP W hwi m.l hml,←hE,hvn]
  have hT:sumA m.q m.q.length=arcN m.q:=zaM m.q;obtain⟨T,hTe⟩:∃T,T=totQ X m.q m.q.length:=⟨_,rfl⟩;rw[←hTe]at htl ⊢;have ek:IntKind.u8.wrap (kn:Int)=(kn:Int):=by rw[IntKind.wrap_u8'];omega
  obtain⟨h0,hh0⟩:∃h0:ZL,h0=[65,66,71,49,UInt8.ofNat kn]:=⟨_,rfl⟩;have ehd:Blk.ty 5 [.int .u8 65,.int .u8 66,.int .u8 71,.int .u8 49,.int .u8 (kn:Int)]=bly h0:=by rw[zlR kn Zo,hh0];rfl
  rw[rwV_ne hL0,rwB_ne hL0,rwN_ne hL0];simp(disch:=try exact Zq)only[go_sem,d0];refine AXa.go mixed (hΓ) (hΔ) Zk ?_;have hcv:=fun H hb=>zzo 1 0 4 1 (some 4) [.int .u8 65,.int .u8 66,.int .u8 71,.int .u8 49] H hb;obtain⟨Ln,hLn⟩:∃L:ZN,L=[t.length,W.length,m.q.length,sn,vn,arcX m.q,T]:=⟨_,rfl⟩;have hL7:Ln.length=7:=by rw[hLn];rfl
  have hLb:∀j,Ln.getD j 0<4000000000000:=by
   intro j;rw[hLn];match j with
   |0=>show t.length<_;omega
   |1=>show W.length<_;omega
   |2=>show m.q.length<_;omega
   |3=>show sn<_;omega
   |4=>show vn<_;omega
   |5=>show arcX m.q<_;omega
   |6=>show T<_;omega
   |j+7=>show 0<_;omega
  have eLn:[V.int .i64 t.length,.int .i64 W.length,.int .i64 m.q.length,.int .i64 sn,.int .i64 vn,.int .i64 (arcX m.q:Nat),.int .i64 T]=nats .i64 Ln:=by rw[hLn];rfl
  simp(disch:=try exact Zp)only[go_sem,hsn,hkn,ek,hnum,ehd,ziN,hcv,eLn];have m0:h0≠[]:=by rw[hh0];simp
  have z0:5=h0.length:=by rw[hh0];rfl
  refine AXk.intro Zk ?_;simp(disch:=try exact Zp)only[go_sem];refine AXs.loop mixed (hΓ) (hΔ) (ι:=Nat) (fun j=>[(108,.int .i64 j),(107,.int .i64 Ln.length),(106,.sl 2 0 Ln.length 1 (some Ln.length)),(13,.sl 1 0 (h0++varL Ln j).length 1 none),(10,.int .i64 T),(9,.sl 0 0 L.length 1 none),(6,.fs (strs W) W.length),(1,.fs (strs t) t.length)])
   (fun j=>⟨[(2,.cells (nats .i64 Ln)),(1,bly (h0++varL Ln j)),(0,.cells (rows L))],3⟩) (fun j=>j≤7) (fun j=>7-j) 0 Zk (Yk _) (Xa [(2,4),(1,3)] rfl rfl ?_ ?_) ?_
  ·have e0:h0++varL Ln 0=h0:=by simp[varL]
   rw[e0,←z0];simp only[go_sem]
  ·have e0:h0++varL Ln 0=h0:=by simp[varL]
   rw[e0];simp only[go_sem]
  intro j hj0;have hvl:=zkb Ln j Zo;have mj:h0++varL Ln j≠[]:=by simp[m0]
  have hlj:(h0++varL Ln j).length≤90000000:=by rw[Yd];omega
  have hLj:=hLb j;by_cases hj:j<7
  ·have d1:decide ((j:Int)<Ln.length)=true:=Yf Zo;have ej:(j:Int)+1=((j+1:Nat):Int):=Zo;have hsu:=zhh Ln j Zo;simp(disch:=try exact Zp)only[go_sem,d1,Δr_var,ej];rw[YR,←hsu];exact⟨⟨Zo,Zo⟩,Zo,zi (j+1) hj (by show 7-(j+1)<7-j;omega) (Xa [(1,3)] rfl rfl Zg Zg)⟩
  obtain rfl:j=7:=Zo;have d1:decide ((7:Int)<Ln.length)=false:=Ye Zo;have hsW:sumL W≤W.length*1000:=zki fun w hw=>h.ws w ((hwm w).1 hw);have hst:sumL t≤t.length*40:=zki t2;have fl1:=zel t [];have fl2:=zel W [];have hsW':sumL W≤33001000:=Ys hsW Zo;have hst':sumL t≤20000:=Ys hst Zo;obtain⟨B0,hB0⟩:∃B0,B0=h0++varL Ln 7:=⟨_,rfl⟩;rw[←hB0]at mj hlj ⊢;have hB0l:B0.length≤47:=by rw[hB0,Yd];omega
  have p1:B0.length+20*t.length+sumL t≤80000000:=Zo;have p2:∀s∈t,s.length≤1000000:=fun s hs=>Ys (t2 s hs) Zd;have p3:(B0++za3 [] t).length+20*W.length+sumL W≤80000000:=by rw[Yd];omega
  have p4:∀s∈W,s.length≤1000000:=fun s hs=>Ys (h.ws s ((hwm s).1 hs)) Zd;have mj1:B0++za3 [] t≠[]:=by simp[mj]
  obtain⟨B2,hB2⟩:∃B2,B0++za3 [] t++za3 [] W=B2:=⟨_,rfl⟩;have m2:B2≠[]:=by rw[←hB2];simp[mj]
  have hB2l:B2.length≤34000000:=by rw[←hB2,Yd,Yd];omega
  simp(disch:=try exact Zq)only[go_sem,d1];refine AXa.go mixed (hΓ) (hΔ) Zk ?_;simp(disch:=try exact Zp)only[go_sem,Δr_fold,hB2];have hwT:widI T≤30:=zoy (n:=T) (k:=30) Zo Zd;have hS1:∀i,1≤zcf X (nthQ m.q i):=fun i=>by unfold zcf;omega
  have hT1:1≤T:=by rw[hTe];have h1:totQ X m.q 1≤totQ X m.q m.q.length:=zv4 X m.q f3;have h2:totQ X m.q 1=totQ X m.q 0+zcf X (nthQ m.q 0):=zdd X m.q 0 Zo;have:=hS1 0;omega
  have hwT1:1≤widI T:=widI_pos hT1;have hLn2:L.length=m.q.length:=hLl;refine AXs.loop mixed (hΓ) (hΔ) (ι:=Nat×ZL) (fun i=>[(18,.int .i64 i.1),(17,.int .i64 (totQ X m.q i.1:Nat)),(16,biV i.2),(13,.sl 1 0 B2.length 1 none),(10,.int .i64 T),(9,.sl 0 0 L.length 1 none)])
   (fun i=>⟨biB i.2 [(1,bly B2),(0,.cells (rows L))],biN i.2⟩) (fun i=>i.1≤m.q.length∧i.2=zaE (offP X m.q i.1)) (fun i=>m.q.length-i.1) (0,[]) Zk ⟨Yk _,rfl⟩ (Xa [(1,4)] rfl rfl ?_ ?_) ?_
  ·simp only[go_sem,biV,biN];rfl
  ·simp only[go_sem,biB,biN]
  rintro⟨i,d⟩ ⟨q1,q2⟩;dsimp only at q1 q2 ⊢;have hdl:d.length=i*widI T:=by rw[q2,zck,offP_len,←hTe]
  have hdl2:d.length≤90000:=by rw[hdl];exact Ys (Ybk (show i≤3000 by omega) hwT) Zd
  have htq:=zdB X m.q i q1;have hsl:sumA m.q i≤30000:=Ys (za7 m.q q1 (Yc _)) (by rw[zaM];exact f7);by_cases hi:i<m.q.length
  ·have d2:decide ((i:Int)<L.length)=true:=Yf Zo;have ei:(i:Int)+1=((i+1:Nat):Int):=Zo;have hsu:=zdd X m.q i hi;have hlen:=zks X E (nthQ m.q i);have hrn:nthV (rows L) i=.fs ((zaE (staP X E (nthQ m.q i))).map zt) (zaE (staP X E (nthQ m.q i))).length:=by rw[zrd L i Zo,g6,zrb X E m.q i hi];rfl
   have hRl:(rows L).length=L.length:=zkE L;generalize zaE (staP X E (nthQ m.q i))=Z at*;have eT:(totQ X m.q i:Int)+(Z.length:Nat)=((totQ X m.q (i+1):Nat):Int):=by rw[hsu,hlen];exact(Int.natCast_add _ _).symm
   have htl2:=zdB X m.q (i+1) hi;have hsl2:sumA m.q (i+1)≤30000:=Ys (za7 m.q (show i+1≤m.q.length from hi) (Yc _)) (by rw[zaM];exact f7);have hnx:d++bitF (widI T) (totQ X m.q i)=zaE (offP X m.q (i+1)):=by rw[zfy,zaY,←q2,←hTe];simp[zaE]
   have hcw:=zr9 T Zo;have hbl:=zc3 (widI T) (totQ X m.q i);have hnx0:zaE (offP X m.q (i+1))≠[]:=by intro e;have:=YaZ List.length e;rw[←hnx,Yd,hbl]at this;simp at this;omega
   obtain⟨a,D',hD⟩:=List.exists_cons_of_ne_nil hnx0;have hDl:widI T=D'.length+1→True:=fun _=>trivial;by_cases hi0:i=0
   ·have hd0:d=[]:=List.length_eq_zero_iff.1 (by rw[hdl,hi0,Ybe]);subst hd0;rw[YaK]at hnx;have hwl:widI T=D'.length+1:=by rw[←hbl,hnx,hD];rfl
    simp(disch:=try exact Zp)only[go_sem,biV,biB,biN,d2,hcw,Δr_putN,hrn,eT,ei,hnx];rw[hD,hwl];refine⟨⟨Zo,Zo⟩,Zo,zi (i+1,a::D') ⟨hi,hD.symm⟩ (by show m.q.length-(i+1)<m.q.length-i;omega) (Xa [(2,2)] rfl rfl (by simp(disch:=try exact Zq)only[go_sem,biV,biN]) (by simp(disch:=try exact Zq)only[go_sem,biB,biN]))⟩
   have hd0:d≠[]:=by intro e;rw[e]at hdl;rcases Nat.mul_eq_zero.1 hdl.symm with h|h<;>omega
   rw[biV_ne hd0,biB_ne _ hd0,biN_ne hd0];simp(disch:=try exact Zp)only[go_sem,d2,hcw,Δr_put,hrn,eT,ei,hnx];rw[hD];refine⟨⟨Zo,Zo⟩,Zo,zi (i+1,a::D') ⟨hi,hD.symm⟩ (by show m.q.length-(i+1)<m.q.length-i;omega) (Xa [(2,3)] rfl rfl (by simp(disch:=try exact Zq)only[go_sem,biV,biN]) (by simp(disch:=try exact Zq)only[go_sem,biB,biN]))⟩
  obtain rfl:i=m.q.length:=Zo;have d2:decide ((m.q.length:Int)<L.length)=false:=Ye Zo;have hd0:d≠[]:=by intro e;rw[e]at hdl;rcases Nat.mul_eq_zero.1 hdl.symm with h|h<;>omega
  rw[biV_ne hd0,biB_ne _ hd0,biN_ne hd0];simp(disch:=try exact Zq)only[go_sem,d2];refine AXa.go mixed (hΓ) (hΔ) Zk ?_;simp(disch:=try exact Zq)only[go_sem];have hstb:=fun i (hi:i≤m.q.length)=>zf0 hLO m.q i hi;refine AXs.loop mixed (hΓ) (hΔ) (ι:=Nat×ZL) (fun i=>[(19,.int .i64 i.1),(16,.sl 2 0 i.2.length 1 none),(13,.sl 1 0 B2.length 1 none),(9,.sl 0 0 L.length 1 none)])
   (fun i=>⟨[(2,bly i.2),(1,bly B2),(0,.cells (rows L))],3⟩) (fun i=>i.1≤m.q.length∧i.2=d++zaE (zeK X E m.q i.1)) (fun i=>m.q.length-i.1) (0,d) Zk ⟨Yk _,(Y7 d).symm⟩ (Xa [] rfl rfl ?_ ?_) ?_
  ·simp only[go_sem]
  ·simp only[go_sem]
  rintro⟨i,D⟩ ⟨u1,u2⟩;dsimp only at u1 u2 ⊢;have hDl:D.length≤90000+100*i+100*sumA m.q i:=by have:=hstb i u1;rw[u2,Yd,zck (zeK X E m.q i)];omega
  have hsl3:sumA m.q i≤30000:=Ys (za7 m.q u1 (Yc _)) (by rw[zaM];exact f7);by_cases hi:i<m.q.length
  ·have d3:decide ((i:Int)<L.length)=true:=Yf Zo;have ei:(i:Int)+1=((i+1:Nat):Int):=Zo;have hlen:=zks X E (nthQ m.q i);have hrn:nthV (rows L) i=.fs ((zaE (staP X E (nthQ m.q i))).map zt) (zaE (staP X E (nthQ m.q i))).length:=by rw[zrd L i Zo,g6,zrb X E m.q i hi];rfl
   have hRl:(rows L).length=L.length:=zkE L;have hnx:D++zaE (staP X E (nthQ m.q i))=d++zaE (zeK X E m.q (i+1)):=by rw[zfZ X E m.q i hi,zaY,←YR,←u2]
   have hsz:=sizeS_le X (nthQ m.q i);have hal:(nthQ m.q i).a.length≤arcN m.q:=zdV (staR.nth_mem hi);have hS1':=hS1 i;generalize zaE (staP X E (nthQ m.q i))=Z at*;have eZ:(Z.length=0)=False:=eq_false Zo;have hap:=fun R H=>ziE D Z 2 D.length Z.length R H rfl rfl Zo;have hmZ:(Z.map zt).length=Z.length:=Y5 ..;simp(disch:=try exact Zp)only[go_sem,d3,hrn,ei,hap,eZ,hmZ];exact⟨⟨Zo,Zo⟩,Zo,zi (i+1,D++Z) ⟨hi,hnx⟩ (by show m.q.length-(i+1)<m.q.length-i;omega) (Xa [(2,3)] rfl rfl (by simp(disch:=try exact Zq)only[go_sem];simp) (by simp(disch:=try exact Zq)only[go_sem]))⟩
  obtain rfl:i=m.q.length:=Zo;have d3:decide ((m.q.length:Int)<L.length)=false:=Ye Zo;have hD0:D≠[]:=by rw[u2];simp[hd0]
  have hbit:∀x∈D,x.toNat<2:=fun x hx=>by
   rw[u2,q2]at hx;rcases Yar.1 hx with h|h
   ·exact zn8 _ x h
   exact zn8 _ x h
  have hbody:(zlS m t).1=B2++zcj D ((D.length+7)/8):=by
   have hD':zaE (offP X m.q m.q.length++zeK X E m.q m.q.length)=D:=by rw[zaY,←q2,←u2]
   rw[body_law,←hX,←hW,←hE,←zck,hD'];congr 1;rw[←hB2,hB0,hh0];unfold headB;rw[←hX,←hW,←hE,hkn,hsn,hvn,hLn,←hTe];simp
  have hfile:zgj m t=(B2++zcj D ((D.length+7)/8))++sumB (B2++zcj D ((D.length+7)/8)):=by unfold zgj;rw[hbody]
  clear hbody u2 q2;obtain⟨K,hK⟩:∃K,K=(D.length+7)/8:=⟨_,rfl⟩;rw[←hK]at hfile;obtain⟨p,hp⟩:∃p,p=8*K-D.length:=⟨_,rfl⟩;simp(disch:=try exact Zq)only[go_sem,d3];refine AXa.go mixed (hΓ) (hΔ) Zk ?_;simp(disch:=try exact Zq)only[go_sem];refine AXs.loop mixed (hΓ) (hΔ) (ι:=Nat×ZL) (fun z=>[(16,.sl 2 0 z.2.length 1 none),(13,.sl 1 0 B2.length 1 none)])
   (fun z=>⟨[(2,bly z.2),(1,bly B2)],3⟩) (fun z=>z.1≤p∧z.2=D++List.replicate z.1 0) (fun z=>p-z.1) (0,D) Zk ⟨Yk _,(Y7 D).symm⟩ (Xa [] rfl rfl ?_ ?_) ?_
  ·simp only[go_sem]
  ·simp only[go_sem]
  rintro⟨z,P⟩ ⟨v1,v2⟩;dsimp only at v1 v2 ⊢;have hPl:P.length=D.length+z:=by rw[v2,Yd,YK]
  have hap:=fun R H=>apL_zero P 2 P.length R H rfl Zo;by_cases hz:z<p
  ·have d4:decide ((P.length:Int)%8=0)=false:=Ye Zo;have hnx:P++[0]=D++List.replicate (z+1) 0:=by rw[v2,YR,←List.replicate_succ']
   simp(disch:=try exact Zp)only[go_sem,d4,hap];exact zi (z+1,P++[0]) ⟨hz,hnx⟩ (by show p-(z+1)<p-z;omega) (Xa [(2,4)] rfl rfl (by simp(disch:=try exact Zq)only[go_sem];simp) (by simp(disch:=try exact Zq)only[go_sem]))
  obtain rfl:z=p:=Zo;have d4:decide ((P.length:Int)%8=0)=true:=Yf Zo;have hPK:P.length=8*K:=Zo;have hby:∀k,zcj D k=zcj P k:=fun k=>by rw[v2,zAC]
  rw[hby]at hfile;have hbitP:∀x∈P,x.toNat<2:=fun x hx=>by
   rw[v2]at hx;rcases Yar.1 hx with h|h
   ·exact hbit x h
   rw[YaO h];decide
  simp(disch:=try exact Zq)only[go_sem,d4];refine AXa.go mixed (hΓ) (hΔ) Zk ?_;simp(disch:=try exact Zq)only[go_sem];have hKl:K≤1000000:=Zo;have hbl:∀k,(zcj P k).length=k:=fun k=>by unfold zcj;rw[Y5,List.length_range]
  refine AXs.loop mixed (hΓ) (hΔ) (ι:=Nat) (fun j=>[(20,.int .i64 ((8*j:Nat):Int)),(16,.sl 2 0 P.length 1 none),(13,.sl 1 0 (B2++zcj P j).length 1 none)])
   (fun j=>⟨[(2,bly P),(1,bly (B2++zcj P j))],3⟩) (fun j=>j≤K) (fun j=>K-j) 0 Zk (Yk _) (Xa [] rfl rfl ?_ ?_) ?_
  ·rw[show B2++zcj P 0=B2 from Y7 B2];simp only[go_sem]
  ·rw[show B2++zcj P 0=B2 from Y7 B2];simp only[go_sem]
  intro j hj0;obtain⟨C,hC⟩:∃C,C=B2++zcj P j:=⟨_,rfl⟩;have hCl:C.length=B2.length+j:=by rw[hC,Yd,hbl]
  have hC0:C≠[]:=by rw[hC];simp[m2]
  rw[←hC];by_cases hj:j<K
  ·have d5:decide (((8*j:Nat):Int)<P.length)=true:=Yf Zo;have hCn:C++[UInt8.ofNat (byt P j)]=B2++zcj P (j+1):=by rw[zgp,hC,YR]
   simp(disch:=try exact Zq)only[go_sem,d5];refine AXs.loop mixed (hΓ) (hΔ) (ι:=Nat) (fun k=>[(22,.int .i64 k),(21,.int .i64 (acc8 P (8*j) k:Nat)),(20,.int .i64 ((8*j:Nat):Int)),(16,.sl 2 0 P.length 1 none),(13,.sl 1 0 C.length 1 none)])
    (fun k=>⟨[(2,bly P),(1,bly C)],3⟩) (fun k=>k≤8) (fun k=>8-k) 0 Zk (Yk _) (Xa [] rfl rfl ?_ ?_) ?_
   ·simp only[go_sem];rfl
   ·simp only[go_sem]
   intro k hk0;by_cases hk:k<8
   ·have d6:decide ((k:Int)<8)=true:=Yf Zo;have ek:(k:Int)+1=((k+1:Nat):Int):=Zo;have hac:=zBn P (8*j) (k+1);have hbl2:=bt_lt P (8*j+k);have hst:2*((acc8 P (8*j) k:Nat):Int)+((bt P (8*j+k):Nat):Int)=((acc8 P (8*j) (k+1):Nat):Int):=by rw[acc8];omega
    have hld:∀H:Hp,ldA (some false) (some 1) (some (bly P)) 2 (8*j+k) H=⟨True,.int .u8 ((bt P (8*j+k):Nat):Int),H,[2],[]⟩:=fun H=>zpu P 2 (8*j+k) H Zo;have hac2:2^(k+1)≤256:=by have:2^(k+1)≤2^8:=YL Zd Zo;exact this
    have ewb:IntKind.i64.wrap ((bt P (8*j+k):Nat):Int)=((bt P (8*j+k):Nat):Int):=wrap_i64 _ Zo Zo;have hacb:acc8 P (8*j) (k+1)≤70000:=Zo;have hacc:acc8 P (8*j) k≤70000:=by rw[acc8]at hacb;omega
    simp(disch:=try exact Zq)only[go_sem,d6,ek,hld,ewb,hst];exact⟨⟨Zo,Zo⟩,zi (k+1) hk (by show 8-(k+1)<8-k;omega) (Xa [] rfl rfl Zg Zg)⟩
   obtain rfl:k=8:=Zo;have d6:decide ((8:Int)<8)=false:=Zd;have hby8:acc8 P (8*j) 8=byt P j:=acc8_8 P j;have hb256:=byt_lt hbitP j;have ew:IntKind.u8.wrap ((byt P j:Nat):Int)=((byt P j:Nat):Int):=by rw[IntKind.wrap_u8'];omega
   have hap:=fun R H=>zgt C (byt P j) 1 C.length R H hb256 rfl Zo;rw[hby8];simp(disch:=try exact Zq)only[go_sem,d6];refine AXa.go mixed (hΓ) (hΔ) Zk ?_;have e20:((8*j:Nat):Int)+8=((8*(j+1):Nat):Int):=Zo;have e13:(B2++zcj P (j+1)).length=C.length+1:=by rw[←hCn,Yd];rfl
   simp(disch:=try exact Zp)only[go_sem,ew,hap,hCn,e20];exact zi (j+1) hj (by show K-(j+1)<K-j;omega) (Xa [(1,4)] rfl rfl (by rw[e13];simp(disch:=try exact Zq)only[go_sem]) (by simp(disch:=try exact Zq)only[go_sem]))
  obtain rfl:j=K:=Zo;have d5:decide (((8*j:Nat):Int)<P.length)=false:=Ye Zo;have hfl:zgj m t=C++sumB C:=by rw[hC];exact hfile
  have w3:(sumB C).length=4:=rfl;have w5:(C++sumB C).length=C.length+4:=by rw[Yd];rfl
  rw[hfl]at hR;simp(disch:=try exact Zq)only[go_sem,d5];refine AXa.go mixed (hΓ) (hΔ) Zk ?_;by_cases hbig:1048576<(C++sumB C).length
  ·have db:decide (1048576<((C++sumB C).length:Int))=true:=Yf Zo;rw[Yi hbig]at hR;subst hR;simp(disch:=try exact Zp)only[go_sem,zqI,db];exact zb8 .nil0 (zb8 (.pure (.int _ _)) (.pure (.tup Zs)))
  have db:decide (1048576<((C++sumB C).length:Int))=false:=Ye Zo;rw[Yh hbig]at hR;subst hR;simp(disch:=try exact Zp)only[go_sem,zqI,db];refine zb8 (Xp (t:=5) (cs:=(C++sumB C).map zt) rfl ?_ ?_ (zad _)) (zb8 (.pure (.int _ _)) (.pure (.tup Zs)))
  ·rw[Y5];omega
  rw[Y1,Yag,Yl (by rw[Y5];exact Yc _)]
def cRPack:ZV:=zC (fun p:Mach×List Str=>[zU p.1,.fs (strs p.2) p.2.length]) (fun p=>PackOK p.1 p.2) fun p=>.ret (byR (zfw p.1 p.2))
def zzW(m:Mach)(t:List Str)(h:PackOK m t):cRPack [zU m,.fs (strs t) t.length]=some (.ret (byR (zfw m t))):=
 zo (pat:=fun p:Mach×List Str=>[zU p.1,V.fs (strs p.2) p.2.length]) (fun x y h=>by simp only[Yw,V.fs.injEq,Yap]at h;exact Yai (zbD h.1) (za1 h.2.1)) (m,t) h
def zzV:ZC cRPack 9:=zn fun p h=>rpack_ok p.1 p.2 h
attribute [local go_sem] zaW zaj
def arcW(q:List Sta):Int:=q.foldl (fun n s=>IntKind.i64.wrap (n+(s.a.length:Nat))) 0
def zon(q:List Sta)(i:Nat)(h:i<q.length):arcW (q.take (i+1))=IntKind.i64.wrap (arcW (q.take i)+((nthQ q i).a.length:Nat)):=by unfold arcW;rw[show q.take (i+1)=q.take i++[nthQ q i]from staR.take_nth q i h,List.foldl_append];rfl
def arcs_ok(m:Mach)(h1:m.q.length≤1000000000000000)(h2:∀s∈m.q,s.a.length≤1000000000000000):PCall prog 19 [zU m] (.ret (.int .i64 (arcW m.q))):=by
 obtain⟨k,s,l,q⟩:=m;dsimp only at h1 h2;unfold zU;dsimp only;refine PCall.walk (rs:=[.tmp 2]) [0,1,2,3,4,9] [24] mixed (zh) (zf) call19 func19 rfl ntmps19 rfl Zk Zs (by simp[push_cast,zaj]) ?_;simp(disch:=try exact Zq)only[go_sem];refine AXs.loop mixed (zh) (zf) (ι:=Nat) (fun i=>[(4,.int .i64 i),(3,.int .i64 (arcW (q.take i))),(1,.fp [.int .i64 k,.int .i64 s,.str l,.fs (stas q) q.length])]) (fun _=>⟨[],0⟩) (fun i=>i≤q.length) (fun i=>q.length-i) 0 Zk (Yk _) (Xa [] rfl rfl ?_ ?_) ?_
 ·simp only[go_sem];rfl
 ·simp only[go_sem]
 intro i h3;by_cases hi:i<q.length
 ·have d0:decide ((i:Int)<q.length)=true:=Yf Zo;have at1:=zbU q i hi;have ei:(i:Int)+1=((i+1:Nat):Int):=Zo;have hsu:=zon q i hi;have hl:=h2 _ (staR.nth_mem hi);simp(disch:=try exact Zq)only[go_sem,d0,at1,ei];rw[←hsu];exact⟨⟨Zo,Zo⟩,Zo,zi (i+1) hi (by show q.length-(i+1)<q.length-i;omega) (Xa [] rfl rfl Zg Zg)⟩
 obtain rfl:i=q.length:=Zo;have d0:decide ((q.length:Int)<q.length)=false:=Ye Zo;simp(disch:=try exact Zq)only[go_sem,d0];refine AXa.go mixed (zh) (zf) Zk ?_;simp(disch:=try exact Zq)only[go_sem];rw[Ym]
def cArcs:ZV:=zC (fun m:Mach=>[zU m]) (fun m=>m.q.length≤1000000000000000∧∀s∈m.q,s.a.length≤1000000000000000) fun m=>.ret (.int .i64 (arcW m.q))
def cArcs_eq(m:Mach)(h1:m.q.length≤1000000000000000)(h2:∀s∈m.q,s.a.length≤1000000000000000):cArcs [zU m]=some (.ret (.int .i64 (arcW m.q))):=zo (pat:=fun m:Mach=>[zU m]) (fun x y h=>zbD (by simpa using h)) m ⟨h1,h2⟩
def cArcs_ok:ZC cArcs 19:=zn fun m h=>arcs_ok m h.1 h.2
def zkt(s:Sta):Bool:=decide (900<s.f.length)||s.a.any fun a=>decide (900<a.w.length)
def bigB(m:Mach)(t:List Str):Bool:=decide (200<m.q.length)||(decide (1000<arcW m.q)||(decide (900<m.l.length)||(decide (60<t.length)||(m.q.any zkt||t.any fun x=>decide (60<x.length)))))
def any_nth {q:List Sta}{p:Sta→Bool}{i:Nat}(h:i<q.length)(hp:p (nthQ q i)=true):q.any p=true:=List.any_eq_true.2 ⟨_,staR.nth_mem h,hp⟩
def any_none {q:List Sta}{p:Sta→Bool}(h:∀i,i<q.length→p (nthQ q i)=false):q.any p=false:=by rw[List.any_eq_false];intro s hs;obtain⟨i,hi,rfl⟩:=Yaw.1 hs;have:=h i hi;unfold nthQ Row.nth at this;rw[Ya,Yb hi]at this;rw[show (some q[i]).getD staR.dflt=q[i]from rfl]at this;rw[this];decide
def zBe {q:List Arc}{p:Arc→Bool}(h:∀i,i<q.length→p (nthA q i)=false):q.any p=false:=by rw[List.any_eq_false];intro s hs;obtain⟨i,hi,rfl⟩:=Yaw.1 hs;have:=h i hi;unfold nthA Row.nth at this;rw[Ya,Yb hi]at this;rw[show (some q[i]).getD arcR.dflt=q[i]from rfl]at this;rw[this];decide
def large_ok(m:Mach)(t:List Str)(h1:m.q.length≤1000000000000000)(h2:∀s∈m.q,s.a.length≤1000000000000000)(h3:t.length≤1000000000000000)(h4:m.l.length≤1000000000000000)(h5:∀s∈m.q,s.f.length≤1000000000000000)(h6:∀s∈m.q,∀a∈s.a,a.w.length≤1000000000000000)(h7:∀j,(t.getD j []).length≤1000000000000000):PCall prog 6 [zU m,.fs (strs t) t.length] (.ret (.bool (bigB m t))):=by
 have hΓ:=zg cArcs_ok zh;have hca:=cArcs_eq m h1 h2;obtain⟨k,s,l,q⟩:=m;have hR:bigB ⟨k,s,l,q⟩ t=(decide (200<q.length)||(decide (1000<arcW q)||(decide (900<l.length)||(decide (60<t.length)||(q.any zkt||t.any fun x=>decide (60<x.length)))))):=rfl;dsimp only at h1 h2 h4 h5 h6 hca;generalize bigB ⟨k,s,l,q⟩ t=R at*;generalize hAW:arcW q=AW at*;unfold zU at hca ⊢;dsimp only at hca ⊢;refine PCall.walk (rs:=[.tmp 4]) [0,1,2,4,5,6,7,27,32,42,51,65,69,77] [24] mixed (hΓ) (zf) call6 func6 rfl ntmps6 rfl Zk Zs (by simp[push_cast,zaj]) ?_;by_cases c1:200<q.length
 ·have e1:decide ((200:Int)<q.length)=true:=Yf Zo;rw[Yf c1,Bool.true_or]at hR;simp(disch:=try exact Zq)only[go_sem,e1,hca];exact hR.symm
 have e1:decide ((200:Int)<q.length)=false:=Ye Zo;rw[Ye c1,YaB]at hR;by_cases c2:1000<AW
 ·have e2:decide ((1000:Int)<AW)=true:=Yf c2;rw[e2,Bool.true_or]at hR;simp(disch:=try exact Zq)only[go_sem,e1,e2,hca];exact hR.symm
 have e2:decide ((1000:Int)<AW)=false:=Ye c2;rw[e2,YaB]at hR;by_cases c3:900<l.length
 ·have e3:decide ((900:Int)<l.length)=true:=Yf Zo;rw[Yf c3,Bool.true_or]at hR;simp(disch:=try exact Zq)only[go_sem,e1,e2,e3,hca];exact hR.symm
 have e3:decide ((900:Int)<l.length)=false:=Ye Zo;rw[Ye c3,YaB]at hR;by_cases c4:60<t.length
 ·have e4:decide ((60:Int)<t.length)=true:=Yf Zo;rw[Yf c4,Bool.true_or]at hR;simp(disch:=try exact Zq)only[go_sem,e1,e2,e3,e4,hca];exact hR.symm
 have e4:decide ((60:Int)<t.length)=false:=Ye Zo;rw[Ye c4,YaB]at hR;simp(disch:=try exact Zq)only[go_sem,e1,e2,e3,e4,hca];refine AXs.loop mixed (hΓ) (zf) (ι:=Nat) (fun i=>[(5,.int .i64 i),(2,.fp [.int .i64 k,.int .i64 s,.str l,.fs (stas q) q.length]),(1,.fs (strs t) t.length)]) (fun _=>⟨[],0⟩) (fun i=>i≤q.length∧∀j,j<i→zkt (nthQ q j)=false) (fun i=>q.length-i) 0 Zk ⟨Yk _,fun j hj=>absurd hj (Ybf _)⟩ (Xa [] rfl rfl ?_ ?_) ?_
 ·simp only[go_sem]
 ·simp only[go_sem]
 rintro i ⟨g1,g2⟩;by_cases hi:i<q.length
 ·have d0:decide ((i:Int)<q.length)=true:=Yf Zo;have at1:=zbU q i hi;have hsm:nthQ q i∈q:=staR.nth_mem hi;have hl:=h2 _ hsm;have hf:=h5 _ hsm;have hw6:=h6 _ hsm;have hany:=fun hp=>any_nth (p:=zkt) hi hp;have ei:(i:Int)+1=((i+1:Nat):Int):=Zo;generalize hst:nthQ q i=st at*;obtain⟨F,A⟩:=st;dsimp only at at1 hl hf hw6;by_cases c5:900<F.length
  ·have e5:decide ((900:Int)<F.length)=true:=Yf Zo;rw[hany (by unfold zkt;rw[Yf c5];rfl),Bool.true_or]at hR;subst hR;simp(disch:=try exact Zq)only[go_sem,d0,at1,e5];exact⟨Zo,Zo⟩
  have e5:decide ((900:Int)<F.length)=false:=Ye Zo;simp(disch:=try exact Zq)only[go_sem,d0,at1,e5];have atS:(stas q).drop (i*2)=.str F::.fs (arcs A) A.length::stas (q.drop (i+1)):=at1;refine⟨⟨Zo,Zo⟩,?_⟩;refine AXs.loop mixed (hΓ) (zf) (ι:=Nat) (fun j=>[(6,.int .i64 j),(5,.int .i64 i),(2,.fp [.int .i64 k,.int .i64 s,.str l,.fs (stas q) q.length]),(1,.fs (strs t) t.length)]) (fun _=>⟨[],0⟩) (fun j=>j≤A.length∧∀x,x<j→decide (900<(nthA A x).w.length)=false) (fun j=>A.length-j) 0 Zk ⟨Yk _,fun j hj=>absurd hj (Ybf _)⟩ (Xa [] rfl rfl ?_ ?_) ?_
  ·simp only[go_sem]
  ·simp only[go_sem]
  rintro j ⟨p1,p2⟩;by_cases hj:j<A.length
  ·have d2:decide ((j:Int)<A.length)=true:=Yf Zo;have at2:=zbL A j hj;have ham:nthA A j∈A:=arcR.nth_mem hj;have hwl:=hw6 _ ham;have ej:(j:Int)+1=((j+1:Nat):Int):=Zo;have hany2:decide (900<(nthA A j).w.length)=true→(A.any fun a=>decide (900<a.w.length))=true:=fun hp=>List.any_eq_true.2 ⟨_,ham,hp⟩;generalize hax:nthA A j=ax at at2 hwl hany2;by_cases c6:900<ax.w.length
   ·have e6:decide ((900:Int)<ax.w.length)=true:=Yf Zo;rw[hany (by unfold zkt;rw[hany2 (Yf c6),Ycv]),Bool.true_or]at hR;subst hR;simp(disch:=try exact Zq)only[go_sem,d0,atS,d2,at2,e6];exact⟨⟨Zo,Zo⟩,Zo,⟨Zo,Zo⟩,Zo,Zo,Zo⟩
   have e6:decide ((900:Int)<ax.w.length)=false:=Ye Zo;simp(disch:=try exact Zq)only[go_sem,d0,atS,d2,at2,e6,ej];refine⟨⟨Zo,Zo⟩,Zo,⟨Zo,Zo⟩,Zo,⟨Zo,Zo⟩,zi (j+1) ⟨hj,fun x hx=>?_⟩ (by show A.length-(j+1)<A.length-j;omega) (Xa [] rfl rfl Zg Zg)⟩;rcases YaX x j with h|h
   ·exact p2 x h
   obtain rfl:x=j:=by have:x<j+1:=hx;omega
   rw[hax];exact Ye c6
  obtain rfl:j=A.length:=Zo;have d2:decide ((A.length:Int)<A.length)=false:=Ye Zo;have hst2:zkt ⟨F,A⟩=false:=by unfold zkt;rw[Ye c5,YaB];exact zBe p2
  simp(disch:=try exact Zq)only[go_sem,d0,atS,d2];refine⟨⟨Zo,Zo⟩,Zo,?_⟩;refine AXa.go mixed (hΓ) (zf) Zk ?_;simp(disch:=try exact Zq)only[go_sem,ei];refine zi (i+1) ⟨hi,fun x hx=>?_⟩ (by show q.length-(i+1)<q.length-i;omega) (Xa [] rfl rfl Zg Zg);rcases YaX x i with h|h
  ·exact g2 x h
  obtain rfl:x=i:=by have:x<i+1:=hx;omega
  rw[hst];exact hst2
 obtain rfl:i=q.length:=Zo;have d0:decide ((q.length:Int)<q.length)=false:=Ye Zo;rw[any_none g2,YaB]at hR;simp(disch:=try exact Zq)only[go_sem,d0];refine AXa.go mixed (hΓ) (zf) Zk ?_;simp(disch:=try exact Zq)only[go_sem];refine AXs.loop mixed (hΓ) (zf) (ι:=Nat) (fun i=>[(7,.int .i64 i),(1,.fs (strs t) t.length)]) (fun _=>⟨[],0⟩) (fun i=>i≤t.length∧∀j,j<i→¬60<(t.getD j []).length) (fun i=>t.length-i) 0 Zk ⟨Yk _,fun j hj=>absurd hj (Ybf _)⟩ (Xa [] rfl rfl ?_ ?_) ?_
 ·simp only[go_sem]
 ·simp only[go_sem]
 rintro i ⟨p1,p2⟩;by_cases hi:i<t.length
 ·have d2:decide ((i:Int)<t.length)=true:=Yf Zo;have hm:t.getD i []∈t:=getD_mem hi;have h7i:=h7 i;have ei:(i:Int)+1=((i+1:Nat):Int):=Zo;have hany2:decide (60<(t.getD i []).length)=true→(t.any fun x=>decide (60<x.length))=true:=fun hp=>List.any_eq_true.2 ⟨_,hm,hp⟩;generalize hx:t.getD i []=x at hany2 h7i;by_cases c6:60<x.length
  ·have e6:decide ((60:Int)<x.length)=true:=Yf Zo;rw[hany2 (Yf c6)]at hR;subst hR;simp(disch:=try exact Zq)only[go_sem,d2,hx,e6];exact⟨⟨Zo,Zo⟩,Zo⟩
  have e6:decide ((60:Int)<x.length)=false:=Ye Zo;simp(disch:=try exact Zq)only[go_sem,d2,hx,e6,ei];refine⟨⟨Zo,Zo⟩,Zo,zi (i+1) ⟨hi,fun y hy=>?_⟩ (by show t.length-(i+1)<t.length-i;omega) (Xa [] rfl rfl Zg Zg)⟩;rcases YaX y i with h|h
  ·exact p2 y h
  obtain rfl:y=i:=by have:y<i+1:=hy;omega
  rw[hx];exact c6
 obtain rfl:i=t.length:=Zo;have d2:decide ((t.length:Int)<t.length)=false:=Ye Zo;have hno:(t.any fun x=>decide (60<x.length))=false:=by rw[List.any_eq_false];intro x hx;obtain⟨j,hj,rfl⟩:=Yaw.1 hx;have:=p2 j hj;rw[show t.getD j []=t[j]by simp[hj]]at this;simpa using this
 rw[hno]at hR;subst hR;simp(disch:=try exact Zq)only[go_sem,d2];refine AXa.go mixed (hΓ) (zf) Zk ?_;simp(disch:=try exact Zq)only[go_sem]
def zfN(l:ZL)(n:Nat)(H:Hp)(hn:n=l.length):zcy prog 28 9 (.fs (l.map zt) n) H=⟨True,.str l,H,[],[]⟩:=by subst hn;exact zeI 28 9 5 _ (l.map zt) l.length [] l Zk Zk Zk (by simp[zaK]) (zlQ l)
structure InP(m:Mach)(t:List Str):Prop where
 q:m.q.length≤1000000000000000
 a:∀s∈m.q,s.a.length≤1000000000000000
 tl:t.length≤1000000000000000
 l:m.l.length≤1000000000000000
 f:∀s∈m.q,s.f.length≤1000000000000000
 w:∀s∈m.q,∀a∈s.a,a.w.length≤1000000000000000
 ts:∀j,(t.getD j []).length≤1000000000000000
def cLarge:ZV:=zC (fun p:Mach×List Str=>[zU p.1,.fs (strs p.2) p.2.length]) (fun p=>InP p.1 p.2) fun p=>.ret (.bool (bigB p.1 p.2))
def zAs(m:Mach)(t:List Str)(h:InP m t):cLarge [zU m,.fs (strs t) t.length]=some (.ret (.bool (bigB m t))):=
 zo (pat:=fun p:Mach×List Str=>[zU p.1,V.fs (strs p.2) p.2.length]) (fun x y h=>by simp only[Yw,V.fs.injEq,Yap]at h;exact Yai (zbD h.1) (za1 h.2.1)) (m,t) h
def zAr:ZC cLarge 6:=zn fun p h=>large_ok p.1 p.2 h.q h.a h.tl h.l h.f h.w h.ts
def zvB(q:List Sta)(h1:q.length≤200)(h2:∀s∈q,s.a.length≤1000000000000000):arcW q=(arcN q:Nat):=by
 have key:∀i,i≤q.length→arcW (q.take i)=(sumA q i:Nat)∧sumA q i≤1000000000000000*i:=by
  intro i;induction i with
  |zero=>intro _;exact⟨by simp[arcW,sumA,arcN],by simp[sumA,arcN]⟩
  |succ i ih=>intro h;obtain⟨h3,h4⟩:=ih Zo;have h5:=h2 _ (staR.nth_mem (show i<q.length by omega));have h6:=zde q i Zo;have h5':(nthQ q i).a.length≤1000000000000000:=h5;refine⟨?_,Zo⟩;rw[zon q i Zo,h3,h6,wrap_i64 _ Zo Zo];omega
 have:=(key q.length (Yc _)).1;rw[Ym,zaM]at this;exact this
def zss {m:Mach}{t:List Str}(h:InP m t)(hb:bigB m t=false):PackOK m t:=by
 unfold bigB at hb;simp only[YbK,Yay]at hb;obtain⟨b1,b2,b3,b4,b5,b6⟩:=hb;have ha:=zvB m.q Zo h.a;have hn:arcN m.q≤1000:=Zo;have hs:∀s∈m.q,s.f.length≤900∧∀a∈s.a,a.w.length≤900:=fun s hs=>by have:=List.any_eq_false.1 b5 s hs;unfold zkt at this;simp only[Yao,Yq,not_or,List.any_eq_true,not_exists,not_and]at this;exact⟨Zo,fun a ha=>by have:=this.2 a ha;omega⟩
 have htl:∀x∈t,x.length≤60:=fun x hx=>by have:=List.any_eq_false.1 b6 x hx;simp only[Yq]at this;omega
 refine⟨⟨Zo,fun s h=>by have:=zdV h;omega,Zo,fun s h=>by have:=(hs s h).1;omega,fun s h a ha=>by have:=(hs s h).2 a ha;omega⟩,Zo,fun j=>?_,fun w hw=>?_⟩
 ·rw[Ya];by_cases hj:j<t.length
  ·rw[Yb hj];have:=htl _ (Y6 hj);simp only[YbP];omega
  rw[Yr Zo];simp
 unfold wtsM at hw;rcases Yy.1 hw with rfl|hw
 ·omega
 obtain⟨s,hs1,hw⟩:=Ya5.1 hw;unfold wtsS at hw;rcases Yar.1 hw with hw|hw
 ·split at hw
  ·cases hw
  rw[YW.1 hw];have:=(hs s hs1).1;omega
 obtain⟨a,ha1,rfl⟩:=Yab.1 hw;have:=(hs s hs1).2 a ha1;omega
def cAwk:ZV:=zC (fun _:Unit=>[]) (fun _=>True) fun _=>.ret (.bool true)
def zAz:cAwk []=some (.ret (.bool true)):=zo (pat:=fun _:Unit=>([]:ZA)) (fun _ _ _=>rfl) () trivial
def cAwk_ok(h:PCall prog 7 [] (.ret (.bool true))):ZC cAwk 7:=zn fun _ _=>h
def zAE(hA:PCall prog 7 [] (.ret (.bool true)))(m:Mach)(t:List Str)(h:InP m t):PCall prog 3 [zU m,.fs (strs t) t.length] (.ret (.bool true)):=by
 have hΓ:=zg zAr (zg zlJ (zg zzV (zg (cAwk_ok hA) zh)));have h1:=zAs m t h;have hbp:=zss h;cases hb:bigB m t with
 |true=>rw[hb]at h1;unfold zU at h1 ⊢;refine PCall.walk (rs:=[.tmp 4]) [0,1,2,4,5,6,7,8,11] [24] mixed (hΓ) (zf) call3 func3 rfl ntmps3 rfl Zk Zs (by simp[push_cast,zaj]) ?_;simp(disch:=try exact Zq)only[go_sem,h1,zAz]
 |false=>rw[hb]at h1;have h2:=zlK m t (hbp hb);have h3:=zzW m t (hbp hb);generalize zfw m t=R at*;obtain⟨B,E⟩:=R;unfold byR at h2 h3;dsimp only at h2 h3;unfold zU at h1 h2 h3 ⊢;have hcv:=fun H=>zfN B B.length H rfl;refine PCall.walk (rs:=[.tmp 4]) [0,1,2,4,5,6,7,8,11] [24] mixed (hΓ) (zf) call3 func3 rfl ntmps3 rfl Zk Zs (by simp[push_cast,zaj]) ?_;simp(disch:=try exact Zq)only[go_sem,h1,h2,h3,zAz,hcv]
end Go.Proofs
