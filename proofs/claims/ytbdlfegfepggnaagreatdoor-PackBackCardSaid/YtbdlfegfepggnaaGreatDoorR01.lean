/- The reference's letters. -/
import Derived.Test.YtbdlfegfepggnaaGreatDoorAbMapS
set_option linter.all false
set_option maxHeartbeats 16000000
set_option maxRecDepth 100000
noncomputable section
namespace Go.Proofs
open Tryz Go.Ab Go.Pl
def atN(s:ZL)(i:Nat):Nat:=(s.getD i 0).toNat
def zdo(s:ZL)(i:Nat):atN s i<256:=(s.getD i 0).toNat_lt
def at_ok(s:ZL)(i:Nat)(h:s.length≤1000000000)(hi:i≤1000000010):PCall prog 137 [.str s,.int .i64 i] (.ret (.int .i64 (atN s i:Nat))):=by
 refine Xa (rs:=[.tmp 4]) [0,1,4,8] [] mixed (zh) (zg) call137 func137 rfl ntmps137 rfl ?_;by_cases hl:i<s.length
 ·have d:decide ((i:Int)<s.length)=true:=Yf Zo;simp(disch:=try exact Zq)only[go_sem,d];have hb:=(s.getD i 0).toNat_lt;exact⟨Zo,wrap_i64 _ Zo Zo⟩
 have d:decide ((i:Int)<s.length)=false:=Yd Zo;have e:atN s i=0:=by unfold atN;rw[Ya,Yo Zo];rfl
 rw[e];simp(disch:=try exact Zq)only[go_sem,d]
def cAt1:ZV:=zL (fun p:ZL×Nat=>[.str p.1,.int .i64 p.2]) (fun p=>p.1.length≤1000000000∧p.2≤1000000010) fun p=>.ret (.int .i64 (atN p.1 p.2:Nat))
def zex(s:ZL)(i:Nat)(h:s.length≤1000000000)(hi:i≤1000000010):cAt1 [.str s,.int .i64 i]=some (.ret (.int .i64 (atN s i:Nat))):=zo (pat:=fun p:ZL×Nat=>[V.str p.1,.int .i64 p.2]) (fun x y h=>by simp only[Yt,V.str.injEq,V.int.injEq,Yag,Yad]at h;exact YaC h.1 Zo) (s,i) ⟨h,hi⟩
def zxV:ZC cAt1 137:=zn fun p h=>at_ok p.1 p.2 h.1 h.2
def moN(s:ZL)(i:Nat):Bool:=decide (128≤atN s i)&&decide (atN s i<192)
def more_ok(s:ZL)(i:Nat)(h:s.length≤1000000000)(hi:i≤1000000010):PCall prog 138 [.str s,.int .i64 i] (.ret (.bool (moN s i))):=by
 refine Xa (rs:=[.tmp 4]) [0,1,4] [] mixed (zf zxV zh) (zg) call138 func138 rfl ntmps138 rfl ?_;unfold moN;by_cases h1:128≤atN s i
 ·have d:decide ((128:Int)≤(atN s i:Nat))=true:=Yf Zo;rw[Yf h1];by_cases h2:atN s i<192
  ·have d2:decide (((atN s i:Nat):Int)<192)=true:=Yf Zo;rw[Yf h2];simp(disch:=try exact Zq)only[go_sem,zex,d,d2]
  have d2:decide (((atN s i:Nat):Int)<192)=false:=Yd Zo;rw[Yd h2];simp(disch:=try exact Zq)only[go_sem,zex,d,d2]
 have d:decide ((128:Int)≤(atN s i:Nat))=false:=Yd Zo;rw[Yd h1];simp(disch:=try exact Zq)only[go_sem,zex,d]
def cMo1:ZV:=zL (fun p:ZL×Nat=>[.str p.1,.int .i64 p.2]) (fun p=>p.1.length≤1000000000∧p.2≤1000000010) fun p=>.ret (.bool (moN p.1 p.2))
def zox(s:ZL)(i:Nat)(h:s.length≤1000000000)(hi:i≤1000000010):cMo1 [.str s,.int .i64 i]=some (.ret (.bool (moN s i))):=zo (pat:=fun p:ZL×Nat=>[V.str p.1,.int .i64 p.2]) (fun x y h=>by simp only[Yt,V.str.injEq,V.int.injEq,Yag,Yad]at h;exact YaC h.1 Zo) (s,i) ⟨h,hi⟩
def cMo1_ok:ZC cMo1 138:=zn fun p h=>more_ok p.1 p.2 h.1 h.2
def pp2(a b:Nat):Nat:=(a-192)*64+b-128
def pp3(a b c:Nat):Nat:=(a-224)*4096+(b-128)*64+(c-128)
def pp4(a b c e:Nat):Nat:=(a-240)*262144+(b-128)*4096+(c-128)*64+(e-128)
def ptV(s:ZL)(i:Nat):Nat×Nat:=
 if s.length≤i then(0,0)else
 if atN s i<128 then(atN s i,1)else
 if 192≤atN s i∧atN s i<224 then(if moN s (i+1)=true∧128≤pp2 (atN s i) (atN s (i+1))then(pp2 (atN s i) (atN s (i+1)),2)else(0,0))else
 if 224≤atN s i∧atN s i<240 then(if moN s (i+1)=true∧moN s (i+2)=true∧(2048≤pp3 (atN s i) (atN s (i+1)) (atN s (i+2))∧(pp3 (atN s i) (atN s (i+1)) (atN s (i+2))<55296∨57343<pp3 (atN s i) (atN s (i+1)) (atN s (i+2))))
  then(pp3 (atN s i) (atN s (i+1)) (atN s (i+2)),3)else(0,0))else
 if 240≤atN s i∧atN s i<248 then(if moN s (i+1)=true∧moN s (i+2)=true∧moN s (i+3)=true∧(65536≤pp4 (atN s i) (atN s (i+1)) (atN s (i+2)) (atN s (i+3))∧pp4 (atN s i) (atN s (i+1)) (atN s (i+2)) (atN s (i+3))≤1114111)
  then(pp4 (atN s i) (atN s (i+1)) (atN s (i+2)) (atN s (i+3)),4)else(0,0))else(0,0)
def get_at(s:ZL)(i:Nat):((⟨s.toArray⟩:ByteArray).get! i).toNat=atN s i:=by show (s.toArray[i]!).toNat=_;unfold atN;simp[List.getElem!_eq_getElem?_getD];rfl
def at_end(s:ZL)(i:Nat)(h:s.length≤i):atN s i=0:=by unfold atN;rw[Ya,Yo h];rfl
def zuR(s:ZL)(i:Nat)(h:i<s.length):(ptV s i).2=if okP (dec8 s i)=true then(dec8 s i).2 else 0:=by
 have hz:(⟨s.toArray⟩:ByteArray).size=s.length:=by show s.toArray.size=_;simp
 have a0:=zdo s i;have a1:=zdo s (i+1);have a2:=zdo s (i+2);have a3:=zdo s (i+3);have m1:s.length≤i+1→atN s (i+1)=0:=at_end s (i+1);have m2:s.length≤i+2→atN s (i+2)=0:=at_end s (i+2);have m3:s.length≤i+3→atN s (i+3)=0:=at_end s (i+3);unfold dec8;rw[Lib.decode_at,hz,get_at,get_at,get_at,get_at];unfold ptV moN okP Lib.decodeN pp2 pp3 pp4;generalize atN s i=a at*;generalize atN s (i+1)=b at*;generalize atN s (i+2)=c at*;generalize atN s (i+3)=d at*;simp only[Yj,Yaj,Yn,YaV];rw[Ye Zo];repeat' split
 all_goals (try simp_all)
 all_goals (try omega)
def mo_b {s:ZL}{i:Nat}(h:moN s i=true):128≤atN s i∧atN s i<192:=by unfold moN at h;simpa using h
def point_ok(s:ZL)(i:Nat)(h:s.length≤1000000000)(hi:i≤1000000000):PCall prog 114 [.str s,.int .i64 i] (.ret (.tup [.int .i64 ((ptV s i).1:Nat),.int .i64 ((ptV s i).2:Nat)])):=by
 have hΓ:=zf zxV (zf cMo1_ok zh);have a0:=zdo s i;have a1:=zdo s (i+1);have a2:=zdo s (i+2);have a3:=zdo s (i+3);have c1:cAt1 [.str s,.int .i64 ((i:Int)+1)]=some (.ret (.int .i64 (atN s (i+1):Nat))):=zex s (i+1) h Zo;have c2:cAt1 [.str s,.int .i64 ((i:Int)+2)]=some (.ret (.int .i64 (atN s (i+2):Nat))):=zex s (i+2) h Zo;have c3:cAt1 [.str s,.int .i64 ((i:Int)+3)]=some (.ret (.int .i64 (atN s (i+3):Nat))):=zex s (i+3) h Zo;have f1:cMo1 [.str s,.int .i64 ((i:Int)+1)]=some (.ret (.bool (moN s (i+1)))):=zox s (i+1) h Zo;have f2:cMo1 [.str s,.int .i64 ((i:Int)+2)]=some (.ret (.bool (moN s (i+2)))):=zox s (i+2) h Zo;have f3:cMo1 [.str s,.int .i64 ((i:Int)+3)]=some (.ret (.bool (moN s (i+3)))):=zox s (i+3) h Zo;have c0:cAt1 [.str s,.int .i64 i]=some (.ret (.int .i64 (atN s i:Nat))):=zex s i h Zo;obtain⟨R,hR⟩:∃R,R=ptV s i:=⟨_,rfl⟩;rw[←hR];unfold ptV at hR;refine Xa (rs:=[.tmp 4,.tmp 5]) [0,1,4,5,6,7,8,9,16,18,31,42,61,87,112,141] [] mixed (hΓ) (zg) call114 func114 rfl ntmps114 rfl ?_;by_cases h0:s.length≤i
 ·have d:decide ((s.length:Int)≤i)=true:=Yf Zo;rw[Yi h0]at hR;subst hR;simp(disch:=try exact Zq)only[go_sem,c0,d]
 have d0:decide ((s.length:Int)≤i)=false:=Yd Zo;rw[Ye h0]at hR;by_cases h1:atN s i<128
 ·have d:decide (((atN s i:Nat):Int)<128)=true:=Yf Zo;rw[Yi h1]at hR;subst hR;simp(disch:=try exact Zq)only[go_sem,c0,d0,d]
 have d1:decide (((atN s i:Nat):Int)<128)=false:=Yd Zo;rw[Ye h1]at hR;have b1:moN s (i+1)=true→128≤atN s (i+1)∧atN s (i+1)<192:=mo_b;have b2:moN s (i+2)=true→128≤atN s (i+2)∧atN s (i+2)<192:=mo_b;have b3:moN s (i+3)=true→128≤atN s (i+3)∧atN s (i+3)<192:=mo_b;generalize moN s (i+1)=M1 at*;generalize moN s (i+2)=M2 at*;generalize moN s (i+3)=M3 at*;generalize atN s i=a at*;generalize atN s (i+1)=b at*;generalize atN s (i+2)=c at*;generalize atN s (i+3)=e at*;by_cases h2:192≤a;rotate_left
 ·have dA:decide ((192:Int)≤(a:Nat))=false:=Yd Zo;have dB:decide ((224:Int)≤(a:Nat))=false:=Yd Zo;have dC:decide ((240:Int)≤(a:Nat))=false:=Yd Zo;rw[Ye Zo,Ye Zo,Ye Zo]at hR;subst hR;simp(disch:=try exact Zq)only[go_sem,c0,c1,c2,c3,f1,f2,f3,d0,d1,dA,dB,dC]
 have dA:decide ((192:Int)≤(a:Nat))=true:=Yf Zo;by_cases h3:a<224
 ·have dA':decide (((a:Nat):Int)<224)=true:=Yf Zo;have dB:decide ((224:Int)≤(a:Nat))=false:=Yd Zo;have dC:decide ((240:Int)≤(a:Nat))=false:=Yd Zo;rw[Yi ⟨h2,h3⟩]at hR;by_cases m1:M1=true
  ·obtain⟨b1,b1'⟩:=b1 m1;obtain⟨x,hx,vx⟩:∃x:Nat,((a:Int)-192)*64=(x:Nat)∧x=(a-192)*64:=⟨_,Zo,rfl⟩;obtain⟨w,hw⟩:∃w:Nat,(x:Int)+(b:Nat)=(w:Nat):=⟨x+b,Zo⟩;have e2:(w:Int)-128=(pp2 a b:Nat):=by unfold pp2;omega
   have v2:pp2 a b<3000:=by unfold pp2;omega
   have v3:x<3000:=Zo;clear vx;generalize pp2 a b=p at*;by_cases p1:128≤p
   ·rw[Yi ⟨m1,p1⟩]at hR;have q1:decide ((128:Int)≤(p:Nat))=true:=Yf Zo;subst m1;subst hR;simp(config:={ implicitDefEqProofs:=false }) (disch:=try exact Zq)only[go_sem,c0,c1,c2,c3,f1,f2,f3,d0,d1,dA,dA',dB,dC,hx,hw,e2,q1]
   rw[Ye (fun h=>p1 h.2)]at hR;have q1:decide ((128:Int)≤(p:Nat))=false:=Yd Zo;subst m1;subst hR;simp(config:={ implicitDefEqProofs:=false }) (disch:=try exact Zq)only[go_sem,c0,c1,c2,c3,f1,f2,f3,d0,d1,dA,dA',dB,dC,hx,hw,e2,q1]
  have m1':M1=false:=by simpa using m1
  rw[Ye (fun h=>m1 h.1)]at hR;subst m1';subst hR;simp(disch:=try exact Zq)only[go_sem,c0,c1,c2,c3,f1,f2,f3,d0,d1,dA,dA',dB,dC]
 have dA':decide (((a:Nat):Int)<224)=false:=Yd Zo;have dB:decide ((224:Int)≤(a:Nat))=true:=Yf Zo;rw[Ye (fun h=>h3 h.2)]at hR;by_cases h4:a<240
 ·have dB':decide (((a:Nat):Int)<240)=true:=Yf Zo;have dC:decide ((240:Int)≤(a:Nat))=false:=Yd Zo;rw[Yi ⟨Zo,h4⟩]at hR;by_cases m1:M1=true;rotate_left
  ·have m1':M1=false:=by simpa using m1
   rw[Ye (fun h=>m1 h.1)]at hR;subst m1';subst hR;simp(disch:=try exact Zq)only[go_sem,c0,c1,c2,c3,f1,f2,f3,d0,d1,dA,dA',dB,dB',dC]
  by_cases m2:M2=true;rotate_left
  ·have m2':M2=false:=by simpa using m2
   rw[Ye (fun h=>m2 h.2.1)]at hR;subst m1 m2';subst hR;simp(disch:=try exact Zq)only[go_sem,c0,c1,c2,c3,f1,f2,f3,d0,d1,dA,dA',dB,dB',dC]
  obtain⟨b1,b1'⟩:=b1 m1;obtain⟨b2,b2'⟩:=b2 m2;obtain⟨x,hx,vx⟩:∃x:Nat,((a:Int)-224)*4096=(x:Nat)∧x=(a-224)*4096:=⟨_,Zo,rfl⟩;obtain⟨y,hy,vy⟩:∃y:Nat,((b:Int)-128)*64=(y:Nat)∧y=(b-128)*64:=⟨_,Zo,rfl⟩;have e2:(x:Int)+(y:Nat)+(c:Nat)-128=(pp3 a b c:Nat):=by unfold pp3;omega
  have v2:pp3 a b c<70000:=by unfold pp3;omega
  have v3:x<70000:=Zo;have v4:y<5000:=Zo;clear vx vy;generalize pp3 a b c=p at*;by_cases p1:2048≤p;rotate_left
  ·rw[Ye (fun h=>p1 h.2.2.1)]at hR;have q1:decide ((2048:Int)≤(p:Nat))=false:=Yd Zo;subst m1 m2;subst hR;simp(disch:=try exact Zq)only[go_sem,c0,c1,c2,c3,f1,f2,f3,d0,d1,dA,dA',dB,dB',dC,hx,hy,e2,q1]
  have q1:decide ((2048:Int)≤(p:Nat))=true:=Yf Zo;by_cases p2:p<55296
  ·rw[Yi ⟨m1,m2,p1,.inl p2⟩]at hR;have q2:decide (((p:Nat):Int)<55296)=true:=Yf Zo;subst m1 m2;subst hR;simp(disch:=try exact Zq)only[go_sem,c0,c1,c2,c3,f1,f2,f3,d0,d1,dA,dA',dB,dB',dC,hx,hy,e2,q1,q2]
  have q2:decide (((p:Nat):Int)<55296)=false:=Yd Zo;by_cases p3:57343<p
  ·rw[Yi ⟨m1,m2,p1,.inr p3⟩]at hR;have q3:decide ((57343:Int)<(p:Nat))=true:=Yf Zo;subst m1 m2;subst hR;simp(disch:=try exact Zq)only[go_sem,c0,c1,c2,c3,f1,f2,f3,d0,d1,dA,dA',dB,dB',dC,hx,hy,e2,q1,q2,q3]
  rw[Ye (fun h=>h.2.2.2.elim p2 p3)]at hR;have q3:decide ((57343:Int)<(p:Nat))=false:=Yd Zo;subst m1 m2;subst hR;simp(disch:=try exact Zq)only[go_sem,c0,c1,c2,c3,f1,f2,f3,d0,d1,dA,dA',dB,dB',dC,hx,hy,e2,q1,q2,q3]
 have dB':decide (((a:Nat):Int)<240)=false:=Yd Zo;have dC:decide ((240:Int)≤(a:Nat))=true:=Yf Zo;rw[Ye (fun h=>h4 h.2)]at hR;by_cases h5:a<248;rotate_left
 ·have dC':decide (((a:Nat):Int)<248)=false:=Yd Zo;rw[Ye (fun h=>h5 h.2)]at hR;subst hR;simp(disch:=try exact Zq)only[go_sem,c0,c1,c2,c3,f1,f2,f3,d0,d1,dA,dA',dB,dB',dC,dC']
 have dC':decide (((a:Nat):Int)<248)=true:=Yf Zo;rw[Yi ⟨Zo,h5⟩]at hR;by_cases m1:M1=true;rotate_left
 ·have m1':M1=false:=by simpa using m1
  rw[Ye (fun h=>m1 h.1)]at hR;subst m1';subst hR;simp(disch:=try exact Zq)only[go_sem,c0,c1,c2,c3,f1,f2,f3,d0,d1,dA,dA',dB,dB',dC,dC']
 by_cases m2:M2=true;rotate_left
 ·have m2':M2=false:=by simpa using m2
  rw[Ye (fun h=>m2 h.2.1)]at hR;subst m1 m2';subst hR;simp(disch:=try exact Zq)only[go_sem,c0,c1,c2,c3,f1,f2,f3,d0,d1,dA,dA',dB,dB',dC,dC']
 by_cases m3:M3=true;rotate_left
 ·have m3':M3=false:=by simpa using m3
  rw[Ye (fun h=>m3 h.2.2.1)]at hR;subst m1 m2 m3';subst hR;simp(disch:=try exact Zq)only[go_sem,c0,c1,c2,c3,f1,f2,f3,d0,d1,dA,dA',dB,dB',dC,dC']
 obtain⟨b1,b1'⟩:=b1 m1;obtain⟨b2,b2'⟩:=b2 m2;obtain⟨b3,b3'⟩:=b3 m3;obtain⟨x,hx,vx⟩:∃x:Nat,((a:Int)-240)*262144=(x:Nat)∧x=(a-240)*262144:=⟨_,Zo,rfl⟩;obtain⟨y,hy,vy⟩:∃y:Nat,((b:Int)-128)*4096=(y:Nat)∧y=(b-128)*4096:=⟨_,Zo,rfl⟩;obtain⟨z,hz,vz⟩:∃z:Nat,((c:Int)-128)*64=(z:Nat)∧z=(c-128)*64:=⟨_,Zo,rfl⟩;have e2:(x:Int)+(y:Nat)+(z:Nat)+(e:Nat)-128=(pp4 a b c e:Nat):=by unfold pp4;omega
 have v2:pp4 a b c e<3000000:=by unfold pp4;omega
 have v3:x<3000000:=Zo;have v4:y<3000000:=Zo;have v5:z<5000:=Zo;clear vx vy vz;generalize pp4 a b c e=p at*;by_cases p1:65536≤p;rotate_left
 ·rw[Ye (fun h=>p1 h.2.2.2.1)]at hR;have q1:decide ((65536:Int)≤(p:Nat))=false:=Yd Zo;subst m1 m2 m3;subst hR;simp(disch:=try exact Zq)only[go_sem,c0,c1,c2,c3,f1,f2,f3,d0,d1,dA,dA',dB,dB',dC,dC',hx,hy,hz,e2,q1]
 have q1:decide ((65536:Int)≤(p:Nat))=true:=Yf Zo;by_cases p2:p≤1114111
 ·rw[Yi ⟨m1,m2,m3,p1,p2⟩]at hR;have q2:decide (((p:Nat):Int)≤1114111)=true:=Yf Zo;subst m1 m2 m3;subst hR;simp(disch:=try exact Zq)only[go_sem,c0,c1,c2,c3,f1,f2,f3,d0,d1,dA,dA',dB,dB',dC,dC',hx,hy,hz,e2,q1,q2]
 rw[Ye (fun h=>p2 h.2.2.2.2)]at hR;have q2:decide (((p:Nat):Int)≤1114111)=false:=Yd Zo;subst m1 m2 m3;subst hR;simp(disch:=try exact Zq)only[go_sem,c0,c1,c2,c3,f1,f2,f3,d0,d1,dA,dA',dB,dB',dC,dC',hx,hy,hz,e2,q1,q2]
end Go.Proofs

namespace Go.Proofs
open Tryz Go.Ab Go.Pl Go.Cnt
def ptV_b(s:ZL)(i:Nat):(ptV s i).1<3000000∧(ptV s i).2≤4:=by
 have a0:=zdo s i;have a1:=zdo s (i+1);have a2:=zdo s (i+2);have a3:=zdo s (i+3);unfold ptV pp2 pp3 pp4;generalize atN s i=a at*;generalize atN s (i+1)=b at*;generalize atN s (i+2)=c at*;generalize atN s (i+3)=d at*;repeat' split
 all_goals (refine⟨?_,?_⟩<;>simp only<;>omega)
def zxq:ZV:=zL (fun p:ZL×Nat=>[.str p.1,.int .i64 p.2]) (fun p=>p.1.length≤1000000000∧p.2≤1000000000) fun p=>.ret (.tup [.int .i64 ((ptV p.1 p.2).1:Nat),.int .i64 ((ptV p.1 p.2).2:Nat)])
def zhC(s:ZL)(i:Nat)(h:s.length≤1000000000)(hi:i≤1000000000):zxq [.str s,.int .i64 i]=some (.ret (.tup [.int .i64 ((ptV s i).1:Nat),.int .i64 ((ptV s i).2:Nat)])):=zo (pat:=fun p:ZL×Nat=>[V.str p.1,.int .i64 p.2]) (fun x y h=>by simp only[Yt,V.str.injEq,V.int.injEq,Yag,Yad]at h;exact YaC h.1 Zo) (s,i) ⟨h,hi⟩
def zdN:ZC zxq 114:=zn fun p h=>point_ok p.1 p.2 h.1 h.2
def ssV(l:List ZL):V:=match l with|[]=>.nilS|_::_=>.sl 0 0 l.length 1 none
def ssB(l:List ZL):ZH:=match l with|[]=>[]|_::_=>[(0,.cells (strs l))]
def ssN(l:List ZL):Nat:=match l with|[]=>0|_::_=>1
def pw(s:ZL)(i:Nat):Nat:=max (ptV s i).2 1
def pcF(s:ZL):Nat→Nat→List ZL
 |0,_=>[]
 |k+1,i=>if i<s.length then(s.take (i+pw s i)).drop i::pcF s k (i+pw s i)else []
def pcF_end(s:ZL)(k i:Nat)(h:¬i<s.length):pcF s k i=[]:=by
 cases k with
 |zero=>rfl
 |succ k=>rw[pcF,Ye h]
def pw_b(s:ZL)(i:Nat)(h:i<s.length):1≤pw s i∧i+pw s i≤s.length∧pw s i≤4:=by have h1:=zuR s i h;obtain⟨h2,h3⟩:=zmi s i h;have h4:=(ptV_b s i).2;unfold pw;split at h1<;>omega
def max_nat(a b:Nat):maxI (a:Int) (b:Int)=((max a b:Nat):Int):=by unfold maxI;split<;>omega
def zuW(s:ZL)(hs:s.length≤100000000):PCall prog 89 [.str s] (.ret (.fs (strs (pcF s s.length 0)) (pcF s s.length 0).length)):=by
 refine Xa (rs:=[.tmp 2]) [0,2,3,4,6,10] [] mixed (zf zdN zh) (zg) call89 func89 rfl ntmps89 rfl ?_;simp only[go_sem];refine AXs.loop mixed (zf zdN zh) (zg) (ι:=Nat×Nat×List ZL) (fun x=>[(4,.int .i64 (x.2.1:Nat)),(3,ssV x.2.2),(0,.str s)]) (fun x=>⟨ssB x.2.2,ssN x.2.2⟩) (fun x=>x.2.1≤s.length∧s.length≤x.2.1+x.1∧x.2.2.length≤x.2.1∧x.2.2++pcF s x.1 x.2.1=pcF s s.length 0) (fun x=>x.1) (s.length,0,[]) Zk ⟨Yk _,by show s.length≤0+s.length;omega,Yk _,rfl⟩ (Xb [] rfl rfl ?_ ?_) ?_
 ·simp(disch:=try exact Zq)only[go_sem,ssV]
 ·simp(disch:=try exact Zq)only[go_sem,ssB,ssN]
 rintro⟨k,i,l⟩ ⟨g1,g2,g3,g4⟩;dsimp only at g1 g2 g3 g4 ⊢;by_cases hp:i<s.length
 ·have d0:decide ((i:Int)<s.length)=true:=Yf Zo;obtain⟨w1,w2,w3⟩:=pw_b s i hp;obtain⟨k,rfl⟩:∃k',k=k'+1:=⟨k-1,Zo⟩;rw[pcF,Yi hp]at g4;have eP:(i:Int)+((pw s i:Nat):Int)=((i+pw s i:Nat):Int):=Zo;have eM:maxI (((ptV s i).2:Nat):Int) 1=((pw s i:Nat):Int):=max_nat _ 1;have eQ:(((i+pw s i:Nat):Int)).toNat=i+pw s i:=Zo;generalize pw s i=w at*;cases l with
  |nil=>
   simp(disch:=try exact Zq)only[go_sem,ssV,ssB,ssN,d0,zhC,eM,eP];refine⟨⟨Zo,Zo,Zo⟩,zi (k,i+w,[(s.take (i+w)).drop i]) ⟨w2,by show s.length≤i+w+k;omega,by show 1≤i+w;omega,g4⟩ (by show k<k+1;omega) (Xb [(0,1)] rfl rfl ?_ ?_)⟩
   ·simp(disch:=try exact Zq)only[go_sem,ssV]
   simp(disch:=try exact Zq)only[go_sem,ssB,ssN];rfl
  |cons a l=>
   have g5:l.length+1≤i:=g3;simp(disch:=try exact Zq)only[go_sem,ssV,ssB,ssN,d0,zhC,eM,eP,Ym];refine⟨⟨Zo,Zo,Zo⟩,⟨Zo,Zo⟩,zi (k,i+w,a::l++[(s.take (i+w)).drop i]) ⟨w2,by show s.length≤i+w+k;omega,by show (a::l++[_]).length≤i+w;simp;omega,by show (a::l++[_])++_=_;rw[YH];exact g4⟩ (by show k<k+1;omega) (Xb [(0,2)] rfl rfl ?_ ?_)⟩
   ·show subE _ _ _ [(4,.int .i64 ((i+w:Nat):Int)),(3,.sl 0 0 (a::l++[(s.take (i+w)).drop i]).length 1 none),(0,.str s)];rw[show (a::l++[(s.take (i+w)).drop i]).length=l.length+1+1 by simp];simp(disch:=try exact Zq)only[go_sem]
   show subH _ _ _ [(0,.cells (strs (a::(l++[(s.take (i+w)).drop i]))))];simp(disch:=try exact Zq)only[go_sem]
 have d0:decide ((i:Int)<s.length)=false:=Yd Zo;rw[pcF_end s k i hp,Yab]at g4;rw[←g4];cases l with
 |nil=>simp(disch:=try exact Zq)only[go_sem,ssV,ssB,ssN,d0];refine AXa.go mixed (zf zdN zh) (zg) Zk ?_;simp(disch:=try exact Zq)only[go_sem]
 |cons a l=>simp(disch:=try exact Zq)only[go_sem,ssV,ssB,ssN,d0];refine AXa.go mixed (zf zdN zh) (zg) Zk ?_;simp(disch:=try exact Zq)only[go_sem];exact Frz.slp rfl rfl (by simp[zcm]) (by simp[zeL]) (zaP _)
def cPcs:ZV:=zL (fun s:ZL=>[.str s]) (fun s=>s.length≤100000000) fun s=>.ret (.fs (strs (pcF s s.length 0)) (pcF s s.length 0).length)
def cPcs_eq(s:ZL)(h:s.length≤100000000):cPcs [.str s]=some (.ret (.fs (strs (pcF s s.length 0)) (pcF s s.length 0).length)):=zo (pat:=fun s:ZL=>[V.str s]) (fun x y h=>by simpa using h) s h
def cPcs_ok:ZC cPcs 89:=zn fun s h=>zuW s h
def letB(s:ZL):Bool:=decide (0<(ptV s 0).2)&&decide ((ptV s 0).2=s.length)
def zvC(s:ZL)(h:s.length≤1000000000):PCall prog 90 [.str s] (.ret (.bool (letB s))):=by
 refine Xa (rs:=[.tmp 2]) [0,2,4] [] mixed (zf zdN zh) (zg) call90 func90 rfl ntmps90 rfl ?_;have e:zxq [.str s,.int .i64 0]=some (.ret (.tup [.int .i64 ((ptV s 0).1:Nat),.int .i64 ((ptV s 0).2:Nat)])):=zhC s 0 h Zo;unfold letB;by_cases h1:0<(ptV s 0).2
 ·have d1:decide ((0:Int)<((ptV s 0).2:Nat))=true:=Yf Zo;rw[Yf h1];by_cases h2:(ptV s 0).2=s.length
  ·have d2:decide ((((ptV s 0).2:Nat):Int)=s.length)=true:=Yf Zo;rw[Yf h2];simp(disch:=try exact Zq)only[go_sem,e,d1,d2]
  have d2:decide ((((ptV s 0).2:Nat):Int)=s.length)=false:=Yd Zo;rw[Yd h2];simp(disch:=try exact Zq)only[go_sem,e,d1,d2]
 have d1:decide ((0:Int)<((ptV s 0).2:Nat))=false:=Yd Zo;rw[Yd h1];simp(disch:=try exact Zq)only[go_sem,e,d1]
def cLet:ZV:=zL (fun s:ZL=>[.str s]) (fun s=>s.length≤1000000000) fun s=>.ret (.bool (letB s))
def cLet_eq(s:ZL)(h:s.length≤1000000000):cLet [.str s]=some (.ret (.bool (letB s))):=zo (pat:=fun s:ZL=>[V.str s]) (fun x y h=>by simpa using h) s h
def cLet_ok:ZC cLet 90:=zn fun s h=>zvC s h
def zge(s:ZL)(i w j:Nat)(h:i+w≤s.length):atN ((s.take (i+w)).drop i) j=if j<w then atN s (i+j)else 0:=by
 unfold atN;rw[Ya,Y8,Yba];split
 ·rename_i h1;rw[Yi Zo,Ya]
 rename_i h1;rw[Ye Zo];rfl
def zvD(s:ZL)(i:Nat)(h:i<s.length):letB ((s.take (i+pw s i)).drop i)=okP (dec8 s i):=by
 have h0:=zuR s i h;have hd:=(zmi s i h).1;obtain⟨w1,w2,w3⟩:=pw_b s i h;have e0:=zge s i (pw s i) 0 w2;have e1:=zge s i (pw s i) 1 w2;have e2:=zge s i (pw s i) 2 w2;have e3:=zge s i (pw s i) 3 w2;have el:((s.take (i+pw s i)).drop i).length=pw s i:=by rw[Yai,Y0];omega
 have ew:pw s i=max (ptV s i).2 1:=rfl;unfold letB;have key:(ptV ((s.take (i+pw s i)).drop i) 0).2=(ptV s i).2:=by
  generalize (s.take (i+pw s i)).drop i=p at*;clear h0 hd;unfold ptV moN at ew ⊢;rw[el];simp only[Yae,e0,e1,e2,e3,YS];generalize pw s i=w at*;generalize atN s i=a at*;generalize atN s (i+1)=b at*;generalize atN s (i+2)=c at*;generalize atN s (i+3)=d at*;clear e0 e1 e2 e3 el;simp only[Yj,Yn]at ew ⊢;repeat' split at ew
  all_goals (simp only at ew)
  all_goals (subst ew)
  all_goals simp_all
  all_goals (repeat' split)
  all_goals (first|rfl|omega|(exfalso;simp_all;done)|(exfalso;simp_all;omega))
 rw[key,el,ew,h0];cases hk:okP (dec8 s i)with
 |false=>simp
 |true=>simp;omega
def zuZ(s:ZL):∀k i,s.length≤i+k→((pcF s k i).all letB=decide (zbq s k i=0))
 |0,i,h=>rfl
 |k+1,i,h=>by
  rw[pcF,zbq];by_cases hp:i<s.length
  ·obtain⟨w1,w2,w3⟩:=pw_b s i hp;have hw:=zuR s i hp;have hd:=zmi s i hp;rw[Yi hp,Yi hp,Ybg,zvD s i hp];cases hk:okP (dec8 s i)with
   |false=>rfl
   |true=>
    rw[Ye Zs];rw[hk]at hw;have e:pw s i=(dec8 s i).2:=by unfold pw;rw[hw,Yi rfl];omega
    rw[Yau,e];exact zuZ s k (i+(dec8 s i).2) Zo
  rw[Ye hp,Ye hp];rfl
end Go.Proofs

namespace Go.Pl
def mid(l:ZN)(a k:Nat)(s:ZN):ZN:=l.take a++s++l.drop (a+k)
def znM {l s:ZN}{a k:Nat}(hs:s.length=k)(h:a+k≤l.length):(mid l a k s).length=l.length:=by unfold mid;simp;omega
def mid_ok {l s:ZN}{a k:Nat}(ol:okL l)(os:okL s):okL (mid l a k s):=by unfold mid;exact okL_append.2 ⟨okL_append.2 ⟨zjP ol _,os⟩,zjQ ol _⟩
def mid_drop {l s:ZN}{a k:Nat}(h:a≤l.length):(mid l a k s).drop a=s++l.drop (a+k):=by unfold mid;rw[YH];exact List.drop_left' (by simp[h])
def mid_take {l s:ZN}{a k:Nat}(h:a≤l.length):(mid l a k s).take a=l.take a:=by unfold mid;rw[YH];exact YbO (by simp[h])
structure DivInv(X:Nat)(v:ZN)(m e:Nat)(q u:ZN):Prop where
 ou:okL u
 lu:u.length=m
 oq:okL q
 lq:q.length+v.length=m
 low:valL (u.drop e)<valL v
 sum:valL u+valL v*(1000000000^e*valL (q.drop e))=X
def seg(u:ZN)(a n:Nat):ZN:=(u.drop a).take (n+1)
def DivInv.segm {X:Nat}{v:ZN}{m a:Nat}{q u:ZN}(h:DivInv X v m (a+1) q u)(ov:okL v)(hv:0<v.length)(ht:0<v.getD (v.length-1) 0)(ha:a+v.length+1≤m):DigOK (seg u a v.length) v∧valL (seg u a v.length)=valL (u.drop a)∧valL (u.drop (a+(v.length+1)))=0:=by
 have h1:=zat u a;have h2:=h.low;have h3:=getD_lt h.ou a;have hl:(seg u a v.length).length=v.length+1:=by unfold Go.Pl.seg;simp[h.lu];omega
 have h4:valL (u.drop a)=valL (seg u a v.length)+1000000000^(v.length+1)*valL (u.drop (a+(v.length+1))):=by have:=zjd (u.drop a) (v.length+1) (by simp[h.lu];omega);rw[YaR]at this;exact this
 have h5:valL (u.drop a)<valL v*1000000000:=Zo;have h6:=zY ov;have h7:valL (u.drop (a+(v.length+1)))=0:=by
  rw[YG]at h4;generalize (1000000000:Nat)^v.length=p at*;generalize valL (u.drop (a+(v.length+1)))=z at*;rcases YR z with h0|h0
  ·exact h0
  have:p*1000000000*1≤p*1000000000*z:=Y9 _ h0;omega
 rw[h7,Y4,YS]at h4;exact⟨⟨zjP (zjQ h.ou _) _,ov,hl,hv,ht,by rw[←h4];exact h5⟩,h4.symm,h7⟩
def DivInv.step {X:Nat}{v:ZN}{m a:Nat}{q u:ZN}(h:DivInv X v m (a+1) q u)(ov:okL v)(hv:0<v.length)(ht:0<v.getD (v.length-1) 0)(ha:a+v.length+1≤m):DivInv X v m a (q.set a (valL (seg u a v.length)/valL v)) (mid u a (v.length+1) (digs (v.length+1) (valL (seg u a v.length)%valL v))):=by
 obtain⟨hd,hs,hz⟩:=h.segm ov hv ht ha;have hvp:=hd.vpos;have hmod:valL (seg u a v.length)%valL v<valL v:=YaL _ hvp;have hlt:valL (seg u a v.length)%valL v<1000000000^(v.length+1):=by have:=zY ov;rw[YG];generalize (1000000000:Nat)^v.length=p at*;omega
 have hval:=zkl (v.length+1) _ hlt;have hua:a≤u.length:=by rw[h.lu];omega
 have hdrop:valL ((mid u a (v.length+1) (digs (v.length+1) (valL (seg u a v.length)%valL v))).drop a)=valL (seg u a v.length)%valL v:=by rw[mid_drop hua,zax,hval,hz,Y4,YS]
 have hlen:=znM (l:=u) (a:=a) (zdg (v.length+1) (valL (seg u a v.length)%valL v)) (by rw[h.lu];omega);have hqa:a<q.length:=by have:=h.lq;omega
 refine⟨mid_ok h.ou (zkm _ _),by rw[hlen,h.lu],zel h.oq hd.qlt,by rw[List.length_set];exact h.lq,by rw[hdrop];exact hmod,?_⟩;rw[zjd _ a (by rw[hlen];exact hua),hdrop,mid_take hua,zat (q.set a _) a,YbL Zo];have e1:(q.set a (valL (seg u a v.length)/valL v)).getD a 0=valL (seg u a v.length)/valL v:=by rw[Ya,Ya4 hqa];rfl
 rw[e1];have h8:=h.sum;rw[zjd u a hua,←hs,YG]at h8;have h9:=YbA (valL (seg u a v.length)) (valL v);rw[←h8];generalize valL (seg u a v.length)/valL v=d at*;generalize valL (seg u a v.length)%valL v=r at*;generalize valL (seg u a v.length)=S at*;generalize (1000000000:Nat)^a=p at*;generalize valL (q.drop (a+1))=Q at*;generalize valL v=V at*;rw[←h9,YM p,YM p,YM V];have i1:V*(p*d)=p*(V*d):=Nat.mul_left_comm ..;have i2:V*(p*(1000000000*Q))=V*(p*1000000000*Q):=by rw[YY p]
 rw[i1,i2];omega
def DivInv.done {X:Nat}{v:ZN}{m:Nat}{q u:ZN}(h:DivInv X v m 0 q u):zao q=limbs (X/valL v)∧zao u=limbs (X%valL v):=by have h1:=h.low;have h2:=h.sum;simp only[YW,Nat.pow_zero,YbH]at h1 h2;have hd:=(Nat.div_mod_unique (show 0<valL v by omega)).2 ⟨h2,h1⟩;rw[zaM h.oq,zaM h.ou,hd.1,hd.2];exact⟨rfl,rfl⟩
def DivInv.start {X Y k n m:Nat}(hx:0<(limbs X).length)(hm:m=(limbs X).length+1)(hn:n=(limbs Y).length)(hY:Y≠0)(hXY:Y≤X)(hk:k<1000000000)(hk0:0<k) (hv:(limbs (Y*k)).length=n) (hnm:n<m):DivInv (X*k) (limbs (Y*k)) m (m-n) (List.replicate (m-n) 0) (digs m (X*k)):=by
 have hX1:X<1000000000^(limbs X).length:=by have:=zY (zI X);rwa [zD]at this
 have hY1:1000000000^(n-1)≤Y:=by have h1:=zc5 (zI Y) (n-1) Zo;have h2:=zcc hY;have z:valL ((limbs Y).drop (n-1+1))=0:=zbN Zo;rw[zD,zat,z,Y4,YS]at h1;rw[←hn]at h2;have h3:=h1.1;generalize (1000000000:Nat)^(n-1)=p at*;have:1*p≤(limbs Y).getD (n-1) 0*p:=YI _ Zo;omega
 have hn0:0<n:=by
  rcases YR n with h0|h0
  ·exfalso;rw[h0]at hn;exact hY (limbs_nil.1 (Yz hn.symm))
  exact h0
 have hXk:X*k<1000000000^m:=by rw[hm,YG];exact Ya3 hX1 Zo Zo
 have hval:=zkl m _ hXk;have hlow:valL ((digs m (X*k)).drop (m-n))<Y*k:=by
  have h1:=(zc5 (zkm m (X*k)) (m-n) (by rw[zdg];omega)).1;rw[hval]at h1;have h2:X*k<Y*k*1000000000^(m-n):=by
   have h3:X<Y*1000000000^(m-n):=by have:1000000000^(n-1)*1000000000^(m-n)≤Y*1000000000^(m-n):=YI _ hY1;rw[←YbP,show n-1+(m-n)=(limbs X).length by omega]at this;omega
   have h4:X*k<Y*1000000000^(m-n)*k:=Ybe h3 hk0;rw[Nat.mul_right_comm]at h4;exact h4
  exact Ybk (Ybb h1 h2)
 have hz:∀j,valL (List.replicate j 0)=0:=by
  intro j;induction j with
  |zero=>rfl
  |succ j ih=>rw[Ya6,valL,ih]
 refine⟨zkm _ _,zdg _ _,fun d hd=>by have:=YaO hd;omega,by rw[Ycm,hv];omega,by rw[zD];exact hlow,?_⟩;have z:valL ((List.replicate (m-n) 0).drop (m-n))=0:=zbN Zs;rw[hval,z,Y4,Y4,YS]
def zlt(k:Nat)(r0:ZN)(e:Nat)(r:ZN)(c:Nat):Prop:=
 r.length=r0.length∧okL r∧r.take e=r0.take e∧valL (r.drop e)*k+c=valL (r0.drop e)∧c<k
def zut {k:Nat}{r0:ZN}(hk:0<k)(o:okL r0):zlt k r0 r0.length r0 0:=
 ⟨rfl,o,rfl,by rw[zbN (Yc _),Ybo],hk⟩
def rem_step {k:Nat}{r0 r:ZN}{e c:Nat}(hk:k<1000000000)(he:e<r0.length)(h:zlt k r0 (e+1) r c):zlt k r0 e (r.set e ((c*1000000000+r.getD e 0)/k)) ((c*1000000000+r.getD e 0)%k)∧c*1000000000+r.getD e 0<1000000000000000000:=by
 obtain⟨h1,h2,h3,h4,h5⟩:=h;have hr:=getD_lt h2 e;have hkp:0<k:=Zo;have hre:r.getD e 0=r0.getD e 0:=by rw[←getD_take r (e+1) e 0 Zo,h3,getD_take r0 (e+1) e 0 Zo]
 have hc:c*1000000000+r.getD e 0<k*1000000000:=by have:c*1000000000+1000000000≤k*1000000000:=Zo;omega
 refine⟨⟨by simpa using h1,zel h2 ((YaQ hkp).2 Zo),?_,?_,YaL _ hkp⟩,Zo⟩
 ·rw[Ybt (Yc _)];have:=Ya1 (List.take e) h3;rwa [Ybv,Ybv,YaZ Zo]at this
 rw[zat (r.set e _) e,YbL Zo,zat r0 e,←h4,←hre];have e1:(r.set e ((c*1000000000+r.getD e 0)/k)).getD e 0=(c*1000000000+r.getD e 0)/k:=by rw[Ya,Ya4 Zo];rfl
 rw[e1];have h9:=YbA (c*1000000000+r.getD e 0) k;generalize (c*1000000000+r.getD e 0)/k=d at*;generalize (c*1000000000+r.getD e 0)%k=s at*;generalize valL (r.drop (e+1))=R at*;rw[Y5,Yac d k,YY 1000000000 R k];generalize R*k=Rk at*;generalize k*d=kd at*;omega
def rem_done {k z:Nat}{r:ZN}{c:Nat}(hk:0<k)(h:zlt k (limbs (z*k)) 0 r c):zao r=limbs z:=by
 obtain⟨h1,h2,h3,h4,h5⟩:=h;simp only[YW,zD]at h4;rw[zaM h2];congr 1;have h6:(valL r*k+c)/k=z:=by rw[h4];exact Nat.mul_div_cancel _ hk
 rw[Yac,Nat.mul_add_div hk,Yb4 h5,YS]at h6;exact h6
def norm_len {Y k n:Nat}(hn:n=(limbs Y).length)(hY:Y≠0)(hk:k=1000000000/((limbs Y).getD (n-1) 0+1)):0<k∧k<1000000000∧(limbs (Y*k)).length=n:=by
 have hl:=zcc hY;rw[←hn]at hl;have hlt:=getD_lt (zI Y) (n-1);have hn0:0<n:=by
  rcases YR n with h0|h0
  ·exfalso;rw[h0]at hn;exact hY (limbs_nil.1 (Yz hn.symm))
  exact h0
 have hb:=zc5 (zI Y) (n-1) Zo;have z:valL ((limbs Y).drop (n-1+1))=0:=zbN Zo;rw[zD,zat,z,Y4,YS]at hb;generalize (limbs Y).getD (n-1) 0=t at*;have k0:0<k:=by rw[hk];exact Nat.div_pos Zo Zo
 have k1:k*(t+1)≤1000000000:=by rw[hk];exact Ycc _ _
 have k2:k<1000000000:=by have:k*2≤k*(t+1):=Y9 _ Zo;omega
 refine⟨k0,k2,Nat.le_antisymm ?_ ?_⟩
 ·apply zaC;have h1:Y*k<(t+1)*1000000000^(n-1)*k:=Ybe hb.2 k0;have h2:(t+1)*1000000000^(n-1)*k=k*(t+1)*1000000000^(n-1):=by rw[Yac,YY]
  have h3:k*(t+1)*1000000000^(n-1)≤1000000000*1000000000^(n-1):=YI _ k1;have h4:(1000000000:Nat)^n=1000000000*1000000000^(n-1):=by obtain⟨s,rfl⟩:∃s,n=s+1:=⟨n-1,Zo⟩;rw[YG,Ya9,Yac]
  rw[h4];omega
 refine Y3 fun hlt2=>?_;have h1:=zY (zI (Y*k));rw[zD]at h1;have h2:1000000000^(limbs (Y*k)).length≤1000000000^(n-1):=YL Zo Zo;have h3:Y≤Y*k:=Nat.le_mul_of_pos_right _ k0;have h4:1*1000000000^(n-1)≤t*1000000000^(n-1):=YI _ Zo;generalize (1000000000:Nat)^(n-1)=p at*;omega
end Go.Pl
