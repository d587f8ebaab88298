/- The reference: vectors of a machine. -/
import Derived.Test.YthbimeikbkjnkaaGreatDoorS1
set_option linter.all false
set_option maxHeartbeats 16000000
set_option maxRecDepth 100000
namespace Go.Proofs
open Tryz Go.Ab Go.Cnt Go.Pl Go.Tg
def zvI(k:Int)(n i:Nat):List Str:=List.replicate i (zaS k)++List.replicate (n - i) []
theorem zwa {k:Int}{n i:Nat}(h:i≤n):(zvI k n i).length=n:=by simp [zvI];omega
theorem zqO(k:Int)(n:Nat):zvI k n 0=List.replicate n []:=by simp [zvI]
theorem zwb(k:Int)(n:Nat):zvI k n n=zvR k n:=by simp [zvI,zvR]
theorem zqP {k:Int}{n i:Nat}(h:i<n):(zvI k n i).set i (zaS k)=zvI k n (i+1):=by unfold zvI;rw [List.set_append_right _ _ (by simp),Yw,Ybp,show n - i=(n - (i+1))+1 by omega,Ybs,Ycm,List.replicate_succ',Ybl];rfl
theorem zgR(l:List Str)(i:Nat)(s:Str):(strs l).set i (.str s)=strs (l.set i s):=by simp [strs,List.map_set]
theorem zeros_N(m:Mach)(hq:m.q.length≤1000000):NCall prog 122 [zah m] [] [] (.sl 0 0 m.q.length 1 none) ⟨[(0,.cells (strs (zvR m.k m.q.length)))],1⟩:=by
 have hΓ:=zf zel zh;obtain⟨k,s,l,q⟩:=m;dsimp only at hq;refine NCall.walk (rs:=[.tmp 2]) [0,1,2,3,4,12] [42] 0 mixed (hΓ) (zg) zAa func122 rfl ntmps122 rfl (by kernel_rfl) (by simp) (by simp) (by simp) ?_;unfold zah;dsimp only;simp (disch:=first|exact Zq|fail) only [go_sem];refine⟨by omega,?_⟩;refine AXs.loop mixed (hΓ) (zg) (fun i:Nat=>[(1,.fp [.int .i64 k,.int .i64 s,.str l,.fs (stas q) q.length]),(3,.sl 0 0 q.length 1 none),(4,.int .i64 i)]) (fun i=>⟨[(0,.cells (strs (zvI k q.length i)))],1⟩) (fun i=>i≤q.length) (fun i=>q.length - i) 0 (by kernel_rfl) (Yk _) (Sub.of0 [(0,0)] rfl rfl ?_ ?_) ?_
 ·simp only [go_sem]
 ·simp only [go_sem,zqO]
 intro i h1;simp (disch:=first|exact Zq|fail) only [go_sem];refine AXc.introP (fun h2=>?_) (fun h2=>?_)
 ·have hi:i<q.length:=by omega
  have hz:=zqP (k:=k) hi;have hl:=zwa (k:=k) h1;simp (disch:=first|exact Zq|fail) only [go_sem,zgR,hz,hl];try (repeat refine sdC ?_)
  refine zi (i+1) (by omega) (by omega) (Sub.of0 [(0,0)] rfl rfl ?_ ?_)
  ·simp only [go_sem];simp
  ·simp only [go_sem]
 ·obtain rfl:i=q.length:=by omega
  rw [zwb];simp only [go_sem];refine AXa.go mixed (hΓ) (zg) (by kernel_rfl) ?_;simp only [go_sem];refine⟨[(2,.sl 0 0 q.length 1 none)],Sub.of [(0,0)] rfl ?_ ?_ (by decide) (fun b hb _=>absurd hb (Ybz b)),rfl⟩
  ·simp only [go_sem]
  ·simp only [go_sem]
def ZerR(args:List V)(H:Hp)(r:AR):Prop:=∃ m:Mach,args=[zah m]∧m.q.length≤1000000∧(∀ b x,H.get b=some x→b<H.next)∧r=⟨True,.sl H.next 0 m.q.length 1 none,⟨(H.next,.cells (strs (zvR m.k m.q.length)))::H.bs,H.next+1⟩,[],[]⟩
theorem zwd:∀ args H r,ZerR args H r→HCall prog 122 args H r:=by rintro args H r ⟨m,rfl,hq,hk,rfl⟩;exact HCall.fresh (F:=[]) (zeros_N m hq) (zM _) [] _ H rfl .nil (zt fun x hx=>by rw [Yah.1 hx];exact zbm m) (fun i x hx=>by simp at hx) (fun i x hx=>by simp at hx) hk
theorem zwe(m:Mach)(bs:List (Nat×Blk))(n:Nat)(hq:m.q.length≤1000000)(hk:((keysB bs).all fun b=>decide (b<n))=true):conD ZerR [zah m] ⟨bs,n⟩=some ⟨True,.sl n 0 m.q.length 1 none,⟨(n,.cells (strs (zvR m.k m.q.length)))::bs,n+1⟩,[],[]⟩:=by refine zaK ⟨m,rfl,hq,zbB hk,rfl⟩ fun r' ⟨m',e,_,_,e'⟩=>?_;have:=zbW (List.cons.inj e).1;rw [e',this]
theorem zv9(k:Int)(N:Nat):∀ a∈zvR k N,a.length≤1000:=fun a h=>by obtain⟨_,rfl⟩:=YbG.1 h;exact zfY k
def zos(p:Int×List Str×Int×Str×Str):Prop:=p.2.1.length≤1000000∧0≤p.2.2.1∧p.2.2.1<p.2.1.length∧p.2.2.2.1.length≤1000000000∧p.2.2.2.2.length≤1000000000∧∀ a∈p.2.1,a.length≤1000000000
theorem add8_N(k:Int)(l:List Str)(i:Int)(a b:Str)(h:zos (k,l,i,a,b)):
 NCall prog 171 [.int .i64 k,.sl 0 0 l.length 1 none,.int .i64 i,.str a,.str b] [.cells (strs l)] [0] (.int .i64 (addR k l i.toNat a b).2) ⟨[(0,.cells (strs (addR k l i.toNat a b).1))],1⟩:=by
 have hΓ:=zf zqk (zf zAz zh)
 obtain⟨h1,h2,h3,h4,h5,h6⟩:=h
 dsimp only at h1 h2 h3 h4 h5 h6
 have r1:=zql k a b h4 h5
 have hl:=zhB k a b
 have hli:=h6 _ (zbr (l:=l) (i:=i.toNat) (by omega))
 have r2:=zAA k (l.getD i.toNat []) (zaQ k a b).1 hli (by omega)
 obtain⟨R,hR⟩:∃ R,R=addR k l i.toNat a b:=⟨_,rfl⟩
 rw [←hR]
 unfold addR at hR
 refine NCall.walkW (rs:=[.tmp 10]) [0,1,2,3,4,10,11,12,13,22,35] [] 1 [0] mixed (hΓ) (zg) call171 func171 rfl ntmps171 rfl (by kernel_rfl) (by simp) (by simp) (by simp) (by simp) ?_
 generalize zaQ k a b=z at r1 r2 hR hl
 obtain⟨z1,z2⟩:=z
 dsimp only at r1 r2 hR hl
 simp (disch:=first|exact Zq|fail) only [go_sem,r1]
 refine AXc.introN (fun k1=>?_) (fun k1=>?_)
 ·rw [Yf k1]at hR
  rw [hR]
  simp (disch:=first|exact Zq|fail) only [go_sem]
  refine⟨[(10,.int .i64 z2)],Sub.oE [] rfl ?_ ?_,rfl⟩
  ·simp only [go_sem]
  ·simp only [go_sem]
 ·rw [Yd (fun k=>k k1)]at hR
  generalize zb2 k (l.getD i.toNat []) z1=y at r2 hR
  obtain⟨y1,y2⟩:=y
  dsimp only at r2 hR
  simp (disch:=first|exact Zq|fail) only [go_sem,r2]
  try (repeat refine sdC ?_)
  refine AXc.introP (fun k2=>?_) (fun k2=>?_)
  ·rw [Yd (fun k=>k k2)]at hR
   rw [hR]
   simp (disch:=first|exact Zq|fail) only [go_sem,zgR]
   try (repeat refine sdC ?_)
   refine⟨[(10,.int .i64 0)],Sub.oE [] rfl ?_ ?_,rfl⟩
   ·simp only [go_sem]
    rw [k2]
   ·simp only [go_sem]
  ·rw [Yf k2]at hR
   rw [hR]
   simp (disch:=first|exact Zq|fail) only [go_sem]
   refine⟨[(10,.int .i64 y2)],Sub.oE [] rfl ?_ ?_,rfl⟩
   ·simp only [go_sem]
   ·simp only [go_sem]
def AddR8(args:List V)(H:Hp)(r:AR):Prop:=∃(b:Nat) (k:Int) (l:List Str) (i:Int) (x y:Str) (c:Option Nat),args=[.int .i64 k,.sl b 0 l.length 1 c,.int .i64 i,.str x,.str y]∧zos (k,l,i,x,y)∧H.get b=some (.cells (strs l))∧(∀ b x,H.get b=some x→b<H.next)∧
 r=⟨True,.int .i64 (addR k l i.toNat x y).2,H.put b (.cells (strs (addR k l i.toNat x y).1)),[b],[b]⟩
theorem addR8_ok:∀ args H r,AddR8 args H r→HCall prog 171 args H r:=by
 rintro args H r ⟨b,k,l,i,x,y,c,rfl,ho,hb,hk,rfl⟩;refine HCall.putS (add8_N k l i x y ho) (.int _ _) (zM _) (zM _) b _ H ?_ hb hk;refine⟨rfl,fun i x y hx hy=>?_⟩;match i with
 |0=>cases hx;cases hy;exact .same (.int _ _)
 |1=>cases hx;cases hy;exact .sl (π:=fun i=>[b].getD i 0) (b:=0) (Nat.zero_lt_one) (.inl rfl)
 |2=>cases hx;cases hy;exact .same (.int _ _)
 |3=>cases hx;cases hy;exact .same (.str _)
 |4=>cases hx;cases hy;exact .same (.str _)
 |i+5=>simp at hx
theorem zst(b:Nat)(k:Int)(l:List Str)(i:Int)(x y:Str)(n:Nat)(c:Option Nat)(bs:List (Nat×Blk))(m:Nat)(hn:n=l.length)(ho:zos (k,l,i,x,y))(hb:zas bs b=some (.cells (strs l)))(hk:((keysB bs).all fun b=>decide (b<m))=true):
 conD AddR8 [.int .i64 k,.sl b 0 n 1 c,.int .i64 i,.str x,.str y] ⟨bs,m⟩=some ⟨True,.int .i64 (addR k l i.toNat x y).2,(⟨bs,m⟩:Hp).put b (.cells (strs (addR k l i.toNat x y).1)),[b],[b]⟩:=by
 subst hn
 refine zaK ⟨b,k,l,i,x,y,c,rfl,ho,by rw [zbh];exact hb,zbB hk,rfl⟩ fun r' ⟨b',k',l',i',x',y',c',e,_,e2,_,e'⟩=>?_
 simp only [Yu,V.int.injEq,V.sl.injEq,V.str.injEq,Yam,Yan]at e
 obtain⟨rfl,⟨rfl,_⟩,rfl,rfl,rfl⟩:=e
 rw [zbh,hb]at e2
 simp only [Yv,Blk.cells.injEq]at e2
 have:=zam e2
 subst this
 exact e'
theorem zss(k:Int)(l:List Str)(i:Nat)(a b:Str):(addR k l i a b).1.length=l.length:=by
 unfold addR;split
 ·rfl
 split
 ·rfl
 ·simp
theorem zsr {k:Int}{l:List Str}{i:Nat}{a b:Str}(h:∀ x∈l,x.length≤1000)(hi:i<l.length):∀ x∈(addR k l i a b).1,x.length≤1000:=by
 unfold addR;split
 ·exact h
 split
 ·exact h
 ·intro x hx;rcases Ya7 hx with hx|rfl
  ·exact h x hx
  ·exact zs6 (h _ (zbr hi)) (zhB k a b)
noncomputable def ΔU8:FuncId→List V→Hp→Option AR:=zcR 122 (conD ZerR) (zcR 171 (conD AddR8) noΔ)
theorem zdp:zba prog ΔU8:=zay (zaZ zwd) (zay (zaZ addR8_ok) zg)
theorem zez(k:Int)(v:Str)(x o:Int)(lo:Bool)(ar:List Arc)(l:List Str):∀ j,(stpA k v x o lo ar l j).1.length=l.length
 |0=>rfl
 |j+1=>by
  rw [stpA];split
  ·exact zez k v x o lo ar l j
  split
  ·exact zez k v x o lo ar l j
  ·rw [zss];exact zez k v x o lo ar l j
theorem zfk {k:Int}{v:Str}{x o:Int}{lo:Bool}{ar:List Arc}{l:List Str}(h:∀ a∈l,a.length≤1000)(ht:∀ j,j<ar.length→(nthA ar j).t.toNat<l.length):∀ j,j≤ar.length→∀ a∈(stpA k v x o lo ar l j).1,a.length≤1000
 |0,_=>h
 |j+1,hj=>by
  rw [stpA];split
  ·exact zfk h ht j (by omega)
  split
  ·exact zfk h ht j (by omega)
  ·exact zsr (zfk h ht j (by omega)) (by rw [zez];exact ht j (by omega))
theorem zey(m:Mach)(v:List Str)(x o:Int)(lo:Bool):∀ q,(stpQ m v x o lo q).1.length=m.q.length
 |0=>zeR _ _
 |q+1=>by
  rw [stpQ];split
  ·exact zey m v x o lo q
  split
  ·exact zey m v x o lo q
  ·rw [zez];exact zey m v x o lo q
def ToOK(m:Mach):Prop:=∀ s∈m.q,∀ a∈s.a,0≤a.t∧a.t<m.q.length
theorem zd5 {m:Mach}(ht:ToOK m){v:List Str}{x o:Int}{lo:Bool}:∀ q,q≤m.q.length→∀ a∈(stpQ m v x o lo q).1,a.length≤1000
 |0,_=>zv9 _ _
 |q+1,hq=>by
  rw [stpQ];split
  ·exact zd5 ht q (by omega)
  split
  ·exact zd5 ht q (by omega)
  ·refine zfk (zd5 ht q (by omega)) (fun j hj=>?_) _ (Ye _);rw [zey];have:=ht _ (staR.nth_mem (show q<m.q.length from hq)) _ (arcR.nth_mem hj);have h2:(nthA (nthQ m.q q).a j).t=(arcR.nth (staR.nth m.q q).a j).t:=rfl;omega
def StpOK(p:Mach×List Str×Int×Int×Bool):Prop:=FitM p.1∧p.1.q.length≤1000000∧ToOK p.1∧p.2.1.length=p.1.q.length∧∀ a∈p.2.1,a.length≤1000
theorem znp {H:Hp}{b:Nat}(l:List Str){n:Nat}(hn:n=l.length)(hg:H.get b=some (.cells (strs l))):Frz H (.sl b 0 n 1 none) (.fs (strs l) n):=by subst hn;refine .sl hg (by simp [strs]) (by simp [strs]) fun i x y hx hy=>?_;rw [Y2,Yap,Yj (by simp [strs])]at hx;rw [hx]at hy;cases hy;exact .pure (zM _ _ (YR hx))
theorem rstep_ok(m:Mach)(v:List Str)(x o:Int)(lo:Bool)(h:StpOK (m,v,x,o,lo)):
 PCall prog 126 [zah m,.fs (strs v) v.length,.int .i64 x,.int .i64 o,.bool lo] (.ret (.tup [.fs (strs (zbY m v x o lo).1) (zbY m v x o lo).1.length,.int .i64 (zbY m v x o lo).2])):=by
 have hΓ:=zf zel zh
 obtain⟨⟨m1,m2,m3,m4,m5⟩,hq,ht,hvl,hv1⟩:=h
 dsimp only at hq hvl hv1 ht
 obtain⟨R,hR⟩:∃ R,R=zbY m v x o lo:=⟨_,rfl⟩
 rw [←hR]
 unfold zbY at hR
 refine PCall.walk (rs:=[.tmp 10,.tmp 11]) [0,1,2,3,4,5,10,11,12,13,14,15,16,23,33,42,67,81] [42] mixed (hΓ) (zdp) call126 func126 rfl ntmps126 rfl (by kernel_rfl) (by simp) (by simp [push_cast,zbm]) ?_
 have p1:ΔU8 122 [zah m] ⟨[],0⟩=_:=zwe m [] 0 hq rfl
 have s1:=zey m v x o lo
 have s2:=fun q hq=>zd5 (m:=m) (v:=v) (x:=x) (o:=o) (lo:=lo) ht q hq
 have s0:stpQ m v x o lo 0=(zvR m.k m.q.length,0):=rfl
 have ss:∀ q,(stpQ m v x o lo q).2=0→stpQ m v x o lo (q+1)=if v.getD q []=zaS m.k then stpQ m v x o lo q else stpA m.k (v.getD q []) x o lo (nthQ m.q q).a (stpQ m v x o lo q).1 (nthQ m.q q).a.length:=fun q h=>by rw [stpQ,Yd (fun k=>k h)]
 have se:∀ q,(stpQ m v x o lo q).2≠0→∀ d,stpQ m v x o lo (q+d)=stpQ m v x o lo q:=fun q h d=>by
  induction d with
  |zero=>rfl
  |succ d ih=>rw [←YN,stpQ,ih,Yf h]
 unfold ToOK at ht
 obtain⟨k,s,l,q⟩:=m
 unfold zah at p1 ⊢
 dsimp only at m1 m2 m3 m4 m5 p1 hR hq ht hvl s0 s1 s2 ss
 generalize stpQ ⟨k,s,l,q⟩ v x o lo=S at hR s0 s1 s2 ss se
 simp (disch:=first|exact Zq|fail) only [go_sem,p1]
 refine AXs.loop mixed (hΓ) (zdp) (fun i:Nat=>[(1,.fs (strs v) v.length),(2,.int .i64 x),(3,.int .i64 o),(4,.bool lo),(5,.fp [.int .i64 k,.int .i64 s,.str l,.fs (stas q) q.length]),(12,.sl 0 0 q.length 1 none),(13,.int .i64 i)]) (fun i=>⟨[(0,.cells (strs (S i).1))],1⟩) (fun i=>i≤q.length∧(S i).2=0) (fun i=>q.length - i) 0 (by kernel_rfl) ⟨Yk _,by rw [s0]⟩ (Sub.of0 [(0,0)] rfl rfl ?_ ?_) ?_
 ·simp only [go_sem]
 ·simp only [go_sem,s0]
 rintro i ⟨h1,h2⟩
 simp (disch:=first|exact Zq|fail) only [go_sem]
 refine AXc.introP (fun h3=>?_) (fun h3=>?_)
 rotate_left
 ·obtain rfl:i=q.length:=by omega
  rw [Yd (fun k=>k h2)]at hR
  have sl:=s1 q.length
  rw [hR,h2]
  simp only [go_sem]
  refine AXa.go mixed (hΓ) (zdp) (by kernel_rfl) ?_
  simp (disch:=first|exact Zq|fail) only [go_sem]
  rw [sl]
  exact znp _ sl.symm rfl
 have hi:i<q.length:=by omega
 have hsi:=ss i h2
 have hvi:=hv1 _ (zbr (l:=v) (i:=i) (by omega))
 have hsl:=s1 i
 have hso:=s2 i (by omega)
 have hqm:nthQ q i∈q:=staR.nth_mem hi
 have at1:=zeT q i hi
 have n1:=zhz q i hi
 have ha:=m2 _ hqm
 have hti:=ht _ hqm
 have hw:=m5 _ hqm
 generalize hvv:v.getD i []=vi at hsi hvi
 generalize hss:nthQ q i=st at at1 ha hti n1 hw hsi
 obtain⟨F,A⟩:=st
 dsimp only at at1 ha hti n1 hw hsi
 simp (disch:=first|exact Zq|fail) only [go_sem,hvv]
 refine⟨by omega,by omega,?_⟩
 refine AXc.introP (fun h4=>?_) (fun h4=>?_)
 ·rw [Yf h4]at hsi
  simp (disch:=first|exact Zq|fail) only [go_sem]
  refine AXa.go mixed (hΓ) (zdp) (by kernel_rfl) ?_
  simp (disch:=first|exact Zq|fail) only [go_sem]
  refine zi (i+1) ⟨by omega,by rw [hsi];exact h2⟩ (by omega) (Sub.of0 [(0,0)] rfl rfl ?_ ?_)
  ·simp only [go_sem]
   simp
  ·rw [hsi]
   simp only [go_sem]
 rw [Yd h4]at hsi
 have tl:=zez k vi x o lo A (S i).1
 have to:=fun j hj=>zfk (k:=k) (v:=vi) (x:=x) (o:=o) (lo:=lo) (ar:=A) hso (fun j hj=>by have:=hti _ (arcR.nth_mem hj);have e:(nthA A j).t=(arcR.nth A j).t:=rfl;omega) j hj
 have t0:stpA k vi x o lo A (S i).1 0=((S i).1,0):=rfl
 have ts:∀ j,(stpA k vi x o lo A (S i).1 j).2=0→stpA k vi x o lo A (S i).1 (j+1)=if zw1 x o lo (nthA A j)=true then stpA k vi x o lo A (S i).1 j else addR k (stpA k vi x o lo A (S i).1 j).1 (nthA A j).t.toNat vi (nthA A j).w:=fun j h=>by rw [stpA,Yd (fun k=>k h)]
 have te:∀ j,(stpA k vi x o lo A (S i).1 j).2≠0→∀ d,stpA k vi x o lo A (S i).1 (j+d)=stpA k vi x o lo A (S i).1 j:=fun j h d=>by
  induction d with
  |zero=>rfl
  |succ d ih=>rw [←YN,stpA,ih,Yf h]
 generalize stpA k vi x o lo A (S i).1=T at hsi tl to t0 ts te
 simp (disch:=first|exact Zq|fail) only [go_sem]
 refine AXs.loop mixed (hΓ) (zdp) (fun j:Nat=>[(1,.fs (strs v) v.length),(2,.int .i64 x),(3,.int .i64 o),(4,.bool lo),(5,.fp [.int .i64 k,.int .i64 s,.str l,.fs (stas q) q.length]),(12,.sl 0 0 q.length 1 none),(13,.int .i64 i),(14,.int .i64 j)]) (fun j=>⟨[(0,.cells (strs (T j).1))],1⟩) (fun j=>j≤A.length∧(T j).2=0) (fun j=>A.length - j) 0 (by kernel_rfl) ⟨Yk _,by rw [t0]⟩ (Sub.of0 [(0,0)] rfl rfl ?_ ?_) ?_
 ·simp only [go_sem]
 ·simp only [go_sem,t0]
 rintro j ⟨k1,k2⟩
 simp (disch:=first|exact Zq|fail) only [go_sem,n1]
 refine⟨by omega,by omega,?_⟩
 refine AXc.introP (fun k3=>?_) (fun k3=>?_)
 rotate_left
 ·obtain rfl:j=A.length:=by omega
  simp only [go_sem]
  refine AXa.go mixed (hΓ) (zdp) (by kernel_rfl) ?_
  simp (disch:=first|exact Zq|fail) only [go_sem]
  refine zi (i+1) ⟨by omega,by rw [hsi];exact k2⟩ (by omega) (Sub.of0 [(0,0)] rfl rfl ?_ ?_)
  ·simp only [go_sem]
   simp
  ·rw [hsi]
   simp only [go_sem]
 have hj:j<A.length:=by omega
 have at2:=zlT A j hj
 have hxm:nthA A j∈A:=arcR.nth_mem hj
 have hwj:=hw _ hxm
 have htj:=hti _ hxm
 have htsj:=ts j k2
 have htl:=tl j
 have hto:=to j (by omega)
 generalize hxx:nthA A j=a at at2 hwj htj htsj
 obtain⟨xi,xo,xw,xt⟩:=a
 dsimp only at at2 hwj htj htsj
 have esk:(!decide (xi=x)|| !decide (xo=o)&& !lo)=zw1 x o lo ⟨xi,xo,xw,xt⟩:=rfl
 simp (disch:=first|exact Zq|fail) only [go_sem,n1,at2]
 refine⟨by omega,by omega,by omega,fun h=>⟨h,fun h'=>by rw [h'];revert h;cases decide (xi=x)<;>simp⟩,?_⟩
 rw [esk]
 cases h5:zw1 x o lo ⟨xi,xo,xw,xt⟩with
 |true=>
  rw [Yf h5]at htsj
  simp (disch:=first|exact Zq|fail) only [go_sem]
  refine zi (j+1) ⟨by omega,by rw [htsj];exact k2⟩ (by omega) (Sub.of0 [(0,0)] rfl rfl ?_ ?_)
  ·simp only [go_sem]
   simp
  ·rw [htsj]
   simp only [go_sem]
 |false=>
  rw [Yd (by rw [h5];simp)]at htsj
  have ho:zos (k,(T j).1,xt,vi,xw):=⟨by dsimp only;omega,htj.1,by dsimp only;omega,by dsimp only;omega,hwj,fun a ha=>Yn (hto a ha) (by decide)⟩
  have t2:ΔU8 171 [.int .i64 k,.sl 0 0 q.length 1 none,.int .i64 xt,.str vi,.str xw] ⟨[(1,.cells [.int .i64 xi,.int .i64 xo,.str xw,.int .i64 xt]),(0,.cells (strs (T j).1))],2⟩=some ⟨True,.int .i64 (addR k (T j).1 xt.toNat vi xw).2,⟨[(1,.cells [.int .i64 xi,.int .i64 xo,.str xw,.int .i64 xt]),(0,.cells (strs (addR k (T j).1 xt.toNat vi xw).1))],2⟩,[0],[0]⟩:=zst 0 k (T j).1 xt vi xw q.length none _ 2 (by omega) ho rfl rfl
  simp (disch:=first|exact Zq|fail) only [go_sem,n1,at2,t2,hvv]
  refine⟨by omega,by omega,AXk.intro (by kernel_rfl) ?_⟩
  generalize addR k (T j).1 xt.toNat vi xw=z at htsj t2
  obtain⟨z1,z2⟩:=z
  dsimp only
  simp (disch:=first|exact Zq|fail) only [go_sem]
  refine AXc.introN (fun k4=>?_) (fun k4=>?_)
  ·have e1:S q.length=(z1,z2):=by
    have a1:=te (j+1) (by rw [htsj];exact k4) (A.length - (j+1))
    rw [show j+1+(A.length - (j+1))=A.length by omega,htsj, ←hsi]at a1
    have a2:=se (i+1) (by rw [a1];exact k4) (q.length - (i+1))
    rwa [show i+1+(q.length - (i+1))=q.length by omega,a1]at a2
   rw [e1,Yf k4]at hR
   rw [hR]
   simp (disch:=first|exact Zq|fail) only [go_sem]
  ·simp (disch:=first|exact Zq|fail) only [go_sem]
   refine zi (j+1) ⟨by omega,by rw [htsj];exact k4⟩ (by omega) (Sub.of0 [(0,0)] rfl rfl ?_ ?_)
   ·simp only [go_sem]
    simp
   ·rw [htsj]
    simp only [go_sem]
def stpP(p:Mach×List Str×Int×Int×Bool):List V:=[zah p.1,.fs (strs p.2.1) p.2.1.length,.int .i64 p.2.2.1,.int .i64 p.2.2.2.1,.bool p.2.2.2.2]
theorem stpP_inj {x y:Mach×List Str×Int×Int×Bool}(h:stpP x=stpP y):x=y:=by obtain⟨a1,a2,a3,a4,a5⟩:=x;obtain⟨b1,b2,b3,b4,b5⟩:=y;simp only [stpP,Yu,V.fs.injEq,V.int.injEq,V.bool.injEq,Yam,Yan]at h;obtain⟨h1,⟨h2,_⟩,rfl,rfl,rfl⟩:=h;rw [zbW h1,zam h2]
noncomputable def cRStep:List V→Option PR:=zu stpP StpOK fun p=>.ret (.tup [.fs (strs (zbY p.1 p.2.1 p.2.2.1 p.2.2.2.1 p.2.2.2.2).1) (zbY p.1 p.2.1 p.2.2.1 p.2.2.2.1 p.2.2.2.2).1.length,.int .i64 (zbY p.1 p.2.1 p.2.2.1 p.2.2.2.1 p.2.2.2.2).2])
theorem zAx(m:Mach)(v:List Str)(x o:Int)(lo:Bool)(h:StpOK (m,v,x,o,lo)):cRStep [zah m,.fs (strs v) v.length,.int .i64 x,.int .i64 o,.bool lo]=some (.ret (.tup [.fs (strs (zbY m v x o lo).1) (zbY m v x o lo).1.length,.int .i64 (zbY m v x o lo).2])):=
 zo (pat:=stpP) (fun x y h=>stpP_inj h) (m,v,x,o,lo) h
theorem zAw:∀ args r,cRStep args=some r→PCall prog 126 args r:=zn fun p h=>rstep_ok p.1 p.2.1 p.2.2.1 p.2.2.2.1 p.2.2.2.2 h
theorem zwN(m:Mach)(v:List Str)(x o:Int)(lo:Bool)(h:(zbY m v x o lo).2=0):(zbY m v x o lo).1.length=m.q.length:=by
 unfold zbY at h ⊢;split
 ·rename_i k;rw [Yf k]at h;exact absurd h k
 ·exact zey m v x o lo _
theorem zwM {m:Mach}(ht:ToOK m)(v:List Str)(x o:Int)(lo:Bool):∀ a∈(zbY m v x o lo).1,a.length≤1000:=by
 unfold zbY;split
 ·intro a h;cases h
 ·exact zd5 ht _ (Ye _)
theorem zfJ(m:Mach)(v:List Str):∀ q,(finK m v q).1.length=1
 |0=>rfl
 |q+1=>by
  rw [finK];split
  ·exact zfJ m v q
  split
  ·exact zfJ m v q
  ·rw [zss];exact zfJ m v q
theorem zg5(m:Mach)(v:List Str):∀ q,∀ a∈(finK m v q).1,a.length≤1000
 |0=>fun a h=>by rw [finK]at h;obtain rfl:=Yah.1 h;exact zfY _
 |q+1=>by
  rw [finK];split
  ·exact zg5 m v q
  split
  ·exact zg5 m v q
  ·exact zsr (zg5 m v q) (by rw [zfJ];exact Nat.one_pos)
theorem ztt(m:Mach)(v:List Str)(hm:FitM m)(hvl:v.length=m.q.length)(hv1:∀ a∈v,a.length≤1000):
 PCall prog 127 [zah m,.fs (strs v) v.length] (.ret (.tup [.str (finV m v).1,.int .i64 (finV m v).2])):=by
 have hΓ:=zf zel zh
 obtain⟨m1,m2,m3,m4,m5⟩:=hm
 obtain⟨R,hR⟩:∃ R,R=finV m v:=⟨_,rfl⟩
 rw [←hR]
 unfold finV at hR
 refine PCall.walk (rs:=[.tmp 4,.tmp 5]) [0,1,2,4,5,6,7,8,16,25,41] [42] mixed (hΓ) (zdp) call127 func127 rfl ntmps127 rfl (by kernel_rfl) (by simp) (by simp [push_cast,zbm]) ?_
 have s1:=zfJ m v
 have s2:=zg5 m v
 have s0:finK m v 0=([zaS m.k],0):=rfl
 have ss:∀ q,(finK m v q).2=0→finK m v (q+1)=if (nthQ m.q q).f=[]then finK m v q else addR m.k (finK m v q).1 0 (v.getD q []) (nthQ m.q q).f:=fun q h=>by rw [finK,Yd (fun k=>k h)]
 have se:∀ q,(finK m v q).2≠0→∀ d,finK m v (q+d)=finK m v q:=fun q h d=>by
  induction d with
  |zero=>rfl
  |succ d ih=>rw [←YN,finK,ih,Yf h]
 obtain⟨k,s,l,q⟩:=m
 unfold zah
 dsimp only at m1 m2 m3 m4 m5 hR hvl s0 s1 s2 ss ⊢
 generalize finK ⟨k,s,l,q⟩ v=S at hR s0 s1 s2 ss se
 simp (disch:=first|exact Zq|fail) only [go_sem]
 refine AXs.loop mixed (hΓ) (zdp) (fun i:Nat=>[(1,.fs (strs v) v.length),(2,.fp [.int .i64 k,.int .i64 s,.str l,.fs (stas q) q.length]),(6,.sl 0 0 1 1 none),(7,.int .i64 i)]) (fun i=>⟨[(0,.cells (strs (S i).1))],1⟩) (fun i=>i≤q.length∧(S i).2=0) (fun i=>q.length - i) 0 (by kernel_rfl) ⟨Yk _,by rw [s0]⟩ (Sub.of0 [(0,0)] rfl rfl ?_ ?_) ?_
 ·simp only [go_sem]
 ·simp only [go_sem,s0]
  try rfl
 rintro i ⟨h1,h2⟩
 simp (disch:=first|exact Zq|fail) only [go_sem]
 refine AXc.introP (fun h3=>?_) (fun h3=>?_)
 rotate_left
 ·obtain rfl:i=q.length:=by omega
  rw [Yd (fun k=>k h2)]at hR
  have sl:=s1 q.length
  rw [hR]
  simp only [go_sem]
  refine AXa.go mixed (hΓ) (zdp) (by kernel_rfl) ?_
  simp (disch:=first|exact Zq|fail) only [go_sem,sl]
  try (repeat refine sdC ?_)
 have hi:i<q.length:=by omega
 have hsi:=ss i h2
 have hvi:=hv1 _ (zbr (l:=v) (i:=i) (by omega))
 have hsl:=s1 i
 have hso:=s2 i
 have hqm:nthQ q i∈q:=staR.nth_mem hi
 have at1:=zeT q i hi
 have n0:=zwU q i hi
 have hf:=m4 _ hqm
 generalize hvv:v.getD i []=vi at hsi hvi
 generalize hss:nthQ q i=st at at1 n0 hf hsi
 obtain⟨F,A⟩:=st
 dsimp only at at1 n0 hf hsi
 simp (disch:=first|exact Zq|fail) only [go_sem,at1]
 refine⟨by omega,?_⟩
 refine AXc.introN (fun h4=>?_) (fun h4=>?_)
 ·rw [Yd h4]at hsi
  have ho:zos (k,(S i).1,0,vi,F):=⟨by dsimp only;omega,YbX _,by dsimp only;omega,by dsimp only;omega,hf,fun a ha=>Yn (hso a ha) (by decide)⟩
  have t2:ΔU8 171 [.int .i64 k,.sl 0 0 1 1 none,.int .i64 0,.str vi,.str F] ⟨[(0,.cells (strs (S i).1))],1⟩=some ⟨True,.int .i64 (addR k (S i).1 0 vi F).2,⟨[(0,.cells (strs (addR k (S i).1 0 vi F).1))],1⟩,[0],[0]⟩:=zst 0 k (S i).1 0 vi F 1 none _ 1 (by omega) ho rfl rfl
  simp (disch:=first|exact Zq|fail) only [go_sem,at1,t2,hvv]
  refine⟨by omega,by omega,by omega,AXk.intro (by kernel_rfl) ?_⟩
  generalize addR k (S i).1 0 vi F=z at hsi t2
  obtain⟨z1,z2⟩:=z
  dsimp only
  simp (disch:=first|exact Zq|fail) only [go_sem]
  refine AXc.introN (fun k4=>?_) (fun k4=>?_)
  ·have e1:S q.length=(z1,z2):=by
    have a2:=se (i+1) (by rw [hsi];exact k4) (q.length - (i+1))
    rwa [show i+1+(q.length - (i+1))=q.length by omega,hsi]at a2
   rw [e1,Yf k4]at hR
   rw [hR]
   simp (disch:=first|exact Zq|fail) only [go_sem]
  ·simp (disch:=first|exact Zq|fail) only [go_sem]
   refine zi (i+1) ⟨by omega,by rw [hsi];exact k4⟩ (by omega) (Sub.of0 [(0,0)] rfl rfl ?_ ?_)
   ·simp only [go_sem]
    simp
   ·rw [hsi]
    simp only [go_sem]
 ·rw [Yf h4]at hsi
  simp (disch:=first|exact Zq|fail) only [go_sem]
  refine zi (i+1) ⟨by omega,by rw [hsi];exact h2⟩ (by omega) (Sub.of0 [(0,0)] rfl rfl ?_ ?_)
  ·simp only [go_sem]
   simp
  ·rw [hsi]
   simp only [go_sem]
def finP(p:Mach×List Str):List V:=[zah p.1,.fs (strs p.2) p.2.length]
theorem finP_inj {x y:Mach×List Str}(h:finP x=finP y):x=y:=by simp only [finP,Yu,V.fs.injEq,Yam]at h;exact YT (zbW h.1) (zam h.2.1)
noncomputable def cRFin:List V→Option PR:=zu finP (fun p=>FitM p.1∧p.2.length=p.1.q.length∧∀ a∈p.2,a.length≤1000) fun p=>.ret (.tup [.str (finV p.1 p.2).1,.int .i64 (finV p.1 p.2).2])
theorem cRFin_eq(m:Mach)(v:List Str)(hm:FitM m)(hvl:v.length=m.q.length)(hv1:∀ a∈v,a.length≤1000):cRFin [zah m,.fs (strs v) v.length]=some (.ret (.tup [.str (finV m v).1,.int .i64 (finV m v).2])):=zo (pat:=finP) (fun x y h=>finP_inj h) (m,v) ⟨hm,hvl,hv1⟩
theorem cRFin_ok:∀ args r,cRFin args=some r→PCall prog 127 args r:=zn fun p h=>ztt p.1 p.2 h.1 h.2.1 h.2.2
def zoq(m:Mach):Prop:=∀ s∈m.q,∀ a∈s.a,a.i≠0
theorem zwc(m:Mach)(hq:m.q.length≤1000000):PCall prog 122 [zah m] (.ret (.fs (strs (zvR m.k m.q.length)) m.q.length)):=by
 have hΓ:=zf zel zh;refine PCall.walk (rs:=[.tmp 2]) [0,1,2,3,4,12] [42] mixed (hΓ) (zg) zAa func122 rfl ntmps122 rfl (by kernel_rfl) (by simp) (by simp [push_cast,zbm]) ?_;obtain⟨k,s,l,q⟩:=m;dsimp only at hq;unfold zah;dsimp only;simp (disch:=first|exact Zq|fail) only [go_sem];refine⟨by omega,?_⟩;refine AXs.loop mixed (hΓ) (zg) (fun i:Nat=>[(1,.fp [.int .i64 k,.int .i64 s,.str l,.fs (stas q) q.length]),(3,.sl 0 0 q.length 1 none),(4,.int .i64 i)]) (fun i=>⟨[(0,.cells (strs (zvI k q.length i)))],1⟩) (fun i=>i≤q.length) (fun i=>q.length - i) 0 (by kernel_rfl) (Yk _) (Sub.of0 [(0,0)] rfl rfl ?_ ?_) ?_
 ·simp only [go_sem]
 ·simp only [go_sem,zqO]
 intro i h1;simp (disch:=first|exact Zq|fail) only [go_sem];refine AXc.introP (fun h2=>?_) (fun h2=>?_)
 ·have hi:i<q.length:=by omega
  have hz:=zqP (k:=k) hi;have hl:=zwa (k:=k) h1;simp (disch:=first|exact Zq|fail) only [go_sem,zgR,hz,hl];try (repeat refine sdC ?_)
  refine zi (i+1) (by omega) (by omega) (Sub.of0 [(0,0)] rfl rfl ?_ ?_)
  ·simp only [go_sem];simp
  ·simp only [go_sem]
 ·obtain rfl:i=q.length:=by omega
  rw [zwb];simp only [go_sem];refine AXa.go mixed (hΓ) (zg) (by kernel_rfl) ?_;simp only [go_sem];exact znp _ (zeR k _).symm rfl
noncomputable def zAs:List V→Option PR:=zu (fun m:Mach=>[zah m]) (fun m=>m.q.length≤1000000) fun m=>.ret (.fs (strs (zvR m.k m.q.length)) m.q.length)
theorem zvy(m:Mach)(h:m.q.length≤1000000):zAs [zah m]=some (.ret (.fs (strs (zvR m.k m.q.length)) m.q.length)):=zo (pat:=fun m:Mach=>[zah m]) (fun x y h=>zbW (by simpa using h)) m h
theorem zvx:∀ args r,zAs args=some r→PCall prog 122 args r:=zn fun m h=>zwc m h
theorem ztl(m:Mach)(hm:FitM m)(hq:m.q.length≤1000000)(hs:zoq m):PCall prog 80 [zah m,.bool true] (.ret (.tup [.nilS,.int .i64 0])):=by
 have hΓ:=zf zvx zh;have p1:=zvy m hq;obtain⟨m1,m2,m3,m4,m5⟩:=hm;refine PCall.walk (rs:=[.tmp 4,.tmp 5]) [0,1,2,4,5,6,7,8,9,10,11,12,20,36,59,77,88,91] [42] mixed (hΓ) (zg) call80 func80 rfl ntmps80 rfl (by kernel_rfl) (by simp) (by simp [push_cast,zbm]) ?_;unfold zoq at hs;obtain⟨k,s,l,q⟩:=m;unfold zah at p1 ⊢;dsimp only at m1 m2 m3 m4 m5 hq hs p1;simp (disch:=first|exact Zq|fail) only [go_sem];refine⟨by omega,?_⟩;refine AXs.loop mixed (hΓ) (zg) (fun p:Nat×List V=>[(1,.bool true),(2,.fp [.int .i64 k,.int .i64 s,.str l,.fs (stas q) q.length]),(6,.sl 0 0 q.length 1 none),(7,.bool false),(8,.int .i64 p.1)]) (fun p=>⟨[(0,.cells p.2)],1⟩) (fun p=>p.1≤q.length∧p.2.length=q.length∧∀ x∈p.2,Pure x) (fun p=>q.length - p.1) (0,List.replicate q.length .nilS) (by kernel_rfl) ⟨Yk _,by simp,fun x hx=>by rw [(YbG.1 hx).2];exact .nilS⟩ (Sub.of0 [(0,0)] rfl rfl ?_ ?_) ?_
 ·simp only [go_sem]
 ·simp only [go_sem];exact zt fun x hx=>by rw [(YbG.1 hx).2];exact .nilS
 rintro⟨i,cs⟩ ⟨h1,h2,h0⟩;dsimp only at h1 h2 h0 ⊢;simp (disch:=first|exact Zq|fail) only [go_sem];refine AXc.introP (fun h3=>?_) (fun h3=>?_);rotate_left
 ·obtain rfl:i=q.length:=by omega
  simp only [go_sem];refine AXa.go mixed (hΓ) (zg) (by kernel_rfl) ?_;simp (disch:=first|exact Zq|fail) only [go_sem]
 have hi:i<q.length:=by omega
 have hqm:nthQ q i∈q:=staR.nth_mem hi;have at1:=zeT q i hi;have n1:=zhz q i hi;have ha:=m2 _ hqm;have hsi:=hs _ hqm;generalize hss:nthQ q i=st at at1 n1 ha hsi;obtain⟨F,A⟩:=st;dsimp only at at1 n1 ha hsi;obtain⟨cs',hcs⟩:∃ cs',cs'=cs.set i (.fs (strs (zvR k q.length)) q.length):=⟨_,rfl⟩;have hl':cs'.length=q.length:=by rw [hcs,YL,h2]
 have hp':∀ x∈cs',Pure x:=fun x hx=>by
  rw [hcs]at hx;rcases Ya7 hx with hx|rfl
  ·exact h0 x hx
  ·exact .fs (zM _)
 simp (disch:=first|exact Zq|fail) only [go_sem,p1,h2];try (repeat refine sdC ?_)
 rw [←hcs];refine AXs.loop mixed (hΓ) (zg) (fun j:Nat=>[(1,.bool true),(2,.fp [.int .i64 k,.int .i64 s,.str l,.fs (stas q) q.length]),(6,.sl 0 0 q.length 1 none),(7,.bool false),(8,.int .i64 i),(9,.int .i64 j)]) (fun j=>⟨[(0,.cells cs')],1⟩) (fun j=>j≤A.length) (fun j=>A.length - j) 0 (by kernel_rfl) (Yk _) (Sub.of0 [(0,0)] rfl rfl ?_ ?_) ?_
 ·simp only [go_sem]
 ·simp only [go_sem];exact zt hp'
 intro j k1;simp (disch:=first|exact Zq|fail) only [go_sem,n1];try (repeat refine sdC ?_)
 refine AXc.introP (fun k3=>?_) (fun k3=>?_);rotate_left
 ·obtain rfl:j=A.length:=by omega
  simp only [go_sem];refine AXa.go mixed (hΓ) (zg) (by kernel_rfl) ?_;simp (disch:=first|exact Zq|fail) only [go_sem];refine zi (i+1,cs') ⟨by omega,hl',hp'⟩ (by dsimp only;omega) (Sub.of0 [(0,0)] rfl rfl ?_ ?_)
  ·simp only [go_sem];simp
  ·simp only [go_sem];exact zt hp'
 have hj:j<A.length:=by omega
 have at2:=zlT A j hj;have hxm:nthA A j∈A:=arcR.nth_mem hj;have hxj:=hsi _ hxm;generalize hxx:nthA A j=a at at2 hxj;obtain⟨xi,xo,xw,xt⟩:=a;dsimp only at at2 hxj;have e0:decide (xi=0)=false:=Yy hxj;simp (disch:=first|exact Zq|fail) only [go_sem,n1,at2,e0];refine⟨by omega,by omega,by omega,?_⟩;refine zi (j+1) (by omega) (by omega) (Sub.of0 [(0,0)] rfl rfl ?_ ?_)
 ·simp only [go_sem];simp
 ·simp only [go_sem];exact zt hp'
noncomputable def zr0:List V→Option PR:=zu (fun m:Mach=>[zah m,.bool true]) (fun m=>FitM m∧m.q.length≤1000000∧zoq m) fun _=>.ret (.tup [.nilS,.int .i64 0])
theorem zqj(m:Mach)(h1:FitM m)(h2:m.q.length≤1000000)(h3:zoq m):zr0 [zah m,.bool true]=some (.ret (.tup [.nilS,.int .i64 0])):=zo (pat:=fun m:Mach=>[zah m,.bool true]) (fun x y h=>zbW (by simpa using h)) m ⟨h1,h2,h3⟩
theorem zqi:∀ args r,zr0 args=some r→PCall prog 80 args r:=zn fun m h=>ztl m h.1 h.2.1 h.2.2
theorem eq_nilM8(H:Hp):aBin prog .eql 23 .nilS .nilS H=⟨True,.bool true,H,[],[]⟩:=by simp [aBin,xEq,eqV,Tryz.underlying23,XR.ar]
theorem rrest_N(m:Mach)(v:List Str):NCall prog 125 [zah m,.fs (strs v) v.length,.nilS] [] [] (.tup [.fs (strs v) v.length,.int .i64 0]) ⟨[],0⟩:=by
 refine NCall.walk (rs:=[.tmp 6,.tmp 7]) [0,1,2,3,6,7,8,9,10,11,13,20,26,49,67] [42] 0 mixed (zh) (zg) call125 func125 rfl ntmps125 rfl (by kernel_rfl) (by simp) (by simp) (by simp) ?_;obtain⟨k,s,l,q⟩:=m;unfold zah;dsimp only;simp (disch:=first|exact Zq|fail) only [go_sem,eq_nilM8];exact⟨[(6,.fs (strs v) v.length),(7,.int .i64 0)],Sub.of [] rfl (by simp only [go_sem]) (by simp only [go_sem]) (by decide) (fun b hb _=>absurd hb (Ybz b)),rfl⟩
def RestR(args:List V)(H:Hp)(r:AR):Prop:=∃(m:Mach) (v:List Str),args=[zah m,.fs (strs v) v.length,.nilS]∧(∀ b x,H.get b=some x→b<H.next)∧r=⟨True,.tup [.fs (strs v) v.length,.int .i64 0],H,[],[]⟩
theorem restR_ok:∀ args H r,RestR args H r→HCall prog 125 args H r:=by
 rintro args H r ⟨m,v,rfl,hk,rfl⟩;refine HCall.plain (rrest_N m v) (.tup fun x hx=>?_) (fun x hx=>?_) H hk
 ·simp only [YA,Y1,Ya0]at hx;rcases hx with rfl|rfl
  ·exact .fs (zM _)
  ·exact .int _ _
 ·simp only [YA,Y1,Ya0]at hx;rcases hx with rfl|rfl|rfl
  ·exact zbm m
  ·exact .fs (zM _)
  ·exact .nilS
theorem restR_eq(m:Mach)(v:List Str)(bs:List (Nat×Blk))(n:Nat)(hk:((keysB bs).all fun b=>decide (b<n))=true):conD RestR [zah m,.fs (strs v) v.length,.nilS] ⟨bs,n⟩=some ⟨True,.tup [.fs (strs v) v.length,.int .i64 0],⟨bs,n⟩,[],[]⟩:=by refine zaK ⟨m,v,rfl,zbB hk,rfl⟩ fun r' ⟨m',v',e,_,e'⟩=>?_;simp only [Yu,V.fs.injEq,Yam]at e;rw [e',zam e.2.1]
end Go.Proofs

namespace Go.Ab
theorem AXs.fzL {C:Cfg}{P:Program}{K:Out→St→Prop}{st:List Fr}{x:Code}{env env':Env}{bs:List (Nat×Blk)}{n n':Nat}(fl:List Nat)(bs':List (Nat×List V))(hW:C.Wm=[])(h0:C.nx=0)(hl:(fl.all fun b=>(zas bs b).isSome)=true)
 (he:fzE (· ∈fl) n' ⟨bs,n⟩ env env') (hh:fzC ⟨bs,n⟩ (· ∈fl) n' bs bs') (hx:AXs C P K st (.loop x) env' ⟨zvi bs',n'⟩):AXs C P K st (.loop x) env ⟨bs,n⟩:=by
 refine AX.freeze2 (F:=(· ∈fl)) (s':=⟨env',⟨zvi bs',n'⟩⟩) hW ⟨znn he,fun b x' e=>?_,fun b hb=>⟨by omega,?_⟩,fun b hb=>by omega,by rw [h0];exact Yk _⟩ hx
 ·obtain⟨h1,h2,x,h3,h4⟩:=zzh hh b x' e
  exact⟨h1,h2,x,by rw [zbh];exact h3,h4⟩
 ·have:=Yg.1 hl b hb
  rw [Yav]at this
  rw [zbh];exact this
end Go.Ab
namespace Go.Ab
def fz3H(H:Hp)(F:Nat→Prop)(n:Nat)(bs:List (Nat×Blk)):List (Nat×Blk)→Prop
 |[]=>True
 |(b,x')::r=>(b<n∧¬F b∧∃ x,zas bs b=some x∧FzB H F n x' x)∧fz3H H F n bs r
theorem zzi {H:Hp}{F:Nat→Prop}{n:Nat}{bs:List (Nat×Blk)}:∀ {bs':List (Nat×Blk)},fz3H H F n bs bs'→∀ b x',zas bs' b=some x'→b<n∧¬F b∧∃ x,zas bs b=some x∧FzB H F n x' x
 |[],_,b,x',h=>by cases h
 |(k,u)::r,hs,b,x',h=>by
  rw [←zbg,Yq]at h;by_cases hk:b=k
  ·subst hk;simp only [Yaz,Yv]at h;subst h;exact hs.1
  ·have hb:(b==k)=false:=by simp [hk]
   simp only [hb]at h;exact zzi hs.2 b x' (by rw [←zbg];exact h)
end Go.Ab

namespace Go.Proofs
open Tryz Go.Ab Go.Cnt Go.Pl Go.Tg
theorem vecR_ok {m:Mach}(ht:ToOK m)(hl:m.l.length≤1000)(x:List Int):∀ i,(vecR m x i).2=0→(vecR m x i).1.length=m.q.length∧∀ a∈(vecR m x i).1,a.length≤1000
 |0,_=>by
  rw [vecR];refine⟨by simp [zeR],fun a h=>?_⟩;rcases Ya7 h with h|rfl
  ·exact zv9 _ _ a h
  ·exact hl
 |i+1,h=>by
  rw [vecR]at h ⊢;split
  ·rename_i k;rw [Yf k]at h;exact absurd h k
  ·rename_i k;rw [Yd k]at h;exact⟨zwN _ _ _ _ _ h,zwM ht _ _ _ _⟩
structure AccOK(m:Mach)(x:List Int):Prop where
 f:FitM m
 q:m.q.length≤1000000
 t:ToOK m
 z:zoq m
 l:m.l.length≤1000
 s:0≤m.s∧m.s<m.q.length
 x:x.length≤1000000
noncomputable def ΔX8:FuncId→List V→Hp→Option AR:=zcR 122 (conD ZerR) (zcR 125 (conD RestR) noΔ)
theorem zot:zba prog ΔX8:=zay (zaZ zwd) (zay (zaZ restR_ok) zg)
theorem ralong_N(m:Mach)(x:List Int)(h:AccOK m x):NCall prog 81 [zah m,.fs (ints .i64 x) x.length,.nilS] [] [] (.tup [.str (accR m x).1,.int .i64 (accR m x).2]) ⟨[],0⟩:=by
 have hΓ:=zf zAw (zf cRFin_ok zh);have p1:ΔX8 122 [zah m] ⟨[],0⟩=_:=zwe m [] 0 h.q rfl;have p2:∀ v,ΔX8 125 [zah m,.fs (strs v) v.length,.nilS] ⟨[],1⟩=_:=fun v=>restR_eq m v [] 1 rfl;have p3:=fun v x h=>zAx m v x 0 true h;have p4:=fun v=>cRFin_eq m v h.f;have vo:=vecR_ok h.t h.l x;have so:∀ v x,v.length=m.q.length→(∀ a∈v,a.length≤1000)→StpOK (m,v,x,0,true):=fun v x h1 h2=>⟨h.f,h.q,h.t,h1,h2⟩;obtain⟨R,hR⟩:∃ R,R=accR m x:=⟨_,rfl⟩;rw [←hR];unfold accR at hR;refine NCall.walk (rs:=[.tmp 6,.tmp 7]) [0,1,2,3,6,7,8,9,10,22,39,51] [42] 0 mixed (hΓ) (zot) call81 func81 rfl ntmps81 rfl (by kernel_rfl) (by simp) (by simp) (by simp) ?_;have hx:=h.x;have hs:=h.s;have hq:=h.q;have v0:vecR m x 0=((zvR m.k m.q.length).set m.s.toNat m.l,0):=rfl;have vs:∀ i,(vecR m x i).2=0→vecR m x (i+1)=zbY m (vecR m x i).1 (x.getD i 0) 0 true:=fun i h=>by rw [vecR,Yd (fun k=>k h)]
 have ve:∀ i,(vecR m x i).2≠0→∀ d,vecR m x (i+d)=vecR m x i:=fun i h d=>by
  induction d with
  |zero=>rfl
  |succ d ih=>rw [←YN,vecR,ih,Yf h]
 clear h;obtain⟨M,hM⟩:∃ M,M=m:=⟨_,rfl⟩;rw [←hM]at hR v0 vs ve vo;have hMq:M.q.length=m.q.length:=by rw [hM]
 rw [hMq]at v0 vo;have hfin:∀ v,finV M v=finV m v:=fun v=>by rw [hM]
 have hstp:∀ v x,zbY M v x 0 true=zbY m v x 0 true:=fun v x=>by rw [hM]
 simp only [hfin]at hR;simp only [hstp]at vs;have hMk:M.k=m.k:=by rw [hM]
 have hMs:M.s=m.s:=by rw [hM]
 have hMl:M.l=m.l:=by rw [hM]
 rw [hMk,hMs,hMl]at v0;generalize vecR M x=S at hR v0 vs ve vo;clear hM hMq hfin hstp hMk hMs hMl;generalize hST:zbY m=ST at vs p3;generalize hFN:finV m=FN at hR p4;obtain⟨k,s,l,q⟩:=m;unfold zah at p1 p2 p3 p4 ⊢;dsimp only at p1 p2 p3 p4 so hs hq v0 vo;simp (disch:=first|exact Zq|fail) only [go_sem,p1];refine⟨by omega,by rw [zeR];omega,?_⟩;rw [zgR];have l0:((zvR k q.length).set s.toNat l).length=q.length:=by rw [YL,zeR]
 refine AXs.fzL [0] [] (env':=[(1,.fs (ints .i64 x) x.length),(2,.nilS),(3,.fp [.int .i64 k,.int .i64 s,.str l,.fs (stas q) q.length]),(8,.fs (strs (S (min 0 x.length)).1) (S (min 0 x.length)).1.length),(9,.int .i64 0),(10,.int .i64 0)]) (n':=1) rfl rfl rfl ?_ trivial ?_
 ·rw [Nat.zero_min,v0,l0];simp only [go_sem];right;exact FrzF.slp (by simp) rfl rfl (by simp [strs,zeR]) (by rw [Y2,Yap];exact(Yj (by simp [strs,zeR])).symm) (zM _)
 refine AXs.loop mixed (hΓ) (zot) (fun i:Nat=>[(1,.fs (ints .i64 x) x.length),(2,.nilS),(3,.fp [.int .i64 k,.int .i64 s,.str l,.fs (stas q) q.length]),(8,.fs (strs (S (min i x.length)).1) (S (min i x.length)).1.length),(9,.int .i64 0),(10,.int .i64 i)]) (fun i=>⟨[],1⟩) (fun i=>i≤x.length+1∧(S (min i x.length)).2=0) (fun i=>x.length+1 - i) 0 (by kernel_rfl) ⟨Yk _,by rw [Nat.zero_min,v0]⟩ (Sub.of0 [] rfl rfl ?_ ?_) ?_
 ·simp only [go_sem]
 ·simp only [go_sem]
 rintro i ⟨h1,h2⟩;simp (disch:=first|exact Zq|fail) only [go_sem];refine AXc.introP (fun h3=>?_) (fun h3=>?_);rotate_left
 ·obtain rfl:i=x.length+1:=by omega
  rw [Nat.min_eq_right (by omega)]at h2 ⊢;obtain⟨o1,o2⟩:=vo _ h2;have q4:=p4 _ o1 o2;rw [Yd (fun k=>k h2)]at hR;rw [hR];simp only [go_sem];refine AXa.go mixed (hΓ) (zot) (by kernel_rfl) ?_;simp (disch:=first|exact Zq|fail) only [go_sem,q4];exact⟨[(6,.str (FN (S x.length).1).1),(7,.int .i64 (FN (S x.length).1).2)],Sub.of [] rfl (by simp only [go_sem]) (by simp only [go_sem]) (by decide) (fun b hb _=>absurd hb (Ybz b)),rfl⟩
 have hi:i≤x.length:=by omega
 rw [YaK hi]at h2 ⊢;obtain⟨o1,o2⟩:=vo _ h2;have q2:=p2 (S i).1;simp (disch:=first|exact Zq|fail) only [go_sem,q2];refine AXc.introP (fun h4=>?_) (fun h4=>?_)
 ·have hil:i<x.length:=by omega
  have q3:=p3 (S i).1 (x.getD i 0) (so _ _ o1 o2);have hvs:=vs i h2;generalize ST (S i).1 (x.getD i 0) 0 true=z at q3 hvs;obtain⟨z1,z2⟩:=z;dsimp only at q3;simp (disch:=first|exact Zq|fail) only [go_sem,q3];refine⟨by omega,by omega,?_⟩;refine AXc.introN (fun h5=>?_) (fun h5=>?_)
  ·have e1:S x.length=(z1,z2):=by
    have a2:=ve (i+1) (by rw [hvs];exact h5) (x.length - (i+1))
    rwa [show i+1+(x.length - (i+1))=x.length by omega,hvs]at a2
   rw [e1,Yf h5]at hR
   rw [hR]
   simp (disch:=first|exact Zq|fail) only [go_sem]
   exact⟨[(6,.str []),(7,.int .i64 z2)],Sub.of [] rfl (by simp only [go_sem]) (by simp only [go_sem]) (by decide) (fun b hb _=>absurd hb (Ybz b)),rfl⟩
  ·simp (disch:=first|exact Zq|fail) only [go_sem];refine zi (i+1) ⟨by omega,by rw [YaK (by omega),hvs];exact h5⟩ (by omega) ?_;rw [YaK (by omega:i+1≤x.length),hvs];refine Sub.of0 [] rfl rfl ?_ ?_
   ·simp only [go_sem];simp [h5]
   ·simp only [go_sem]
 ·obtain rfl:i=x.length:=by omega
  simp (disch:=first|exact Zq|fail) only [go_sem];refine zi (x.length+1) ⟨by omega,by rw [Nat.min_eq_right (by omega)];exact h2⟩ (by omega) ?_;rw [Nat.min_eq_right (by omega:x.length≤x.length+1)];refine Sub.of0 [] rfl rfl ?_ ?_
  ·simp only [go_sem];simp
  ·simp only [go_sem]
def zCp(args:List V)(H:Hp)(r:AR):Prop:=∃(m:Mach) (x:List Int),args=[zah m,.fs (ints .i64 x) x.length,.nilS]∧AccOK m x∧(∀ b x,H.get b=some x→b<H.next)∧r=⟨True,.tup [.str (accR m x).1,.int .i64 (accR m x).2],H,[],[]⟩
theorem zBO:∀ args H r,zCp args H r→HCall prog 81 args H r:=by
 rintro args H r ⟨m,v,rfl,h,hk,rfl⟩;refine HCall.plain (ralong_N m v h) (.tup fun x hx=>?_) (fun x hx=>?_) H hk
 ·simp only [YA,Y1,Ya0]at hx;rcases hx with rfl|rfl
  ·exact .str _
  ·exact .int _ _
 ·simp only [YA,Y1,Ya0]at hx;rcases hx with rfl|rfl|rfl
  ·exact zbm m
  ·exact .fs (zfs _ _)
  ·exact .nilS
theorem zBP(m:Mach)(v:List Int)(h:AccOK m v)(bs:List (Nat×Blk))(n:Nat)(hk:((keysB bs).all fun b=>decide (b<n))=true):conD zCp [zah m,.fs (ints .i64 v) v.length,.nilS] ⟨bs,n⟩=some ⟨True,.tup [.str (accR m v).1,.int .i64 (accR m v).2],⟨bs,n⟩,[],[]⟩:=by refine zaK ⟨m,v,rfl,h,zbB hk,rfl⟩ fun r' ⟨m',v',e,_,_,e'⟩=>?_;simp only [Yu,V.fs.injEq,Yam]at e;rw [e',zlu e.2.1,zbW e.1]
noncomputable def ΔY8:FuncId→List V→Hp→Option AR:=zcR 81 (conD zCp) noΔ
theorem ΔY8_ok:zba prog ΔY8:=zay (zaZ zBO) zg
theorem ztB(m:Mach)(x:List Int)(h:AccOK m x)(hm:ze0 m=true)(hx:zdY x=true):PCall prog 52 [zah m,.fs (ints .i64 x) x.length] (.ret (.tup [.str (accR m x).1,.int .i64 (accR m x).2])):=by
 have hΓ:=zf zin (zf zgj (zf zqi zh));have p1:=zio m h.f;have p2:=zgk x (by have:=h.x;omega);have p3:=zqj m h.f h.q h.z;have p4:ΔY8 81 [zah m,.fs (ints .i64 x) x.length,.nilS] ⟨[],0⟩=_:=zBP m x h [] 0 rfl;generalize accR m x=R at p4 ⊢;refine PCall.walk (rs:=[.tmp 4,.tmp 5]) [0,1,2,4,5,6,7,15,22] [42] mixed (hΓ) (ΔY8_ok) call52 func52 rfl ntmps52 rfl (by kernel_rfl) (by simp) (by simp [push_cast,zbm]) ?_;rw [hm]at p1;rw [hx]at p2;clear h hm hx;obtain⟨k,s,l,q⟩:=m;unfold zah at p1 p3 p4 ⊢;dsimp only at p1 p3 p4 ⊢;simp (disch:=first|exact Zq|fail) only [go_sem,p1,p2,p3,p4]
def accP(p:Mach×List Int):List V:=[zah p.1,.fs (ints .i64 p.2) p.2.length]
theorem zsu {x y:Mach×List Int}(h:accP x=accP y):x=y:=by simp only [accP,Yu,V.fs.injEq,Yam]at h;exact YT (zbW h.1) (zlu h.2.1)
noncomputable def zr5:List V→Option PR:=zu accP (fun p=>AccOK p.1 p.2∧ze0 p.1=true∧zdY p.2=true) fun p=>.ret (.tup [.str (accR p.1 p.2).1,.int .i64 (accR p.1 p.2).2])
theorem zqn(m:Mach)(x:List Int)(h:AccOK m x)(hm:ze0 m=true)(hx:zdY x=true):zr5 [zah m,.fs (ints .i64 x) x.length]=some (.ret (.tup [.str (accR m x).1,.int .i64 (accR m x).2])):=zo (pat:=accP) (fun x y h=>zsu h) (m,x) ⟨h,hm,hx⟩
theorem zqm:∀ args r,zr5 args=some r→PCall prog 52 args r:=zn fun p h=>ztB p.1 p.2 h.1 h.2.1 h.2.2
theorem zo9(m:Mach)(x:List Int)(h:AccOK m x)(hm:accB m=true)(hx:zdY x=true):PCall prog 28 [zah m,.fs (ints .i64 x) x.length] (.ret (.tup [.str (accR m x).1,.int .i64 (accR m x).2])):=by
 have hΓ:=zf zin (zf zgj (zf zr8 (zf zqm zh)));have hv:ze0 m=true:=by unfold accB at hm;simp only [Yc]at hm;exact hm.1
 have p1:=zio m h.f;have p2:=zgk x (by have:=h.x;omega);have p3:=zr9 m h.f;have p4:=zqn m x h hv hx;generalize accR m x=R at p4 ⊢;refine PCall.walk (rs:=[.tmp 4,.tmp 5]) [0,1,2,4,5,13,16] [42] mixed (hΓ) (zg) call28 func28 rfl ntmps28 rfl (by kernel_rfl) (by simp) (by simp [push_cast,zbm]) ?_;rw [hv]at p1;rw [hx]at p2;rw [hm]at p3;clear h hm hx hv;obtain⟨k,s,l,q⟩:=m;unfold zah at p1 p3 p4 ⊢;dsimp only at p1 p3 p4 ⊢;simp (disch:=first|exact Zq|fail) only [go_sem,p1,p2,p3,p4]
noncomputable def znV:List V→Option PR:=zu accP (fun p=>AccOK p.1 p.2∧accB p.1=true∧zdY p.2=true) fun p=>.ret (.tup [.str (accR p.1 p.2).1,.int .i64 (accR p.1 p.2).2])
theorem znU(m:Mach)(x:List Int)(h:AccOK m x)(hm:accB m=true)(hx:zdY x=true):znV [zah m,.fs (ints .i64 x) x.length]=some (.ret (.tup [.str (accR m x).1,.int .i64 (accR m x).2])):=zo (pat:=accP) (fun x y h=>zsu h) (m,x) ⟨h,hm,hx⟩
theorem znT:∀ args r,znV args=some r→PCall prog 28 args r:=zn fun p h=>zo9 p.1 p.2 h.1 h.2.1 h.2.2
end Go.Proofs
