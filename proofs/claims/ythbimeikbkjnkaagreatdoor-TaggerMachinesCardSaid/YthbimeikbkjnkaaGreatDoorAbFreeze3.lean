/- Freezing own blocks in a call that may write blocks of the caller's. -/
import Derived.Test.YthbimeikbkjnkaaGreatDoorVM0
set_option linter.all false
set_option maxHeartbeats 16000000
set_option maxRecDepth 100000
namespace Go.Ab
open Classical in
theorem Rel.freeze3 {C:Cfg}{base:Nat}{D:Nat→Prop}{g0:G}{H0:Hp}{w0:World}{g:G}{F:Nat→Prop}{s s':St}{a:Act}{w:World}(he:Entry C base D g0 H0 w0)(r:Rel C base D g0 H0 w0 g s a w)(hW:∀ b0∈C.Wm,b0<C.nx∧∃ x,s.h.get b0=some x)(h:Fz2 C.nx F s s'):
 ∃ g',Rel C base D g0 H0 w0 g' s' a w:=by
 let cellsAt:Nat→Option (Array Value):=fun c=>match w.heap[c]? with|some (.cells arr _ _)=>some arr|_=>none
 let g':G:=⟨fun b=>if ¬F b∧b<s'.h.next then g.mu b else none,fun c=>(g.phi c).or (if ∃ b T,F b∧g.mu b=some T∧T.c=c then cellsAt c else none)⟩
 have hp:∀ c a,g.phi c=some a→g'.phi c=some a:=fun c a e=>by show (g.phi c).or _=_;rw [e];rfl
 have hm:∀ b,(¬F b∧b<s'.h.next)→g'.mu b=g.mu (id b):=fun b hb=>Yf hb
 have hm':∀ b T,g'.mu b=some T→(¬F b∧b<s'.h.next)∧g.mu b=some T:=by
  intro b T e;simp only [g']at e;split at e
  ·rename_i hb;exact⟨hb,e⟩
  ·cases e
 have pnx:=he.nx
 have ha:∀ b T arr t,F b→g.mu b=some T→w.heap[T.c]? =some (.cells arr t (0,0))→g'.phi T.c=some arr:=by
  intro b T arr t hF hmu hh;show (g.phi T.c).or _=_;obtain⟨x,hx⟩:=(h.live b hF).2;obtain⟨T1,o,e1,e2,_⟩:=r.post.inv.cont b x (he.inD b) hx;obtain rfl:T1=T:=by rw [hmu]at e1;exact(Yl e1).symm
  rw [e2,Yf ⟨b,T1,hF,hmu,rfl⟩];show cellsAt T1.c=some arr;simp only [cellsAt,hh]
 have hphi:∀ c a,g'.phi c=some a→g.phi c=some a∨((∃ b T,F b∧g.mu b=some T∧T.c=c)∧cellsAt c=some a):=by
  intro c a e;have e':(g.phi c).or (if ∃ b T,F b∧g.mu b=some T∧T.c=c then cellsAt c else none)=some a:=e;cases e1:g.phi c with
  |some a'=>rw [e1]at e';left;exact e'
  |none=>
   rw [e1]at e';simp only [YcU]at e';split at e'
   ·rename_i hc;exact .inr ⟨hc,e'⟩
   ·cases e'
 refine⟨g',⟨⟨r.env.glob.mono hp,r.env.size,fun t v' e=>?_⟩,r.defers,?_⟩⟩
 ·rcases h.env t v' e with rfl|⟨v,ev,rn|fz⟩
  ·exact .any _
  ·exact(r.env.rel t v ev).rn hp hm rn
  ·exact fz.rel r.post.inv (fun b _=>he.inD b) hp ha (r.env.rel t v ev)
 ·have own:∀ b T,(∃ x,s.h.get b=some x)→g.mu b=some T→C.nx≤b→w0.heap.size≤T.c:=by
   intro b T ⟨x,hx⟩ e hb
   rcases r.post.newmu b T e with e0|⟨_,hc|⟨b0,h0,T0,e0,ec⟩⟩
   ·have:=(he.inv.dom b T e0).1;omega
   ·exact hc
   ·obtain⟨h1,y,hy⟩:=hW b0 h0;have:=r.post.inv.inj b b0 x y T T0 (he.inD _) (he.inD _) hx hy e (r.post.le.1 _ _ e0) ec.symm;omega
  refine⟨?_,?_,?_,?_,r.post.frame,r.post.size,r.post.os,r.post.tape,r.post.output,?_,?_⟩
  ·refine⟨fun b T e=>?_,fun c a e=>hp c a (r.post.le.2 c a e)⟩
   have hb:=(he.inv.dom b T e).1
   have hnF:¬F b:=fun hF=>by have:=(h.live b hF).1;omega
   have:g'.mu b=g.mu b:=hm b ⟨hnF,by have:=h.next;omega⟩
   rw [this]
   exact r.post.le.1 b T e
  ·refine⟨fun c a e=>?_,fun b T e=>?_,fun b x e=>(h.heap b x e).1,fun b x _ e=>?_,fun b b' x x' T T' _ _ e e' m m' ec=>?_,r.post.inv.base⟩
   ·rcases hphi c a e with e|⟨_,e⟩
    ·exact r.post.inv.frz c a e
    ·simp only [cellsAt]at e
     split at e
     ·rename_i arr t fr hh;cases e;exact⟨t,fr,hh⟩
     ·cases e
   ·obtain⟨h1,h2⟩:=hm' b T e
    exact⟨h1.2,(r.post.inv.dom _ T h2).2⟩
   ·obtain⟨hb,hnF,y,hy,rn⟩:=h.heap b x e
    obtain⟨T,o,e1,e2,e3,e4⟩:=r.post.inv.cont _ y (he.inD _) hy
    refine⟨T,o,(hm b ⟨hnF,hb⟩).trans e1,?_,e3,?_⟩
    rotate_left
    ·rcases rn with rn|⟨cs,cs',rfl,rfl,hl,hc⟩
     ·exact e4.rn hp hm rn
     ·cases e4 with
      |cells hs hbd hpw=>
       refine .cells hs (by omega) fun i v hv=>?_
       have hlt:=(Yx.1 hv).1
       obtain⟨u,hu,ru⟩:=hpw i _ (Yb (by omega))
       refine⟨u,hu,?_⟩
       rcases hc i _ v (Yb (by omega)) hv with k|k
       ·exact ru.rn hp hm k
       ·exact k.rel r.post.inv (fun b _=>he.inD b) hp ha ru
    cases e5:g'.phi T.c with
    |none=>rfl
    |some ar=>
     rcases hphi _ _ e5 with e6|⟨⟨b1,T1,hF1,hm1,hc1⟩,_⟩
     ·rw [e2]at e6;cases e6
     ·obtain⟨x1,hx1⟩:=(h.live b1 hF1).2
      have:=r.post.inv.inj b1 b x1 y T1 T (he.inD _) (he.inD _) hx1 hy hm1 e1 hc1
      subst this
      exact absurd hF1 hnF
   ·obtain⟨hb,hnF,y,hy,_⟩:=h.heap b x e
    obtain⟨hb',hnF',y',hy',_⟩:=h.heap b' x' e'
    exact r.post.inv.inj _ _ y y' T T' (he.inD _) (he.inD _) hy hy' (hm' b T m).2 (hm' b' T' m').2 ec
  ·intro b T e
   exact r.post.newmu b T (hm' b T e).2
  ·intro c a e
   rcases hphi c a e with e|⟨⟨b,T,hF,hmu,rfl⟩,_⟩
   ·exact r.post.newphi c a e
   ·exact .inr (own b T (h.live b hF).2 hmu (h.live b hF).1)
  ·intro b hb hn
   rw [h.elder b (by omega)]
   exact r.post.aframe b hb hn
  ·have:=h.next;omega
theorem AX.freeze3 {C:Cfg}{P:Program}{K:Out→St→Prop}{F:Nat→Prop}{c:Code}{s s':St}(hW:∀ b0∈C.Wm,b0<C.nx∧∃ x,s.h.get b0=some x)(hs:Fz2 C.nx F s s')(h:AX C P c s' K):AX C P c s K:=fun base D g0 H0 w0 _ a w he r=>
 let ⟨g',r'⟩:=r.freeze3 he hW hs
 h base D g0 H0 w0 g' a w he r'
theorem AXa.fz3 {C:Cfg}{P:Program}{K:Out→St→Prop}{st:List Fr}{y:Code}{env env':Env}{bs:List (Nat×Blk)}{n n':Nat}(fl:List Nat)(bs':List (Nat×Blk))(hW:∀ b∈C.Wm,b<C.nx∧(zas bs b).isSome=true)(hl:∀ b∈fl,C.nx≤b∧(zas bs b).isSome=true)
 (he:fzE (· ∈fl) n' ⟨bs,n⟩ env env') (hh:∀ b x',zas bs' b=some x'→b<n'∧¬b∈fl∧∃ x,zas bs b=some x∧FzB ⟨bs,n⟩ (· ∈fl) n' x' x) (hel:∀ b,b<C.nx→zas bs' b=zas bs b) (hn:C.nx≤n') (hx:AXa C P K st y env' ⟨bs',n'⟩):AXa C P K st y env ⟨bs,n⟩:=by
 refine AX.freeze3 (F:=(· ∈fl)) (fun b hb=>⟨(hW b hb).1,?_⟩) ⟨znn he,fun b x' e=>?_,fun b hb=>⟨(hl b hb).1,?_⟩,fun b hb=>?_,hn⟩ hx
 ·have:=(hW b hb).2
  rw [Yav]at this
  rw [zbh];exact this
 ·obtain⟨h1,h2,x,h3,h4⟩:=hh b x' (by rw [←zbh];exact e)
  exact⟨h1,h2,x,by rw [zbh];exact h3,h4⟩
 ·have:=(hl b hb).2
  rw [Yav]at this
  rw [zbh];exact this
 ·show (⟨bs',n'⟩:Hp).get b=(⟨bs,n⟩:Hp).get b
  rw [zbh,zbh];exact hel b hb
end Go.Ab

namespace Go.Ab
variable {P:Program}
structure Meth(α σ:Type) where
 pat:α→List V
 cel:σ→List V
 cond:α→σ→Prop
 val:α→σ→V
 upd:α→σ→σ
 patI:∀ x y,pat x=pat y→x=y
 celI:∀ x y,cel x=cel y→x=y
 patP:∀ x,∀ v∈pat x,Pure v
 celP:∀ s,∀ v∈cel s,Pure v
 valP:∀ x s,Pure (val x s)
variable {α σ:Type}(M:Meth α σ)
def MethW(args:List V)(H:Hp)(r:AR):Prop:=
 ∃(b:Nat) (x:α) (s:σ),args=.ptr b 0::M.pat x∧M.cond x s∧H.get b=some (.cells (M.cel s))∧(∀ b x,H.get b=some x→b<H.next)∧
  r=⟨True,M.val x s,H.put b (.cells (M.cel (M.upd x s))),[b],[b]⟩
def MethR(args:List V)(H:Hp)(r:AR):Prop:=
 ∃(b:Nat) (x:α) (s:σ),args=.ptr b 0::M.pat x∧M.cond x s∧H.get b=some (.cells (M.cel s))∧(∀ b x,H.get b=some x→b<H.next)∧
  r=⟨True,M.val x s,H,[b],[]⟩
theorem zmU {π:Nat→Nat}{N:Nat→Prop}{b c:Nat}(hb:N b)(hc:π b=c){r:List V}(hr:∀ x∈r,Pure x):LRel (Rn π N) (.ptr b 0::r) (.ptr c 0::r):=by
 subst hc;refine⟨rfl,fun i x y hx hy=>?_⟩;match i with
 |0=>cases hx;cases hy;exact .ptr hb
 |i+1=>simp only [Yas]at hx hy;rw [hx]at hy;cases hy;exact .same (hr _ (YR hx))
theorem zrn {f:FuncId}(hN:∀ x s,M.cond x s→NCall P f (.ptr 0 0::M.pat x) [.cells (M.cel s)] [0] (M.val x s) ⟨[(0,.cells (M.cel (M.upd x s)))],1⟩):∀ args H r,MethW M args H r→HCall P f args H r:=by rintro args H r ⟨b,x,s,rfl,hc,hb,hk,rfl⟩;exact HCall.putS (hN x s hc) (M.valP x s) (M.celP s) (M.celP _) b _ H (zmU (b:=0) (c:=b) (Nat.zero_lt_one) rfl (M.patP x)) hb hk
theorem methR_ok {f:FuncId}(hN:∀ x s,M.cond x s→NCall P f (.ptr 0 0::M.pat x) [.cells (M.cel s)] [] (M.val x s) ⟨[(0,.cells (M.cel s))],1⟩):∀ args H r,MethR M args H r→HCall P f args H r:=by
 rintro args H r ⟨b,x,s,rfl,hc,hb,hk,rfl⟩;refine HCall.none (hN x s hc) (M.valP x s) [b] _ H rfl (by simp) (zmU (b:=0) (c:=b) (Nat.zero_lt_one) rfl (M.patP x)) (fun i y hy=>?_) (fun i y hy π N=>?_) hk
 ·match i with
  |0=>cases hy;exact⟨b,rfl,hb,.cells (zt (M.celP s))⟩
  |i+1=>simp at hy
 ·match i with
  |0=>cases hy;exact .cells (zt (M.celP s))
  |i+1=>simp at hy
theorem zro {b:Nat}{x:α}{s:σ}{bs:List (Nat×Blk)}{n:Nat}(hc:M.cond x s)(hb:zas bs b=some (.cells (M.cel s)))(hk:((keysB bs).all fun b=>decide (b<n))=true):
 conD (MethW M) (.ptr b 0::M.pat x) ⟨bs,n⟩=some ⟨True,M.val x s,(⟨bs,n⟩:Hp).put b (.cells (M.cel (M.upd x s))),[b],[b]⟩:=by
 refine zaK ⟨b,x,s,rfl,hc,by rw [zbh];exact hb,zbB hk,rfl⟩ fun r' ⟨b',x',s',e1,_,e2,_,e3⟩=>?_
 simp only [Yu,V.ptr.injEq,Yam]at e1
 obtain⟨rfl,e1⟩:=e1
 have ex:=M.patI _ _ e1
 subst ex
 rw [zbh,hb]at e2
 simp only [Yv,Blk.cells.injEq]at e2
 have es:=M.celI _ _ e2
 subst es
 exact e3
theorem methR_eq {b:Nat}{x:α}{s:σ}{bs:List (Nat×Blk)}{n:Nat}(hc:M.cond x s)(hb:zas bs b=some (.cells (M.cel s)))(hk:((keysB bs).all fun b=>decide (b<n))=true):
 conD (MethR M) (.ptr b 0::M.pat x) ⟨bs,n⟩=some ⟨True,M.val x s,⟨bs,n⟩,[b],[]⟩:=by
 refine zaK ⟨b,x,s,rfl,hc,by rw [zbh];exact hb,zbB hk,rfl⟩ fun r' ⟨b',x',s',e1,_,e2,_,e3⟩=>?_
 simp only [Yu,V.ptr.injEq,Yam]at e1
 obtain⟨rfl,e1⟩:=e1
 have ex:=M.patI _ _ e1
 subst ex
 rw [zbh,hb]at e2
 simp only [Yv,Blk.cells.injEq]at e2
 have es:=M.celI _ _ e2
 subst es
 exact e3
theorem HCall.freshP {f:FuncId}{args:List V}{X:List V}{v:V}(hN:NCall P f args [] [] (.tup [.ptr 0 0,v]) ⟨[(0,.cells X)],1⟩)(hX:∀ x∈X,Pure x)(hv:Pure v)(ha:∀ x∈args,Pure x)
 (H:Hp) (hk:∀ b x,H.get b=some x→b<H.next):HCall P f args H ⟨True,.tup [.ptr H.next 0,v],⟨(H.next,.cells X)::H.bs,H.next+1⟩,[],[]⟩:=by
 have t0:zU [] H.next H.next=0:=by unfold zU;rw [Yd (by omega)];simp
 refine HCall.of hN [] args (.tup [.ptr H.next 0,v]) H _ rfl .nil (zt ha) (fun i x hx=>by simp at hx) ?_ (by show H.next+1+0=H.next+1;rfl) (fun b x' hx'=>?_) (fun b hb _=>?_)
 ·refine .tup rfl fun i x y hx hy=>?_
  match i with
  |0=>
   cases hx;cases hy
   have:=Rn.ptr (π:=zU [] H.next) (N:=fun b=>b∈[]∨(H.next≤b∧b<H.next+1)) (b:=H.next) (off:=0) (.inr ⟨Ye _,by omega⟩)
   rwa [t0]at this
  |1=>cases hx;cases hy;exact .same hv
  |i+2=>simp at hx
 ·have hx'':(((H.next,Blk.cells X)::H.bs:List (Nat×Blk)).lookup b)=some x':=hx'
  rw [Yq]at hx''
  by_cases hb1:b=H.next
  ·subst hb1
   simp only [Yaz,Yv]at hx''
   subst hx''
   exact .inr ⟨.inr ⟨by omega,by show H.next<H.next+1;omega⟩,_,by rw [t0];rfl,.cells (zt hX)⟩
  ·have hq:(b==H.next)=false:=by simp [hb1]
   simp only [hq]at hx''
   exact .inl ⟨hk b _ hx'',by simp,hx''⟩
 ·show (((H.next,Blk.cells X)::H.bs:List (Nat×Blk)).lookup b)=H.get b
  rw [Yq]
  have hne:(b==H.next)=false:=by simp;omega
  rw [hne];rfl
theorem HCall.plain {f:FuncId}{args:List V}{v:V}(hN:NCall P f args [] [] v ⟨[],0⟩)(hv:Pure v)(ha:∀ x∈args,Pure x)(H:Hp)(hk:∀ b x,H.get b=some x→b<H.next):HCall P f args H ⟨True,v,H,[],[]⟩:=
 HCall.none hN hv [] args H rfl .nil (zt ha) (fun i x hx=>by simp at hx) (fun i x hx=>by simp at hx) hk
end Go.Ab

namespace Go.Proofs
open Tryz Go.Ab Go.Cnt
def idxS:List Str→Str→Nat
 |[],_=>0
 |a::l,s=>if a=s then 0 else idxS l s+1
theorem zia:∀(l:List Str) (s:Str),idxS l s≤l.length
 |[],_=>Ye _
 |a::l,s=>by
  have:=zia l s;unfold idxS;split
  ·omega
  ·simp only [Ym];omega
theorem zlv:∀ {l:List Str} {s:Str},idxS l s<l.length→l.getD (idxS l s) []=s
 |[],_,h=>by simp at h
 |a::l,s,h=>by
  unfold idxS at h ⊢;split
  ·rename_i e;simpa using e
  ·rename_i e;rw [Yd e]at h;have:=zlv (l:=l) (s:=s) (by simpa using h);simpa using this
theorem zpL:∀ {l:List Str} {s:Str} {i:Nat},i<l.length→l.getD i []=s→(∀ j,j<i→l.getD j []≠s)→idxS l s=i
 |[],_,_,h,_,_=>by simp at h
 |a::l,s,0,_,h,_=>by
  have:a=s:=by simpa using h
  unfold idxS;rw [Yf this]
 |a::l,s,i+1,h,h1,h2=>by
  have h3:a≠s:=by simpa using h2 0 (by omega)
  unfold idxS;rw [Yd h3,zpL (l:=l) (s:=s) (i:=i) (by simpa using h) (by simpa using h1) (fun j hj=>by simpa using h2 (j+1) (by omega))]
theorem znh:∀ {l:List Str} {s:Str},(∀ j,j<l.length→l.getD j []≠s)→idxS l s=l.length
 |[],_,_=>rfl
 |a::l,s,h=>by
  have h3:a≠s:=by simpa using h 0 (by simp)
  unfold idxS;rw [Yd h3,znh (l:=l) (s:=s) (fun j hj=>by simpa using h (j+1) (by simpa using hj))];rfl
def ixI(l:List Str)(s:Str):Int:=if idxS l s<l.length then idxS l s else -1
theorem zti(l:List Str)(s:Str)(hl:l.length≤1000000000000000):PCall prog 31 [.fs (strs l) l.length,.str s] (.ret (.int .i64 (ixI l s))):=by
 refine PCall.wD (rs:=[.tmp 4]) [0,1,4,5,9,17] [] mixed (zh) (zg) call31 func31 rfl ntmps31 rfl ?_;simp only [go_sem];refine AXs.loop mixed (zh) (zg) (fun i:Nat=>[(0,.fs (strs l) l.length),(1,.str s),(5,.int .i64 i)]) (fun _=>⟨[],0⟩) (fun i=>i≤l.length∧∀ j,j<i→l.getD j []≠s) (fun i=>l.length - i) 0 (by kernel_rfl) ⟨Yk _,fun j hj=>by omega⟩ (Sub.of0 [] rfl rfl ?_ ?_) ?_
 ·simp only [go_sem]
 ·simp only [go_sem]
 rintro i ⟨h1,h2⟩;simp only [go_sem];refine AXc.introP (fun h3=>?_) (fun h3=>?_)
 ·have hi:i<l.length:=by omega
  simp (disch:=first|exact Zq|fail) only [go_sem]
  (repeat refine sdC ?_);refine AXc.introP (fun h4=>?_) (fun h4=>?_)
  ·have:=zpL hi h4 h2;have e:ixI l s=i:=by unfold ixI;rw [this,Yf hi]
   rw [e];simp only [go_sem]
  ·simp (disch:=first|exact Zq|fail) only [go_sem];refine zi (i+1) ⟨by omega,fun j hj=>?_⟩ (by omega) (Sub.of0 [] rfl rfl ?_ ?_)
   ·by_cases hji:j<i
    ·exact h2 j hji
    ·obtain rfl:j=i:=by omega
     exact h4
   ·simp only [go_sem];simp
   ·simp only [go_sem]
 ·obtain rfl:i=l.length:=by omega
  have e:ixI l s= -1:=by unfold ixI;rw [znh h2,Yd (by omega)]
  rw [e];simp only [go_sem];refine AXa.go mixed (zh) (zg) (by kernel_rfl) ?_;simp only [go_sem]
noncomputable def cRIx:List V→Option PR:=zu (fun p:List Str×Str=>[.fs (strs p.1) p.1.length,.str p.2]) (fun p=>p.1.length≤1000000000000000) fun p=>.ret (.int .i64 (ixI p.1 p.2))
@[go_sem] theorem cRIx_eq(l:List Str)(s:Str)(hl:l.length≤1000000000000000):cRIx [.fs (strs l) l.length,.str s]=some (.ret (.int .i64 (ixI l s))):=
 zo (pat:=fun p:List Str×Str=>[.fs (strs p.1) p.1.length,.str p.2]) (fun x y h=>by simp at h;exact YT (zam h.1.1) h.2) (l,s) hl
theorem cRIx_ok:∀ args r,cRIx args=some r→PCall prog 31 args r:=zn fun p h=>zti p.1 p.2 h
theorem inc_lt {l:List Str}(h:incS l=true):∀ i j,i<j→j<l.length→ltS (l.getD i []) (l.getD j [])=true:=by
 have h0:∀ i,i+1<l.length→cmpS (l.getD i []) (l.getD (i+1) [])<0:=by unfold incS at h;exact @of_decide_eq_true _ (Classical.propDecidable _) h
 have h1:∀ i,i+1<l.length→ltS (l.getD i []) (l.getD (i+1) [])=true:=fun i hi=>by
  have:=h0 i hi;rcases zgi (l.getD i []) (l.getD (i+1) [])with⟨k,e⟩|⟨k,e⟩|⟨k,k',e⟩
  ·exact k
  ·omega
  ·omega
 intro i j;induction j with
 |zero=>intro h _;omega
 |succ j ih=>
  intro hij hj;by_cases e:i=j
  ·subst e;exact h1 i hj
  ·exact zeK (ih (by omega) (by omega)) (h1 j hj)
def lbS(l:List Str)(s:Str):Nat:=(l.takeWhile fun a=>ltS a s).length
theorem lbS_eq {l:List Str}{s:Str}{i:Nat}(hi:i≤l.length)(h1:∀ j,j<i→ltS (l.getD j []) s=true)(h2:i<l.length→ltS (l.getD i []) s=false):lbS l s=i:=by
 unfold lbS;induction l generalizing i with
 |nil=>simp at hi;simp [hi]
 |cons a l ih=>
  cases i with
  |zero=>have:=h2 (by simp);rw [List.takeWhile_cons,Yd (by simpa using this)];rfl
  |succ i=>have h0:=h1 0 (by omega);rw [List.takeWhile_cons,Yf (by simpa using h0),Ym,ih (i:=i) (by simpa using hi) (fun j hj=>by simpa using h1 (j+1) (by omega)) (fun hj=>by simpa using h2 (by simpa using hj))]
theorem less_ok(a b:Str):PCall prog 109 [.str a,.str b] (.ret (.bool (ltS a b))):=by refine PCall.wD (rs:=[.tmp 4]) [0,1,4] [] mixed (zf zn0 zh) (zg) call109 func109 rfl ntmps109 rfl ?_;simp only [go_sem]
noncomputable def cLess:List V→Option PR:=zu (fun p:Str×Str=>[.str p.1,.str p.2]) (fun _=>True) fun p=>.ret (.bool (ltS p.1 p.2))
@[go_sem] theorem cLess_eq(a b:Str):cLess [.str a,.str b]=some (.ret (.bool (ltS a b))):=zo (pat:=fun p:Str×Str=>[.str p.1,.str p.2]) (fun x y h=>by simp at h;exact YT h.1 h.2) (a,b) trivial
theorem cLess_ok:∀ args r,cLess args=some r→PCall prog 109 args r:=zn fun p _=>less_ok p.1 p.2
theorem sNaN_ok(s:Str):PCall prog 110 [.str s] (.ret (.bool false)):=by refine PCall.wD (rs:=[.tmp 2]) [0,2] [] mixed (zh) (zg) call110 func110 rfl ntmps110 rfl ?_;simp only [go_sem]
noncomputable def cSNaN:List V→Option PR:=zu (fun a:Str=>[.str a]) (fun _=>True) fun _=>.ret (.bool false)
@[go_sem] theorem cSNaN_eq(a:Str):cSNaN [.str a]=some (.ret (.bool false)):=zo (pat:=fun a:Str=>[.str a]) (fun x y h=>by simpa using h) a trivial
theorem cSNaN_ok:∀ args r,cSNaN args=some r→PCall prog 110 args r:=zn fun a _=>sNaN_ok a
section
variable {C:Cfg}{P:Program}{K:Out→St→Prop}{st:List Fr}{ops:Array Oper}{os:List Oper}{env:Env}{h:Hp}
theorem zBz(d:Tmp):AXg1 C P K st ops os (some d) (some false) .bad env h=AXr C P K st ops os ((d,undefV)::env) h:=zlR d .bad
theorem zp7(nd:Prop):callM none nd h=.bad:=rfl
theorem zty:zd8 .any=[]:=rfl
theorem nan_any:cSNaN [.any]=none:=by unfold cSNaN zu;rw [dif_neg];rintro⟨p,hp⟩;simp at hp
theorem zvT(d:Tmp)(a b c:V):AXg1 C P K st ops os (some d) (some false) (zcH a b c h) env h=AXr C P K st ops os ((d,skV (zcH a b c h))::env) h:=zlR d _
theorem zwt:undefV.val=.tup []:=rfl
theorem zsL:undefV.cond=True:=rfl
theorem guard_ou(w:Bool):zgu (.opt false (.tup [])) w=some false:=rfl
theorem guard_oa(w:Bool):zgu (.opt false .any) w=some false:=rfl
theorem eq_badT(s:Str)(H:Hp):aBin prog .eql 9 .any (.str s) H=⟨False,.any,H,[],[]⟩:=by kernel_rfl
end
theorem bs_ok(l:List Str)(s:Str)(hl:l.length≤1000000)(hi:incS l=true):PCall prog 67 [.fs (strs l) l.length,.str s] (.ret (.tup [.int .i64 (lbS l s),.bool (decide (idxS l s<l.length))])):=by
 have hΓ:=zf cLess_ok (zf cSNaN_ok zh);have hlt:=inc_lt hi;refine PCall.wD (rs:=[.tmp 4,.tmp 5]) [0,1,4,5,6,7,8,9,15,27] [] mixed (hΓ) (zg) call67 func67 rfl ntmps67 rfl ?_;simp only [go_sem];refine AXs.loop mixed (hΓ) (zg) (fun p:Nat×Nat=>[(0,.fs (strs l) l.length),(1,.str s),(6,.int .i64 l.length),(7,.int .i64 p.1),(8,.int .i64 p.2)]) (fun _=>⟨[],0⟩) (fun p=>p.1≤p.2∧p.2≤l.length∧(∀ j,j<p.1→ltS (l.getD j []) s=true)∧∀ j,p.2≤j→j<l.length→ltS (l.getD j []) s=false) (fun p=>p.2 - p.1) (0,l.length) (by kernel_rfl) ⟨Yk _,Ye _,fun j hj=>by omega,fun j hj=>by omega⟩ (Sub.of0 [] rfl rfl ?_ ?_) ?_
 ·simp only [go_sem]
 ·simp only [go_sem]
 rintro⟨i,j⟩ ⟨h1,h2,h3,h4⟩;dsimp only at h1 h2 h3 h4 ⊢;simp only [go_sem];refine AXc.introP (fun h5=>?_) (fun h5=>?_)
 ·have hij:i<j:=by omega
  have e2:((i:Int)+(j:Int)) / 2 ^ 1=(((i+j) / 2:Nat):Int):=by omega
  have e3:i≤(i+j) / 2∧(i+j) / 2<j:=by omega
  simp (disch:=first|exact Zq|fail) only [go_sem];rw [e2];generalize (i+j) / 2=h at e3 ⊢;rw [YcN]
  (repeat refine sdC ?_);cases hx:ltS (l.getD h []) s with
  |true=>
   simp (disch:=first|exact Zq|fail) only [go_sem];refine zi (h+1,j) ⟨by dsimp only;omega,h2,fun k hk=>?_,h4⟩ (by dsimp only;omega) (Sub.of0 [] rfl rfl ?_ ?_)
   ·rcases YaG k h with hkh|hkh
    ·have:=hlt k h hkh (by omega);exact zeK this hx
    ·obtain rfl:k=h:=by dsimp only at hk;omega
     exact hx
   ·simp only [go_sem];simp
   ·simp only [go_sem]
  |false=>
   simp (disch:=first|exact Zq|fail) only [go_sem];refine zi (i,h) ⟨by dsimp only;omega,by dsimp only;omega,h3,fun k hk hk2=>?_⟩ (by dsimp only;omega) (Sub.of0 [] rfl rfl ?_ ?_)
   ·rcases YaG h k with hkh|hkh
    ·have h6:=hlt h k hkh hk2;cases h7:ltS (l.getD k []) s with
     |false=>rfl
     |true=>rw [show ltS (l.getD h []) s=true from zeK h6 h7]at hx;cases hx
    ·obtain rfl:k=h:=by dsimp only at hk;omega
     exact hx
   ·simp only [go_sem]
   ·simp only [go_sem]
 ·obtain rfl:i=j:=by omega
  have hlb:lbS l s=i:=lbS_eq h2 h3 fun h=>h4 i (Ye _) h;simp only [go_sem];refine AXa.go mixed (hΓ) (zg) (by kernel_rfl) ?_;by_cases hil:i<l.length
  ·have e1:decide ((i:Int)<(l.length:Int))=true:=YB (by omega);have e4:decide (idxS l s<l.length)=decide (l.getD i []=s):=by
    by_cases hq:l.getD i []=s
    ·rw [YB hq];refine YB ?_;rw [zpL hil hq fun j hj he=>?_]
     ·exact hil
     ·have:=h3 j hj;rw [he,show ltS s s=false from za0 s]at this;cases this
    ·rw [Yy hq];refine Yy fun hk=>hq ?_;have hat:=zlv hk;generalize idxS l s=k at hk hat;rcases Ybq k i with h|h|h
     ·have:=h3 k h;rw [hat,show ltS s s=false from za0 s]at this;cases this
     ·rw [←h];exact hat
     ·have h8:=hlt i k h hk;rw [hat]at h8;rw [h4 i (Ye _) hil]at h8;cases h8
   rw [hlb,e4];simp (disch:=first|exact Zq|fail) only [go_sem,e1];exact⟨⟨by omega,by omega⟩,by omega,fun h=>⟨h,by omega,by omega⟩,fun h=>⟨h,by omega⟩⟩
  ·have e1:decide ((i:Int)<(l.length:Int))=false:=Yy (by omega);have e4:decide (idxS l s<l.length)=false:=by refine Yy fun hk=>?_;have hat:=zlv hk;have:=h3 (idxS l s) (by omega);rw [hat,show ltS s s=false from za0 s]at this;cases this
   rw [hlb,e4];have e9:nthV (strs (l.drop i)) 0=.any:=by rw [YbZ (by omega)];rfl
   simp (disch:=first|exact Zq|fail) only [go_sem,e1,e9,eq_badT,zBz,guard_oa,zp7,zty,nan_any,zwt,zsL,guard_ou,zvT]
noncomputable def cBs:List V→Option PR:=zu (fun p:List Str×Str=>[.fs (strs p.1) p.1.length,.str p.2]) (fun p=>p.1.length≤1000000∧incS p.1=true) fun p=>.ret (.tup [.int .i64 (lbS p.1 p.2),.bool (decide (idxS p.1 p.2<p.1.length))])
@[go_sem] theorem cBs_eq(l:List Str)(s:Str)(hl:l.length≤1000000)(hi:incS l=true):cBs [.fs (strs l) l.length,.str s]=some (.ret (.tup [.int .i64 (lbS l s),.bool (decide (idxS l s<l.length))])):=
 zo (pat:=fun p:List Str×Str=>[.fs (strs p.1) p.1.length,.str p.2]) (fun x y h=>by simp at h;exact YT (zam h.1.1) h.2) (l,s) ⟨hl,hi⟩
theorem cBs_ok:∀ args r,cBs args=some r→PCall prog 67 args r:=zn fun p h=>bs_ok p.1 p.2 h.1 h.2
theorem lb_idx {l:List Str}{s:Str}(hi:incS l=true)(h:idxS l s<l.length):lbS l s=idxS l s:=by
 have hat:=zlv h;refine lbS_eq (YbA h) (fun j hj=>?_) fun _=>?_
 ·have:=inc_lt hi j _ hj h;rwa [hat]at this
 ·rw [hat];exact za0 s
theorem zwx(l:List Str)(s:Str)(hl:l.length≤1000000)(hi:incS l=true):PCall prog 35 [.fs (strs l) l.length,.str s] (.ret (.int .i64 (idxS l s))):=by
 refine PCall.wD (rs:=[.tmp 4]) [0,1,4,5,6,14] [] mixed (zf cBs_ok zh) (zg) call35 func35 rfl ntmps35 rfl ?_;have hle:=zia l s;by_cases h:idxS l s<l.length
 ·rw [←lb_idx hi h];have e1:decide (idxS l s<l.length)=true:=YB h;simp (disch:=first|exact Zq|fail) only [go_sem,e1]
 ·have e1:decide (idxS l s<l.length)=false:=Yy h;have e2:idxS l s=l.length:=by omega
  rw [e2];rw [e2]at e1;have e3:=cBs_eq l s hl hi;rw [e2,e1]at e3;simp (disch:=first|exact Zq|fail) only [go_sem,e3]
noncomputable def cIndex:List V→Option PR:=zu (fun p:List Str×Str=>[.fs (strs p.1) p.1.length,.str p.2]) (fun p=>p.1.length≤1000000∧incS p.1=true) fun p=>.ret (.int .i64 (idxS p.1 p.2))
@[go_sem] theorem cIndex_eq(l:List Str)(s:Str)(hl:l.length≤1000000)(hi:incS l=true):cIndex [.fs (strs l) l.length,.str s]=some (.ret (.int .i64 (idxS l s))):=
 zo (pat:=fun p:List Str×Str=>[.fs (strs p.1) p.1.length,.str p.2]) (fun x y h=>by simp at h;exact YT (zam h.1.1) h.2) (l,s) ⟨hl,hi⟩
theorem zn1:∀ args r,cIndex args=some r→PCall prog 35 args r:=zn fun p h=>zwx p.1 p.2 h.1 h.2
end Go.Proofs
