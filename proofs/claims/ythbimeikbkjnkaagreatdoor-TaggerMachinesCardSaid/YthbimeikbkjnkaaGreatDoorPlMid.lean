/- A segment within a list: reading and writing it. -/
import Derived.Test.YthbimeikbkjnkaaGreatDoorPlDiv
import Derived.Test.YthbimeikbkjnkaaGreatDoorQNat4
import Derived.Test.YthbimeikbkjnkaaGreatDoorVM0
set_option linter.all false
set_option maxHeartbeats 16000000
set_option maxRecDepth 100000
namespace Go.Pl
theorem zrm {l s:List Nat}{o n i:Nat}(hs:s.length=n)(h:o+n≤l.length)(hi:i<n):(mid l o n s).getD (o+i) 0=s.getD i 0:=by
 unfold mid;rw [Ya,Y4 (by simp;omega),YaF (by simp;omega),Ya];have:o+i - (List.take o l).length=i:=by simp;omega
 rw [this]
theorem zyk {l s:List Nat}{o n i d:Nat}(hs:s.length=n)(h:o+n≤l.length)(hi:i<n):(mid l o n s).set (o+i) d=mid l o n (s.set i d):=by
 unfold mid;rw [List.set_append_left _ _ (by simp;omega),List.set_append_right _ _ (by simp;omega)];have:o+i - (List.take o l).length=i:=by simp;omega
 rw [this]
theorem mid_seg {l:List Nat}{o n:Nat}(h:o+n≤l.length):mid l o n ((l.drop o).take n)=l:=by
 unfold mid;rw [Ybl];have:List.drop (o+n) l=List.drop n (List.drop o l):=by rw [Ybd]
 rw [this,YaP,YaP]
end Go.Pl

namespace Go.Proofs
open Tryz Go.Ab Go.Pl
theorem trimN_ok(l:List Nat)(k:Nat)(hk:k≤l.length)(hl:l.length≤1000000):NCall prog 153 [.sl 0 0 k 1 none] [.cells (nats .u64 l)] [] (.sl 0 0 (zav (l.take k)).length 1 none) ⟨[(0,.cells (nats .u64 l))],1⟩:=by
 refine NCall.walk (rs:=[.tmp 2]) [0,2,14] [] 1 mixed (zh) (zg) zz8 func153 rfl ntmps153 rfl (by kernel_rfl) (by simp) (by simp) (by simp) ?_;simp only [go_sem];refine AXs.loop mixed (zh) (zg) (fun n:Nat=>[(0,.sl 0 0 n 1 none)]) (fun _=>⟨[(0,.cells (nats .u64 l))],1⟩) (fun n=>n≤k∧∀ j,n≤j→(l.take k).getD j 0=0) (fun n=>n) k (by kernel_rfl)
  ⟨Ye _,fun j hj=>za6 _ _ _ (by simp;omega)⟩ (Sub.of [] rfl ?_ ?_ (by decide) (fun b hb _=>?_)) ?_
 ·simp only [go_sem]
 ·simp only [go_sem]
 ·obtain rfl:b=0:=YaB.1 hb;rfl
 rintro n ⟨hn,hz⟩;rcases YD n with rfl|hp
 ·simp only [go_sem];rw [zlR];simp only [go_sem,zxI];refine AXa.go mixed (zh) (zg) (by kernel_rfl) ?_;simp only [go_sem];have h2:=zdb (l:=l.take k) (n:=0) (by simp) hz (.inl rfl);refine⟨[(2,.sl 0 0 0 1 none)],Sub.of [] rfl ?_ ?_ (by decide) (fun b hb _=>?_),by rw [h2];rfl⟩
  ·simp only [go_sem]
  ·simp only [go_sem]
  ·obtain rfl:b=0:=YaB.1 hb;rfl
 ·have hd:decide (0<(n:Int))=true:=by simp;omega
  have hg:(l.take k).getD (n - 1) 0=l.getD (n - 1) 0:=getD_take _ _ _ _ (by omega);simp (disch:=first|exact Zq|fail) only [go_sem,hd]
  (repeat refine sdC ?_);refine AXc.introP (fun h1=>?_) (fun h1=>?_)
  ·simp (disch:=first|exact Zq|fail) only [go_sem]
   (repeat refine sdC ?_);refine zi (n - 1) ⟨by omega,fun j hj=>?_⟩ (by omega) (Sub.of [] rfl ?_ ?_ (by decide) (fun b hb _=>?_))
   ·by_cases hjn:j=n - 1
    ·subst hjn;omega
    ·exact hz j (by omega)
   ·simp only [go_sem]
   ·simp only [go_sem]
   ·obtain rfl:b=0:=YaB.1 hb;rfl
  ·simp only [go_sem];refine AXa.go mixed (zh) (zg) (by kernel_rfl) ?_;simp only [go_sem];have h2:=zdb (l:=l.take k) (n:=n) (by simp;omega) hz (.inr (by omega));have h3:(zav (l.take k)).length=n:=by rw [h2];simp;omega
   refine⟨[(2,.sl 0 0 n 1 none)],Sub.of [] rfl ?_ ?_ (by decide) (fun b hb _=>?_),by rw [h3];rfl⟩
   ·simp only [go_sem]
   ·simp only [go_sem]
   ·obtain rfl:b=0:=YaB.1 hb;rfl
def zqJ(args:List V)(H:Hp)(r:AR):Prop:=
 ∃(b:Nat) (l:List Nat) (k:Nat) (kc:Option Nat),args=[.sl b 0 k 1 kc]∧H.get b=some (.cells (nats .u64 l))∧k≤l.length∧l.length≤1000000∧(∀ b x,H.get b=some x→b<H.next)∧
  r=⟨True,.sl b 0 (zav (l.take k)).length 1 none,H,[b],[]⟩
theorem zqZ:∀ args H r,zqJ args H r→HCall prog 153 args H r:=by
 rintro args H r ⟨b,l,k,kc,rfl,hb,hk,hl,hkeys,rfl⟩;refine HCall.view1 (trimN_ok l k hk hl) (zat _ _) b _ H ⟨rfl,fun i x y hx hy=>?_⟩ hb hkeys;match i with
 |0=>cases hx;cases hy;exact .sl (π:=fun i=>[b].getD i 0) (b:=0) (YaB.2 rfl) (.inl rfl)
 |i+1=>simp at hx
theorem zsN {args:List V}{H:Hp}{r r':AR}(h:zqJ args H r)(h':zqJ args H r'):r'=r:=by obtain⟨b,l,k,kc,rfl,hb,_,_,_,rfl⟩:=h;obtain⟨b',l',k',kc',he,hb',_,_,_,rfl⟩:=h';simp only [Yu,V.sl.injEq,Yam,Yan]at he;obtain⟨rfl,rfl,rfl⟩:=he;rw [hb]at hb';simp only [Yv,Blk.cells.injEq]at hb';rw [zax hb']
noncomputable def ΔT:FuncId→List V→Hp→Option AR:=zcR 153 (conD zqJ) noΔ
theorem zv5:zba prog ΔT:=zay (zaZ zqZ) zg
theorem zgP(b k:Nat)(kc:Option Nat)(l:List Nat)(bs:List (Nat×Blk))(nx:Nat)(hb:zas bs b=some (.cells (nats .u64 l)))(hk:k≤l.length)(hl:l.length≤1000000)(hkeys:((keysB bs).all fun b=>decide (b<nx))=true):
 conD zqJ [.sl b 0 k 1 kc] ⟨bs,nx⟩=some ⟨True,.sl b 0 (zav (l.take k)).length 1 none,⟨bs,nx⟩,[b],[]⟩:=by
 have hr:zqJ [.sl b 0 k 1 kc] ⟨bs,nx⟩ ⟨True,.sl b 0 (zav (l.take k)).length 1 none,⟨bs,nx⟩,[b],[]⟩:=⟨b,l,k,kc,rfl,(zbg bs b).trans hb,hk,hl,zbB hkeys,rfl⟩
 exact zaK (h:=hr) fun _ h'=>zsN hr h'
theorem zzw(x k:Nat)(hk:k<1000000000):(eachR (zG k) (limbs x) [] ((limbs x).length+1)).1=digs ((limbs x).length+1) (x*k):=by
 have ox:=zF x;have h:=zhE hk ox;rw [zC]at h;have h1:zav (eachR (zG k) (limbs x) [] ((limbs x).length+1)).1=limbs (x*k):=by rw [←h];unfold zdH;simp
 have h2:okL (eachR (zG k) (limbs x) [] ((limbs x).length+1)).1:=okL_each (fun a b c=>zfn k a b c) _;have h3:=eachR_len (zG k) (limbs x) [] ((limbs x).length+1);rw [za5 h2]at h1;have h4:=zck h1;have:=zgg h2;rw [h3,h4]at this;exact this
theorem eachN_ok(x k:Nat)(hx:(limbs x).length≤1000)(hk:k<1000000000):NCall prog 215 [.fs (nats .u64 (limbs x)) (limbs x).length,.nilS,.fn 228 [.fp [.int .u64 k]]] [] []
 (.sl 0 0 (limbs (x*k)).length 1 none) ⟨[(0,.cells (nats .u64 (digs ((limbs x).length+1) (x*k))))],1⟩:=by
 have ox:=zF x
 rw [←zzw x k hk]
 have hv:limbs (x*k)=zav (eachR (zG k) (limbs x) [] ((limbs x).length+1)).1:=by have h:=zhE hk ox;rw [zC]at h;rw [←h];unfold zdH;simp
 rw [hv]
 clear hv
 generalize limbs x=l at*
 have hC:∀ i,(eachR (zG k) l [] i).2<1000000000:=fun i=>zhG hk l ox [] i
 have hpu:∀ x∈[V.fp [V.int .u64 k]],Pure x:=by simp [zhM,zcd]
 have hG:=zf (zqe k) (zh (P:=prog))
 refine NCall.walk (rs:=[.tmp 6]) [0,1,2,6,7,8,9,10,11,12,18,19,20,25,33] [] 0 mixed (hG) (zv5) zz7 func215 rfl ntmps215 rfl (by kernel_rfl) (by simp) (by simp) (by simp) ?_
 have hmx:maxI (l.length:Int) 0=(l.length:Int):=by unfold maxI;split<;>omega
 simp (disch:=first|exact Zq|fail) only [go_sem,hmx]
 refine AXs.loop mixed (hG) (zv5) (fun i:Nat=>[(0,.fs (nats .u64 l) l.length),(1,.nilS),(2,.fn 228 [.fp [.int .u64 k]]),(7,bkV (eachR (zG k) l [] i).1),(8,.int .u64 (eachR (zG k) l [] i).2),(18,.int .i64 (l.length+1:Int)),(19,.int .i64 i)])
  (fun i=>⟨bkBs (eachR (zG k) l [] i).1,bkN (eachR (zG k) l [] i).1⟩) (fun i=>i≤l.length+1) (fun i=>l.length+1 - i) 0 (by kernel_rfl) (Yk _) (Sub.of0 [] rfl rfl ?_ ?_) ?_
 ·simp only [go_sem,eachR,bkV]
  simp [zcd]
 ·simp only [go_sem,eachR,bkBs]
 intro i hi
 simp (disch:=first|exact Zq|fail) only [go_sem]
 refine AXc.introP (fun h1=>?_) (fun h1=>?_)
 ·have hlt:=getD_lt ox i
  have hFi:zrW k [.int .u64 (l.getD i 0),.int .u64 0,.int .u64 (eachR (zG k) l [] i).2,.fp [.int .u64 k]]=some (.ret (.tup [.int .u64 (zG k (l.getD i 0) 0 (eachR (zG k) l [] i).2).1,.int .u64 (zG k (l.getD i 0) 0 (eachR (zG k) l [] i).2).2])):=
   zo (pat:=fun p:Nat×Nat×Nat=>[V.int .u64 p.1,.int .u64 p.2.1,.int .u64 p.2.2,.fp [.int .u64 k]]) (fun x y h=>zhq h) (l.getD i 0,0,(eachR (zG k) l [] i).2) ⟨hlt,hk,hC i⟩
  have hsucc:eachR (zG k) l [] (i+1)=((eachR (zG k) l [] i).1++[(zG k (l.getD i 0) 0 (eachR (zG k) l [] i).2).1],(zG k (l.getD i 0) 0 (eachR (zG k) l [] i).2).2):=rfl
  have hlen:=eachR_len (zG k) l [] i
  generalize zG k (l.getD i 0) 0 (eachR (zG k) l [] i).2=r at hFi hsucc
  generalize eachR (zG k) l [] i=q at*
  obtain⟨q1,q2⟩:=q
  dsimp only at hFi hsucc hlen ⊢
  have zx:¬(i:Int)<l.length→l.getD i 0=0:=fun h=>za6 _ _ _ (by omega)
  have hz0:¬(i:Int)<0:=by omega
  have hcap:nzs [V.fp [.int .u64 k]]=[V.fp [.int .u64 k]]:=rfl
  by_cases c1:(i:Int)<l.length
  all_goals
   try rw [zx c1]at hFi
   try simp only [Int.natCast_zero]at hFi
   rcases q1 with _|⟨d,t⟩
   ·simp (disch:=first|exact Zq|fail) only [go_sem,bkV,bkBs,bkN,c1,hz0,Yb0,hcap,hFi]
    repeat refine And.intro (by omega) ?_
    refine zi (i+1) (by omega) (by omega) (Sub.of0 [(0,1)] rfl (by rw [hsucc];rfl) ?_ ?_)
    ·rw [hsucc]
     simp only [go_sem,bkV,bkBs,bkN]
     simp [zcd]
    ·rw [hsucc]
     simp only [go_sem,bkV,bkBs,bkN]
     simp [nats]
   ·have hll:t.length+1=i:=hlen
    simp (disch:=first|exact Zq|fail) only [go_sem,bkV,bkBs,bkN,c1,hz0,Yb0,hcap,hFi]
    repeat refine And.intro (by omega) ?_
    refine zi (i+1) (by omega) (by omega) (Sub.of0 [(0,2)] rfl (by rw [hsucc];rfl) ?_ ?_)
    ·rw [hsucc]
     simp only [go_sem,bkV,bkBs,bkN]
     simp [zcd]
    ·rw [hsucc]
     simp only [go_sem,bkV,bkBs,bkN]
     simp [nats]
 ·have hie:i=l.length+1:=by omega
  subst hie
  have hlen:=eachR_len (zG k) l [] (l.length+1)
  generalize eachR (zG k) l [] (l.length+1)=q at*
  obtain⟨q1,q2⟩:=q
  dsimp only at hlen ⊢
  rcases q1 with _|⟨d,t⟩
  ·simp at hlen
  ·have hll:t.length+1=l.length+1:=hlen
   have hT:ΔT 153 [.sl 0 0 (t.length+1) 1 none] ⟨[(0,.cells (nats .u64 (d::t)))],1⟩=some ⟨True,.sl 0 0 (zav (d::t)).length 1 none,⟨[(0,.cells (nats .u64 (d::t)))],1⟩,[0],[]⟩:=by have:=zgP 0 (t.length+1) none (d::t) [(0,.cells (nats .u64 (d::t)))] 1 rfl (by simp) (by simp;omega) rfl;rwa [Yj (by simp)]at this
   simp only [go_sem,bkV,bkBs,bkN]
   refine AXa.go mixed (hG) (zv5) (by kernel_rfl) ?_
   simp only [go_sem,hT]
   exact⟨[(6,.sl 0 0 (zav (d::t)).length 1 none)],Sub.of0 [] rfl rfl (by simp only [go_sem]) (by simp only [go_sem]),by simp only [go_sem]⟩
def zv4(args:List V)(H:Hp)(r:AR):Prop:=
 ∃ x k:Nat,args=[.fs (nats .u64 (limbs x)) (limbs x).length,.nilS,.fn 228 [.fp [.int .u64 k]]]∧(limbs x).length≤1000∧k<1000000000∧(∀ b x,H.get b=some x→b<H.next)∧
  r=⟨True,.sl H.next 0 (limbs (x*k)).length 1 none,⟨(H.next,.cells (nats .u64 (digs ((limbs x).length+1) (x*k))))::H.bs,H.next+1⟩,[],[]⟩
theorem eachD_ok:∀ args H r,zv4 args H r→HCall prog 215 args H r:=by rintro args H r ⟨x,k,rfl,h1,h2,hk,rfl⟩;refine HCall.fresh (F:=[]) (eachN_ok x k h1 h2) (zat _ _) [] _ H rfl (by simp) ?_ (by simp) (by simp) hk;exact zt (by simp [zf4,zeF,zeb,zkI,zhM,zcd])
theorem zu0 {args:List V}{H:Hp}{r r':AR}(h:zv4 args H r)(h':zv4 args H r'):r'=r:=by
 obtain⟨x,k,rfl,_,_,_,rfl⟩:=h;obtain⟨x',k',he,_,_,_,rfl⟩:=h';simp at he;obtain⟨⟨e1,_⟩,e2⟩:=he;have e3:=zck (zax e1);have e4:k=k':=by omega
 rw [e3,e4]
noncomputable def ΔE:FuncId→List V→Hp→Option AR:=zcR 215 (conD zv4) noΔ
theorem ΔE_ok:zba prog ΔE:=zay (zaZ eachD_ok) zg
theorem eachD_eq(x k:Nat)(h1:(limbs x).length≤1000)(h2:k<1000000000)(bs:List (Nat×Blk))(nx:Nat)(hkeys:((keysB bs).all fun b=>decide (b<nx))=true):
 conD zv4 [.fs (nats .u64 (limbs x)) (limbs x).length,.nilS,.fn 228 [.fp [.int .u64 k]]] ⟨bs,nx⟩=some ⟨True,.sl nx 0 (limbs (x*k)).length 1 none,⟨(nx,.cells (nats .u64 (digs ((limbs x).length+1) (x*k))))::bs,nx+1⟩,[],[]⟩:=by
 have hr:zv4 [.fs (nats .u64 (limbs x)) (limbs x).length,.nilS,.fn 228 [.fp [.int .u64 k]]] ⟨bs,nx⟩ ⟨True,.sl nx 0 (limbs (x*k)).length 1 none,⟨(nx,.cells (nats .u64 (digs ((limbs x).length+1) (x*k))))::bs,nx+1⟩,[],[]⟩:=⟨x,k,rfl,h1,h2,zbB hkeys,rfl⟩
 exact zaK hr fun _ h'=>zu0 hr h'
theorem zs8(x k:Nat)(hx:(limbs x).length≤1000)(hk:k<1000000000):NCall prog 207 [.fs (nats .u64 (limbs x)) (limbs x).length,.int .u64 k] [] []
 (.sl 0 0 (limbs (x*k)).length 1 none) ⟨[(0,.cells (nats .u64 (digs ((limbs x).length+1) (x*k))))],1⟩:=by
 refine NCall.walk (rs:=[.tmp 4]) [0,1,3,4] [185] 0 mixed (zh) (ΔE_ok) call207 func207 rfl ntmps207 rfl (by kernel_rfl) (by simp) (by simp) (by simp) ?_
 have hE:ΔE 215 [.fs (nats .u64 (limbs x)) (limbs x).length,.nilS,.fn 228 [.fp [.int .u64 k]]] ⟨[],0⟩=some ⟨True,.sl 0 0 (limbs (x*k)).length 1 none,⟨[(0,.cells (nats .u64 (digs ((limbs x).length+1) (x*k))))],1⟩,[],[]⟩:=eachD_eq x k hx hk [] 0 rfl
 simp only [go_sem,hE]
 exact⟨[(4,.sl 0 0 (limbs (x*k)).length 1 none)],Sub.of0 [] rfl rfl (by simp only [go_sem]) (by simp only [go_sem]),by simp only [go_sem]⟩
def zgq(args:List V)(H:Hp)(r:AR):Prop:=
 ∃ x k:Nat,args=[.fs (nats .u64 (limbs x)) (limbs x).length,.int .u64 k]∧(limbs x).length≤1000∧k<1000000000∧(∀ b x,H.get b=some x→b<H.next)∧
  r=⟨True,.sl H.next 0 (limbs (x*k)).length 1 none,⟨(H.next,.cells (nats .u64 (digs ((limbs x).length+1) (x*k))))::H.bs,H.next+1⟩,[],[]⟩
theorem zs9:∀ args H r,zgq args H r→HCall prog 207 args H r:=by rintro args H r ⟨x,k,rfl,h1,h2,hk,rfl⟩;refine HCall.fresh (F:=[]) (zs8 x k h1 h2) (zat _ _) [] _ H rfl (by simp) ?_ (by simp) (by simp) hk;exact zt (by simp [zf4,zeF,zcd])
theorem zmr {args:List V}{H:Hp}{r r':AR}(h:zgq args H r)(h':zgq args H r'):r'=r:=by
 obtain⟨x,k,rfl,_,_,_,rfl⟩:=h;obtain⟨x',k',he,_,_,_,rfl⟩:=h';simp at he;obtain⟨⟨e1,_⟩,e2⟩:=he;have e3:=zck (zax e1);have e4:k=k':=by omega
 rw [e3,e4]
theorem zjn(x k:Nat)(h1:(limbs x).length≤1000)(h2:k<1000000000)(bs:List (Nat×Blk))(nx:Nat)(hkeys:((keysB bs).all fun b=>decide (b<nx))=true):
 conD zgq [.fs (nats .u64 (limbs x)) (limbs x).length,.int .u64 k] ⟨bs,nx⟩=some ⟨True,.sl nx 0 (limbs (x*k)).length 1 none,⟨(nx,.cells (nats .u64 (digs ((limbs x).length+1) (x*k))))::bs,nx+1⟩,[],[]⟩:=by
 have hr:zgq [.fs (nats .u64 (limbs x)) (limbs x).length,.int .u64 k] ⟨bs,nx⟩ ⟨True,.sl nx 0 (limbs (x*k)).length 1 none,⟨(nx,.cells (nats .u64 (digs ((limbs x).length+1) (x*k))))::bs,nx+1⟩,[],[]⟩:=⟨x,k,rfl,h1,h2,zbB hkeys,rfl⟩
 exact zaK hr fun _ h'=>zmr hr h'
theorem zgS {l:List Nat}{o n i:Nat}(hi:i≤n):(seg l o n).getD i 0=l.getD (o+i) 0:=by unfold Go.Pl.seg;rw [getD_take _ _ _ _ (by omega),getD_drop]
theorem setN' {k:IntKind}{l:List Nat}{n d:Nat}{v:Int}(h:v=(d:Nat)):(nats k l).set n (.int k v)=nats k (l.set n d):=by rw [h,zkt]
theorem zzB(l v:List Nat)(o:Nat)(hd:DigOK (seg l o v.length) v)(ho:o+v.length+1≤l.length)(ol:okL l)(hl:l.length≤1000000):
 NCall prog 208 [.sl 0 o (v.length+1) 1 none,.fs (nats .u64 v) v.length] [.cells (nats .u64 l)] [0] (.int .u64 (valL (seg l o v.length) / valL v:Nat))
  ⟨[(0,.cells (nats .u64 (mid l o (v.length+1) (digs (v.length+1) (valL (seg l o v.length) % valL v)))))],1⟩:=by
 have hv0:=hd.pos
 have ht:=hd.top
 have ov:=hd.ov
 have g1:=zgS (l:=l) (o:=o) (i:=v.length) (Ye _)
 have g2:=zgS (l:=l) (o:=o) (n:=v.length) (i:=v.length - 1) (by omega)
 have b1:=getD_lt ol (o+v.length)
 have b2:=getD_lt ol (o+(v.length - 1))
 have b3:=getD_lt ov (v.length - 1)
 refine NCall.walkWA (rs:=[.tmp 4]) [0,1,4,5,6,7,8,9,10,11,12,13,14,15,70,85,87,88,89,94,125,128,129,130,140] [] 1 [0] mixed (zh) (zg) call208 func208 rfl ntmps208 rfl (by kernel_rfl) (by simp) (by simp) (by simp) (by simp) ?_
 simp only [go_sem]
 refine AXa.cutF 5 (fun p:Nat×Nat=>zgz (seg l o v.length) v p.1 p.2∧p.1<1000000000∧(p.1 - 1)*valL v≤valL (seg l o v.length)) (fun p=>[(0,.sl 0 o (v.length+1) 1 none),(1,.fs (nats .u64 v) v.length),(5,.int .i64 v.length),(7,.int .u64 p.1)]) (fun _=>⟨[(0,.cells (nats .u64 l))],1⟩) rfl mixed zh zg (by kernel_rfl) ?_ ?_
 ·simp (disch:=first|exact Zq|fail) only [go_sem]
  refine⟨⟨by omega,by omega⟩,by omega,⟨by omega,by omega⟩,by omega,AXk.intro (by kernel_rfl) ?_⟩
  have hs:=znE hd
  rw [g1,g2]at hs
  generalize hU:l.getD (o+v.length) 0=U at*
  generalize hU1:l.getD (o+(v.length - 1)) 0=U1 at*
  have hq0:(U*1000000000+U1) / v.getD (v.length - 1) 0≤U*1000000000+U1:=Yck ..
  have hr0:(U*1000000000+U1) % v.getD (v.length - 1) 0<v.getD (v.length - 1) 0:=YaM _ ht
  have hdv:((U:Int)*1000000000+(U1:Int)) / ((v.getD (v.length - 1) 0:Nat):Int)=(((U*1000000000+U1) / v.getD (v.length - 1) 0:Nat):Int):=by rw [Int.natCast_ediv,Int.natCast_add,YcD];rfl
  have hmd:((U:Int)*1000000000+(U1:Int)) % ((v.getD (v.length - 1) 0:Nat):Int)=(((U*1000000000+U1) % v.getD (v.length - 1) 0:Nat):Int):=by rw [Int.natCast_emod,Int.natCast_add,YcD];rfl
  generalize (U*1000000000+U1) / v.getD (v.length - 1) 0=Q0 at*
  generalize (U*1000000000+U1) % v.getD (v.length - 1) 0=R0 at*
  simp (disch:=first|exact Zq|fail) only [go_sem,hdv,hmd]
  refine⟨⟨by omega,by omega⟩,by omega,by omega,⟨by omega,by omega⟩,by omega,by omega,?_⟩
  refine AXs.loop mixed (zh) (zg) (fun p:Nat×Nat=>[(0,.sl 0 o (v.length+1) 1 none),(1,.fs (nats .u64 v) v.length),(5,.int .i64 v.length),(7,.int .u64 p.1),(8,.int .u64 p.2)]) (fun _=>⟨[(0,.cells (nats .u64 l))],1⟩) (fun p=>zgz (seg l o v.length) v p.1 p.2) (fun p=>p.1) (Q0,R0) (by kernel_rfl) hs (Sub.oE [] rfl ?_ ?_) ?_
  ·simp only [go_sem]
  ·simp only [go_sem]
  rintro⟨q,r⟩ hi
  dsimp only at hi ⊢
  have hi1:=hi.1
  rw [g1,g2]at hi1
  have hq1:q*1≤q*v.getD (v.length - 1) 0:=Y3 _ ht
  by_cases c1:(1000000000:Int)≤q
  ·have d1:decide ((1000000000:Int)≤q)=true:=by simpa using c1
   have hnx:=zu6 hd hi (by omega)
   have hqp:0<q:=by omega
   simp (disch:=first|exact Zq|fail) only [go_sem,d1]
   refine AXk.intro (by kernel_rfl) ?_
   have hbnd:q*v.getD (v.length - 1) 0+r<1000000000000000000:=by omega
   generalize q*v.getD (v.length - 1) 0=qv at hi1 hbnd hq1
   simp (disch:=first|exact Zq|fail) only [go_sem]
   refine⟨⟨by omega,by omega⟩,by omega,?_⟩
   have hcb:(decide (1000000000≤(r:Int)+(v.getD (v.length - 1) 0:Nat))&&decide ((q:Int) - 1<1000000000))=decide (1000000000≤r+v.getD (v.length - 1) 0∧q - 1<1000000000):=by rw [YaJ];simp only [Yc,Yh];omega
   rw [hcb]
   refine AXc.introP (fun h6=>?_) (fun h6=>?_)
   ·simp (disch:=first|exact Zq|fail) only [go_sem]
    refine zeh (q - 1,r+v.getD (v.length - 1) 0) ⟨hnx,h6.2,zdl hd hnx h6.2 (.inr (.inl h6.1))⟩ (Sub.oE [] rfl ?_ ?_)
    ·simp only [go_sem]
     simp only [V.int.injEq,Yan];omega
    ·simp only [go_sem]
   ·simp (disch:=first|exact Zq|fail) only [go_sem]
    refine zi (q - 1,r+v.getD (v.length - 1) 0) hnx (by dsimp only;omega) (Sub.oE [] rfl ?_ ?_)
    ·simp only [go_sem]
     refine⟨?_,?_⟩<;>(simp only [V.int.injEq,Yan];omega)
    ·simp only [go_sem]
  ·have d1:decide ((1000000000:Int)≤q)=false:=by simpa using c1
   by_cases c2:1<(v.length:Int)
   ·by_cases c3:(r:Int)<1000000000
    ·have d2:decide (1<(v.length:Int))=true:=by simpa using c2
     have d3:decide ((r:Int)<1000000000)=true:=by simpa using c3
     have w1:IntKind.i64.wrap ((v.length:Int) - 2)=((v.length - 2:Nat):Int):=by rw [wrap_i64]<;>omega
     have b4:=getD_lt ov (v.length - 2)
     have b5:=getD_lt ol (o+(v.length - 2))
     have b6:q*v.getD (v.length - 2) 0≤999999999*999999999:=Yak (by omega) (by omega)
     have hm:(q:Int)*((v.getD (v.length - 2) 0:Nat):Int)=((q*v.getD (v.length - 2) 0:Nat):Int):=(YcD ..).symm
     obtain⟨w,hw⟩:∃ w,w=q*v.getD (v.length - 2) 0:=⟨_,rfl⟩
     rw [←hw]at hm b6
     obtain⟨R9,hR9⟩:∃ R9,R9=r*1000000000:=⟨_,rfl⟩
     have hR:(r:Int)*1000000000=(R9:Int):=by omega
     obtain⟨Z,hZ⟩:∃ Z,Z=R9+l.getD (o+(v.length - 2)) 0:=⟨_,rfl⟩
     have hZ':(R9:Int)+((l.getD (o+(v.length - 2)) 0:Nat):Int)=(Z:Int):=by omega
     simp (disch:=first|exact Zq|fail) only [go_sem,d1,d2,d3,w1,hm,hR,hZ']
     refine⟨⟨by omega,by omega⟩,by omega,⟨by omega,by omega⟩,by omega,AXk.intro (by kernel_rfl) ?_⟩
     refine AXc.introP (fun h4=>?_) (fun h4=>?_)
     ·have hnx:=zp1 hd hi (by omega) (by rw [zgS (by omega), ←hw, ←hR9, ←hZ];omega)
      have hqp:0<q:=by
       rcases YD q with h0|h0
       ·rw [h0,Ybm]at hw;omega
       ·exact h0
      clear hw hR9 hZ hZ' hR hm
      have hbnd:q*v.getD (v.length - 1) 0+r<1000000000000000000:=by omega
      generalize q*v.getD (v.length - 1) 0=qv at hi1 hbnd hq1
      simp (disch:=first|exact Zq|fail) only [go_sem]
      refine⟨⟨by omega,by omega⟩,by omega,?_⟩
      have hcb:(decide (1000000000≤(r:Int)+(v.getD (v.length - 1) 0:Nat))&&decide ((q:Int) - 1<1000000000))=decide (1000000000≤r+v.getD (v.length - 1) 0∧q - 1<1000000000):=by rw [YaJ];simp only [Yc,Yh];omega
      rw [hcb]
      refine AXc.introP (fun h6=>?_) (fun h6=>?_)
      ·simp (disch:=first|exact Zq|fail) only [go_sem]
       refine zeh (q - 1,r+v.getD (v.length - 1) 0) ⟨hnx,h6.2,zdl hd hnx h6.2 (.inr (.inl h6.1))⟩ (Sub.oE [] rfl ?_ ?_)
       ·simp only [go_sem]
        simp only [V.int.injEq,Yan];omega
       ·simp only [go_sem]
      ·simp (disch:=first|exact Zq|fail) only [go_sem]
       refine zi (q - 1,r+v.getD (v.length - 1) 0) hnx (by dsimp only;omega) (Sub.oE [] rfl ?_ ?_)
       ·simp only [go_sem]
        refine⟨?_,?_⟩<;>(simp only [V.int.injEq,Yan];omega)
       ·simp only [go_sem]
     ·simp (disch:=first|exact Zq|fail) only [go_sem]
      refine zeh (q,r) ⟨hi,by dsimp only;omega,zdl hd hi (by omega) (.inr (.inr (by rw [zgS (by omega), ←hw, ←hR9, ←hZ];omega)))⟩ (Sub.oE [] rfl ?_ ?_)
      ·simp only [go_sem]
      ·simp only [go_sem]
    ·have d2:decide (1<(v.length:Int))=true:=by simpa using c2
     have d3:decide ((r:Int)<1000000000)=false:=by simpa using c3
     simp (disch:=first|exact Zq|fail) only [go_sem,d1,d2,d3]
     refine AXk.intro (by kernel_rfl) ?_
     simp (disch:=first|exact Zq|fail) only [go_sem]
     refine zeh (q,r) ⟨hi,by dsimp only;omega,zdl hd hi (by omega) (.inr (.inl (by omega)))⟩ (Sub.oE [] rfl ?_ ?_)
     ·simp only [go_sem]
     ·simp only [go_sem]
   ·have d2:decide (1<(v.length:Int))=false:=by simpa using c2
    simp (disch:=first|exact Zq|fail) only [go_sem,d1,d2]
    refine AXk.intro (by kernel_rfl) ?_
    simp (disch:=first|exact Zq|fail) only [go_sem]
    refine zeh (q,r) ⟨hi,by dsimp only;omega,zdl hd hi (by omega) (.inl (by omega))⟩ (Sub.oE [] rfl ?_ ?_)
    ·simp only [go_sem]
    ·simp only [go_sem]
 ·rintro⟨q,r⟩ ⟨h1,h2,h3⟩
  dsimp only at h1 h2 h3 ⊢
  have hQ:=h1.2
  have hsl:(seg l o v.length).length=v.length+1:=hd.len
  have hms:mid l o (v.length+1) (seg l o v.length)=l:=mid_seg (by omega)
  have hst:=zwC q (seg l o v.length) v hd.ou
  have hln:o+(v.length+1)≤l.length:=by omega
  clear h1 g1 g2 b1 b2 b3
  refine AXa.go mixed (zh) (zg) (by kernel_rfl) ?_
  simp (disch:=first|exact Zq|fail) only [go_sem]
  refine AXs.loop mixed (zh) (zg) (fun p:Nat×List Nat×Nat×Nat=>[(0,.sl 0 o (v.length+1) 1 none),(1,.fs (nats .u64 v) v.length),(5,.int .i64 v.length),(7,.int .u64 q),(9,.int .u64 p.2.2.1),(10,.int .u64 p.2.2.2),(87,.int .i64 (v.length+1:Int)),(88,.int .i64 p.1)])
   (fun p=>⟨[(0,.cells (nats .u64 (mid l o (v.length+1) p.2.1)))],1⟩) (fun p=>p.1≤v.length+1∧zjh q (seg l o v.length) v p.1 p.2.1 p.2.2.1 p.2.2.2∧(p.1=v.length+1→p.2.2.2=0)) (fun p=>v.length+1 - p.1) (0,seg l o v.length,0,0) (by kernel_rfl) ⟨Yk _,hst,fun h=>rfl⟩ (Sub.oE [] rfl ?_ ?_) ?_
  ·simp only [go_sem]
  ·simp only [go_sem,hms]
  rintro⟨i,s,b,c⟩ ⟨hi,hv,hc0⟩
  dsimp only at hi hv hc0 ⊢
  have ls:=hv.1
  have os:=hv.2.1
  have hbc:=hv.2.2.2.2
  rw [hsl]at ls
  simp (disch:=first|exact Zq|fail) only [go_sem]
  refine AXc.introP (fun h4=>?_) (fun h4=>?_)
  ·have hin:i<v.length+1:=by omega
   have hstep:=sub_step (i:=i) h2 ov (by rw [hsl];exact hin) hv
   have hcar:i=v.length→subP q v i c / 1000000000=0:=fun e=>by subst e;exact zwD hv
   have hpl:=zwE (i:=i) h2 ov hbc.2
   have hgl:=getD_lt os i
   have hmg:=zrm ls hln hin
   have hset:∀ d,(mid l o (v.length+1) s).set (o+i) d=mid l o (v.length+1) (s.set i d):=fun d=>zyk ls hln hin
   have hml:(mid l o (v.length+1) s).length=l.length:=zpp ls hln
   have hm:(q:Int)*((v.getD i 0:Nat):Int)=((q*v.getD i 0:Nat):Int):=(YcD ..).symm
   have hp1:subP q v i c=c+q*v.getD i 0:=rfl
   have hvz:¬(i:Int)<v.length→q*v.getD i 0=0:=fun h=>by rw [za6 v _ _ (by omega)];simp
   obtain⟨w,hw⟩:∃ w,w=q*v.getD i 0:=⟨_,rfl⟩
   rw [←hw]at hm hp1 hvz
   generalize subP q v i c=p at*
   have hd1:subD s i p b=s.getD i 0+1000000000 - p % 1000000000 - b:=rfl
   generalize subD s i p b=d at*
   by_cases c1:(i:Int)<v.length
   ·simp (disch:=first|exact Zq|fail) only [go_sem,c1,hm,hmg]
    repeat refine And.intro (by first|omega|exact⟨by omega,by omega⟩|rfl) ?_
    refine zi (i+1,s.set i (d % 1000000000),1 - d / 1000000000,p / 1000000000) ⟨by dsimp only;omega,hstep,fun e=>hcar (by dsimp only at e;omega)⟩ (by dsimp only;omega) (Sub.oE [] rfl ?_ ?_)
    ·simp only [go_sem]
     simp only [V.int.injEq,Yan]
     omega
    ·simp only [go_sem]
     rw [setN' (d:=d % 1000000000) (by omega),hset]
   ·have hw0:=hvz c1
    simp (disch:=first|exact Zq|fail) only [go_sem,c1,hmg]
    repeat refine And.intro (by first|omega|exact⟨by omega,by omega⟩|rfl) ?_
    refine zi (i+1,s.set i (d % 1000000000),1 - d / 1000000000,p / 1000000000) ⟨by dsimp only;omega,hstep,fun e=>hcar (by dsimp only at e;omega)⟩ (by dsimp only;omega) (Sub.oE [] rfl ?_ ?_)
    ·simp only [go_sem]
     simp only [V.int.injEq,Yan]
     omega
    ·simp only [go_sem]
     rw [setN' (d:=d % 1000000000) (by omega),hset]
  ·have hie:i=v.length+1:=by omega
   subst hie
   have hcz:=hc0 rfl
   subst hcz
   rw [←hsl]at hv
   have hse:=sub_end h2 hd hv rfl
   simp (disch:=first|exact Zq|fail) only [go_sem]
   refine AXa.go mixed (zh) (zg) (by kernel_rfl) ?_
   simp (disch:=first|exact Zq|fail) only [go_sem]
   refine AXc.introP (fun h5=>?_) (fun h5=>?_)
   ·have hb0:b=0:=by omega
    subst hb0
    rw [YY,Y5]at hse
    obtain⟨e1,e2⟩:=dig_done hd hQ hse
    have hs':s=digs (v.length+1) (valL (seg l o v.length) % valL v):=by have:=zgg os;rw [ls,e2]at this;exact this
    rw [←hs', ←e1]
    simp (disch:=first|exact Zq|fail) only [go_sem]
    exact⟨[(4,.int .u64 q)],(Sub.of [] rfl (by simp only [go_sem]) (by simp only [go_sem]) (by decide) (fun b hb hw=>absurd (YaB.1 hb) (by simpa using hw))),by simp only [go_sem]⟩
   ·have hb1:b=1:=by omega
    subst hb1
    rw [Yap]at hse
    obtain⟨e1,e2⟩:=dig_over hd os (by rw [ls,hsl]) hQ h3 hse
    have hq1:valL (seg l o v.length) / valL v=q - 1:=by rw [e1,Ybf]
    have hq0:0<q:=by rw [e1];exact Nat.succ_pos _
    have hmodlt:valL (seg l o v.length) % valL v<1000000000 ^ s.length:=by have h6:=YaM (valL (seg l o v.length)) hd.vpos;have h7:=valL_lt ov;rw [ls,YP];generalize (1000000000:Nat) ^ v.length=pw at*;omega
    have hback:∀ s' c',zgp s v s.length s' c'→s'=digs (v.length+1) (valL (seg l o v.length) % valL v):=fun s' c' hb=>by have h6:=back_end (by rw [ls];omega) hb hmodlt (by rw [e2,hsl,ls]);have h7:=zgg hb.2.1;rw [hb.1,ls,h6]at h7;exact h7
    rw [hq1]
    generalize valL (seg l o v.length) % valL v=M at*
    clear e1 e2 hse hmodlt hq1 hQ h3 hv hbc hst
    have hst:=zvS s v os
    simp (disch:=first|exact Zq|fail) only [go_sem]
    refine AXs.loop mixed (zh) (zg) (fun p:Nat×List Nat×Nat=>[(0,.sl 0 o (v.length+1) 1 none),(1,.fs (nats .u64 v) v.length),(5,.int .i64 v.length),(7,.int .u64 q),(10,.int .u64 p.2.2),(128,.int .i64 (v.length+1:Int)),(129,.int .i64 p.1)])
     (fun p=>⟨[(0,.cells (nats .u64 (mid l o (v.length+1) p.2.1)))],1⟩) (fun p=>p.1≤v.length+1∧zgp s v p.1 p.2.1 p.2.2) (fun p=>v.length+1 - p.1) (0,s,0) (by kernel_rfl) ⟨Yk _,hst⟩ (Sub.oE [] rfl ?_ ?_) ?_
    ·simp only [go_sem]
    ·simp only [go_sem]
    rintro⟨i,s',c⟩ ⟨hi,hv⟩
    dsimp only at hi hv ⊢
    have ls':=hv.1
    have os':=hv.2.1
    have hc1:=hv.2.2.2.2
    rw [ls]at ls'
    simp (disch:=first|exact Zq|fail) only [go_sem]
    refine AXc.introP (fun h4=>?_) (fun h4=>?_)
    ·have hin:i<v.length+1:=by omega
     have hstep:=zBs (i:=i) ov (by rw [ls];exact hin) hv
     have hgl:=getD_lt os' i
     have hgv:=getD_lt ov i
     have hmg:=zrm ls' hln hin
     have hset:∀ d,(mid l o (v.length+1) s').set (o+i) d=mid l o (v.length+1) (s'.set i d):=fun d=>zyk ls' hln hin
     have hml:(mid l o (v.length+1) s').length=l.length:=zpp ls' hln
     have hvz:¬(i:Int)<v.length→v.getD i 0=0:=fun h=>by rw [za6 v _ _ (by omega)]
     have hp1:zi8 s' v i c=s'.getD i 0+c+v.getD i 0:=rfl
     generalize zi8 s' v i c=p at*
     by_cases c1:(i:Int)<v.length
     ·simp (disch:=first|exact Zq|fail) only [go_sem,c1,hmg]
      repeat refine And.intro (by first|omega|exact⟨by omega,by omega⟩|rfl) ?_
      refine zi (i+1,s'.set i (p % 1000000000),p / 1000000000) ⟨by dsimp only;omega,hstep⟩ (by dsimp only;omega) (Sub.oE [] rfl ?_ ?_)
      ·simp only [go_sem]
       simp only [V.int.injEq,Yan]
       omega
      ·simp only [go_sem]
       rw [setN' (d:=p % 1000000000) (by omega),hset]
     ·have hw0:=hvz c1
      simp (disch:=first|exact Zq|fail) only [go_sem,c1,hmg]
      repeat refine And.intro (by first|omega|exact⟨by omega,by omega⟩|rfl) ?_
      refine zi (i+1,s'.set i (p % 1000000000),p / 1000000000) ⟨by dsimp only;omega,hstep⟩ (by dsimp only;omega) (Sub.oE [] rfl ?_ ?_)
      ·simp only [go_sem]
       simp only [V.int.injEq,Yan]
       omega
      ·simp only [go_sem]
       rw [setN' (d:=p % 1000000000) (by omega),hset]
    ·have hie:i=v.length+1:=by omega
     subst hie
     have hfin:=hback s' c (by rw [ls];exact hv)
     rw [←hfin]
     simp (disch:=first|exact Zq|fail) only [go_sem]
     refine AXa.go mixed (zh) (zg) (by kernel_rfl) ?_
     simp (disch:=first|exact Zq|fail) only [go_sem]
     exact⟨[(4,.int .u64 (q - 1:Nat))],(Sub.of [] rfl (by(simp only [go_sem];try (simp only [V.int.injEq,Yan];omega))) (by simp only [go_sem]) (by decide) (fun b hb hw=>absurd (YaB.1 hb) (by simpa using hw))),by simp only [go_sem]⟩
end Go.Proofs
