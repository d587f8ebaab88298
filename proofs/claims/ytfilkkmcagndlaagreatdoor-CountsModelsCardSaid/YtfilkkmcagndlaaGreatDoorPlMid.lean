/- A segment within a list: reading and writing it. -/
import Derived.Test.YtfilkkmcagndlaaGreatDoorPlDiv
import Derived.Test.YtfilkkmcagndlaaGreatDoorQNat4
import Derived.Test.YtfilkkmcagndlaaGreatDoorM2
import Derived.Test.YtfilkkmcagndlaaGreatDoorAbCut
set_option linter.all false
namespace Go.Pl
theorem zqU {l s:List Nat}{o n i:Nat}(hs:s.length=n)(h:o+n≤l.length)(hi:i<n):(mid l o n s).getD (o+i) 0=s.getD i 0:=by
 unfold mid;rw [List.getD_eq_getElem?_getD,List.getElem?_append_left (by simp;omega),List.getElem?_append_right (by simp;omega),List.getD_eq_getElem?_getD];have:o+i - (List.take o l).length=i:=by simp;omega
 rw [this]
theorem zxo {l s:List Nat}{o n i d:Nat}(hs:s.length=n)(h:o+n≤l.length)(hi:i<n):(mid l o n s).set (o+i) d=mid l o n (s.set i d):=by
 unfold mid;rw [List.set_append_left _ _ (by simp;omega),List.set_append_right _ _ (by simp;omega)];have:o+i - (List.take o l).length=i:=by simp;omega
 rw [this]
theorem mid_seg {l:List Nat}{o n:Nat}(h:o+n≤l.length):mid l o n ((l.drop o).take n)=l:=by
 unfold mid;rw [List.append_assoc];have:List.drop (o+n) l=List.drop n (List.drop o l):=by rw [List.drop_drop]
 rw [this,List.take_append_drop,List.take_append_drop]
end Go.Pl

namespace Go.Proofs
open Go.Ab Go.Pl
set_option maxHeartbeats 4000000 in
theorem trimN_ok(l:List Nat)(k:Nat)(hk:k≤l.length)(hl:l.length≤1000000):NCall Tryz.prog 90 [.sl 0 0 k 1 none] [.cells (nats .u64 l)] [] (.sl 0 0 (zaB (l.take k)).length 1 none) ⟨[(0,.cells (nats .u64 l))],1⟩:=by
 refine NCall.walk (rs:=[.tmp 2]) [0,2,14] [] 1 mixed (zh) (zg) call90 Tryz.func90 rfl Tryz.ntmps90 rfl (by kernel_rfl) (by simp) (by simp) (by simp) ?_;simp only [go_sem];refine AXs.loop mixed (zh) (zg) (fun n:Nat=>[(0,.sl 0 0 n 1 none)]) (fun _=>⟨[(0,.cells (nats .u64 l))],1⟩) (fun n=>n≤k∧∀ j,n≤j→(l.take k).getD j 0=0) (fun n=>n) k (by kernel_rfl)
  ⟨Nat.le_refl _,fun j hj=>za5 _ _ _ (by simp;omega)⟩ (Sub.of [] rfl ?_ ?_ (by decide) (fun b hb _=>?_)) ?_
 ·simp only [go_sem]
 ·simp only [go_sem]
 ·obtain rfl:b=0:=Nat.lt_one_iff.1 hb;rfl
 rintro n ⟨hn,hz⟩;rcases Nat.eq_zero_or_pos n with rfl|hp
 ·simp only [go_sem];rw [axg1_any];simp only [go_sem,zwG];refine AXa.go mixed (zh) (zg) (by kernel_rfl) ?_;simp only [go_sem];have h2:=zdb (l:=l.take k) (n:=0) (by simp) hz (.inl rfl);refine⟨[(2,.sl 0 0 0 1 none)],Sub.of [] rfl ?_ ?_ (by decide) (fun b hb _=>?_),by rw [h2];rfl⟩
  ·simp only [go_sem]
  ·simp only [go_sem]
  ·obtain rfl:b=0:=Nat.lt_one_iff.1 hb;rfl
 ·have hd:decide (0<(n:Int))=true:=by simp;omega
  have hg:(l.take k).getD (n - 1) 0=l.getD (n - 1) 0:=getD_take _ _ _ _ (by omega);simp (disch:=first|assumption|(push_cast<;>omega)|omega) only [go_sem,hd]
  (repeat refine sdC ?_);refine AXc.introP (fun h1=>?_) (fun h1=>?_)
  ·simp (disch:=first|assumption|(push_cast<;>omega)|omega) only [go_sem]
   (repeat refine sdC ?_);refine zk (n - 1) ⟨by omega,fun j hj=>?_⟩ (by omega) (Sub.of [] rfl ?_ ?_ (by decide) (fun b hb _=>?_))
   ·by_cases hjn:j=n - 1
    ·subst hjn;omega
    ·exact hz j (by omega)
   ·simp only [go_sem]
   ·simp only [go_sem]
   ·obtain rfl:b=0:=Nat.lt_one_iff.1 hb;rfl
  ·simp only [go_sem];refine AXa.go mixed (zh) (zg) (by kernel_rfl) ?_;simp only [go_sem];have h2:=zdb (l:=l.take k) (n:=n) (by simp;omega) hz (.inr (by omega));have h3:(zaB (l.take k)).length=n:=by rw [h2];simp;omega
   refine⟨[(2,.sl 0 0 n 1 none)],Sub.of [] rfl ?_ ?_ (by decide) (fun b hb _=>?_),by rw [h3];rfl⟩
   ·simp only [go_sem]
   ·simp only [go_sem]
   ·obtain rfl:b=0:=Nat.lt_one_iff.1 hb;rfl
def zqe(args:List V)(H:Hp)(r:AR):Prop:=
 ∃(b:Nat) (l:List Nat) (k:Nat) (kc:Option Nat),args=[.sl b 0 k 1 kc]∧H.get b=some (.cells (nats .u64 l))∧k≤l.length∧l.length≤1000000∧(∀ b x,H.get b=some x→b<H.next)∧
  r=⟨True,.sl b 0 (zaB (l.take k)).length 1 none,H,[b],[]⟩
theorem zqu:∀ args H r,zqe args H r→HCall Tryz.prog 90 args H r:=by
 rintro args H r ⟨b,l,k,kc,rfl,hb,hk,hl,hkeys,rfl⟩;refine HCall.view1 (trimN_ok l k hk hl) (zaL _ _) b _ H ⟨rfl,fun i x y hx hy=>?_⟩ hb hkeys;match i with
 |0=>cases hx;cases hy;exact .sl (π:=fun i=>[b].getD i 0) (b:=0) (Nat.lt_one_iff.2 rfl) (.inl rfl)
 |i+1=>simp at hx
theorem zse {args:List V}{H:Hp}{r r':AR}(h:zqe args H r)(h':zqe args H r'):r'=r:=by obtain⟨b,l,k,kc,rfl,hb,_,_,_,rfl⟩:=h;obtain⟨b',l',k',kc',he,hb',_,_,_,rfl⟩:=h';simp only [List.cons.injEq,V.sl.injEq,and_true,true_and]at he;obtain⟨rfl,rfl,rfl⟩:=he;rw [hb]at hb';simp only [Option.some.injEq,Blk.cells.injEq]at hb';rw [zaO hb']
noncomputable def ΔT:FuncId→List V→Hp→Option AR:=zct 90 (conD zqe) noΔ
theorem zvh:zbo Tryz.prog ΔT:=zaw (zaQ zqu) zg
theorem zg0(b k:Nat)(kc:Option Nat)(l:List Nat)(bs:List (Nat×Blk))(nx:Nat)(hb:zaM bs b=some (.cells (nats .u64 l)))(hk:k≤l.length)(hl:l.length≤1000000)(hkeys:((keysB bs).all fun b=>decide (b<nx))=true):
 conD zqe [.sl b 0 k 1 kc] ⟨bs,nx⟩=some ⟨True,.sl b 0 (zaB (l.take k)).length 1 none,⟨bs,nx⟩,[b],[]⟩:=by
 have hr:zqe [.sl b 0 k 1 kc] ⟨bs,nx⟩ ⟨True,.sl b 0 (zaB (l.take k)).length 1 none,⟨bs,nx⟩,[b],[]⟩:=⟨b,l,k,kc,rfl,(zaP bs b).trans hb,hk,hl,zbs hkeys,rfl⟩
 exact zaN (h:=hr) fun _ h'=>zse hr h'
theorem zyv(x k:Nat)(hk:k<1000000000):(eachR (zJ k) (limbs x) [] ((limbs x).length+1)).1=digs ((limbs x).length+1) (x*k):=by
 have ox:=zI x;have h:=zhJ hk ox;rw [zF]at h;have h1:zaB (eachR (zJ k) (limbs x) [] ((limbs x).length+1)).1=limbs (x*k):=by rw [←h];unfold zdT;simp
 have h2:okL (eachR (zJ k) (limbs x) [] ((limbs x).length+1)).1:=okL_each (fun a b c=>zfu k a b c) _;have h3:=eachR_len (zJ k) (limbs x) [] ((limbs x).length+1);rw [zbb h2]at h1;have h4:=zci h1;have:=zgs h2;rw [h3,h4]at this;exact this
set_option maxHeartbeats 4000000 in
theorem eachN_ok(x k:Nat)(hx:(limbs x).length≤1000)(hk:k<1000000000):NCall Tryz.prog 145 [.fs (nats .u64 (limbs x)) (limbs x).length,.nilS,.fn 169 [.fp [.int .u64 k]]] [] []
 (.sl 0 0 (limbs (x*k)).length 1 none) ⟨[(0,.cells (nats .u64 (digs ((limbs x).length+1) (x*k))))],1⟩:=by
 have ox:=zI x
 rw [←zyv x k hk]
 have hv:limbs (x*k)=zaB (eachR (zJ k) (limbs x) [] ((limbs x).length+1)).1:=by have h:=zhJ hk ox;rw [zF]at h;rw [←h];unfold zdT;simp
 rw [hv]
 clear hv
 generalize limbs x=l at*
 have hC:∀ i,(eachR (zJ k) l [] i).2<1000000000:=fun i=>zhL hk l ox [] i
 have hpu:∀ x∈[V.fp [V.int .u64 k]],Pure x:=by simp [zhV,zcd]
 have hG:=zf (zpN k) (zh (P:=Tryz.prog))
 refine NCall.walk (rs:=[.tmp 6]) [0,1,2,6,7,8,9,10,11,12,18,19,20,25,33] [] 0 mixed (hG) (zvh) zy5 Tryz.func145 rfl Tryz.ntmps145 rfl (by kernel_rfl) (by simp) (by simp) (by simp) ?_
 have hmx:maxI (l.length:Int) 0=(l.length:Int):=by unfold maxI;split<;>omega
 simp (disch:=first|assumption|(push_cast<;>omega)|omega) only [go_sem,hmx]
 refine AXs.loop mixed (hG) (zvh) (fun i:Nat=>[(0,.fs (nats .u64 l) l.length),(1,.nilS),(2,.fn 169 [.fp [.int .u64 k]]),(7,bkV (eachR (zJ k) l [] i).1),(8,.int .u64 (eachR (zJ k) l [] i).2),(18,.int .i64 (l.length+1:Int)),(19,.int .i64 i)])
  (fun i=>⟨bkBs (eachR (zJ k) l [] i).1,bkN (eachR (zJ k) l [] i).1⟩) (fun i=>i≤l.length+1) (fun i=>l.length+1 - i) 0 (by kernel_rfl) (Nat.zero_le _) (Sub.of0 [] rfl rfl ?_ ?_) ?_
 ·simp only [go_sem,eachR,bkV]
  simp [zcd]
 ·simp only [go_sem,eachR,bkBs]
 intro i hi
 simp (disch:=first|assumption|(push_cast<;>omega)|omega) only [go_sem]
 refine AXc.introP (fun h1=>?_) (fun h1=>?_)
 ·have hlt:=getD_lt ox i
  have hFi:zrC k [.int .u64 (l.getD i 0),.int .u64 0,.int .u64 (eachR (zJ k) l [] i).2,.fp [.int .u64 k]]=some (.ret (.tup [.int .u64 (zJ k (l.getD i 0) 0 (eachR (zJ k) l [] i).2).1,.int .u64 (zJ k (l.getD i 0) 0 (eachR (zJ k) l [] i).2).2])):=
   zn (pat:=fun p:Nat×Nat×Nat=>[V.int .u64 p.1,.int .u64 p.2.1,.int .u64 p.2.2,.fp [.int .u64 k]]) (fun x y h=>zhz h) (l.getD i 0,0,(eachR (zJ k) l [] i).2) ⟨hlt,hk,hC i⟩
  have hsucc:eachR (zJ k) l [] (i+1)=((eachR (zJ k) l [] i).1++[(zJ k (l.getD i 0) 0 (eachR (zJ k) l [] i).2).1],(zJ k (l.getD i 0) 0 (eachR (zJ k) l [] i).2).2):=rfl
  have hlen:=eachR_len (zJ k) l [] i
  generalize zJ k (l.getD i 0) 0 (eachR (zJ k) l [] i).2=r at hFi hsucc
  generalize eachR (zJ k) l [] i=q at*
  obtain⟨q1,q2⟩:=q
  dsimp only at hFi hsucc hlen ⊢
  have zx:¬(i:Int)<l.length→l.getD i 0=0:=fun h=>za5 _ _ _ (by omega)
  have hz0:¬(i:Int)<0:=by omega
  have hcap:nzs [V.fp [.int .u64 k]]=[V.fp [.int .u64 k]]:=rfl
  by_cases c1:(i:Int)<l.length
  all_goals
   try rw [zx c1]at hFi
   try simp only [Int.natCast_zero]at hFi
   rcases q1 with _|⟨d,t⟩
   ·simp (disch:=first|assumption|(push_cast<;>omega)|omega) only [go_sem,bkV,bkBs,bkN,c1,hz0,decide_false,hcap,hFi]
    repeat refine And.intro (by omega) ?_
    refine zk (i+1) (by omega) (by omega) (Sub.of0 [(0,1)] rfl (by rw [hsucc];rfl) ?_ ?_)
    ·rw [hsucc]
     simp only [go_sem,bkV,bkBs,bkN]
     simp [zcd]
    ·rw [hsucc]
     simp only [go_sem,bkV,bkBs,bkN]
     simp [nats]
   ·have hll:t.length+1=i:=hlen
    simp (disch:=first|assumption|(push_cast<;>omega)|omega) only [go_sem,bkV,bkBs,bkN,c1,hz0,decide_false,hcap,hFi]
    repeat refine And.intro (by omega) ?_
    refine zk (i+1) (by omega) (by omega) (Sub.of0 [(0,2)] rfl (by rw [hsucc];rfl) ?_ ?_)
    ·rw [hsucc]
     simp only [go_sem,bkV,bkBs,bkN]
     simp [zcd]
    ·rw [hsucc]
     simp only [go_sem,bkV,bkBs,bkN]
     simp [nats]
 ·have hie:i=l.length+1:=by omega
  subst hie
  have hlen:=eachR_len (zJ k) l [] (l.length+1)
  generalize eachR (zJ k) l [] (l.length+1)=q at*
  obtain⟨q1,q2⟩:=q
  dsimp only at hlen ⊢
  rcases q1 with _|⟨d,t⟩
  ·simp at hlen
  ·have hll:t.length+1=l.length+1:=hlen
   have hT:ΔT 90 [.sl 0 0 (t.length+1) 1 none] ⟨[(0,.cells (nats .u64 (d::t)))],1⟩=some ⟨True,.sl 0 0 (zaB (d::t)).length 1 none,⟨[(0,.cells (nats .u64 (d::t)))],1⟩,[0],[]⟩:=by have:=zg0 0 (t.length+1) none (d::t) [(0,.cells (nats .u64 (d::t)))] 1 rfl (by simp) (by simp;omega) rfl;rwa [List.take_of_length_le (by simp)]at this
   simp only [go_sem,bkV,bkBs,bkN]
   refine AXa.go mixed (hG) (zvh) (by kernel_rfl) ?_
   simp only [go_sem,hT]
   exact⟨[(6,.sl 0 0 (zaB (d::t)).length 1 none)],Sub.of0 [] rfl rfl (by simp only [go_sem]) (by simp only [go_sem]),by simp only [go_sem]⟩
end Go.Proofs

namespace Go.Proofs
open Go.Ab Go.Pl
def zvg(args:List V)(H:Hp)(r:AR):Prop:=
 ∃ x k:Nat,args=[.fs (nats .u64 (limbs x)) (limbs x).length,.nilS,.fn 169 [.fp [.int .u64 k]]]∧(limbs x).length≤1000∧k<1000000000∧(∀ b x,H.get b=some x→b<H.next)∧
  r=⟨True,.sl H.next 0 (limbs (x*k)).length 1 none,⟨(H.next,.cells (nats .u64 (digs ((limbs x).length+1) (x*k))))::H.bs,H.next+1⟩,[],[]⟩
theorem eachD_ok:∀ args H r,zvg args H r→HCall Tryz.prog 145 args H r:=by rintro args H r ⟨x,k,rfl,h1,h2,hk,rfl⟩;refine HCall.fresh (F:=[]) (eachN_ok x k h1 h2) (zaL _ _) [] _ H rfl (by simp) ?_ (by simp) (by simp) hk;exact zu (by simp [zgh,zeP,zek,zkP,zhV,zcd])
theorem zuf {args:List V}{H:Hp}{r r':AR}(h:zvg args H r)(h':zvg args H r'):r'=r:=by
 obtain⟨x,k,rfl,_,_,_,rfl⟩:=h;obtain⟨x',k',he,_,_,_,rfl⟩:=h';simp at he;obtain⟨⟨e1,_⟩,e2⟩:=he;have e3:=zci (zaO e1);have e4:k=k':=by omega
 rw [e3,e4]
noncomputable def ΔE:FuncId→List V→Hp→Option AR:=zct 145 (conD zvg) noΔ
theorem ΔE_ok:zbo Tryz.prog ΔE:=zaw (zaQ eachD_ok) zg
theorem eachD_eq(x k:Nat)(h1:(limbs x).length≤1000)(h2:k<1000000000)(bs:List (Nat×Blk))(nx:Nat)(hkeys:((keysB bs).all fun b=>decide (b<nx))=true):
 conD zvg [.fs (nats .u64 (limbs x)) (limbs x).length,.nilS,.fn 169 [.fp [.int .u64 k]]] ⟨bs,nx⟩=some ⟨True,.sl nx 0 (limbs (x*k)).length 1 none,⟨(nx,.cells (nats .u64 (digs ((limbs x).length+1) (x*k))))::bs,nx+1⟩,[],[]⟩:=by
 have hr:zvg [.fs (nats .u64 (limbs x)) (limbs x).length,.nilS,.fn 169 [.fp [.int .u64 k]]] ⟨bs,nx⟩ ⟨True,.sl nx 0 (limbs (x*k)).length 1 none,⟨(nx,.cells (nats .u64 (digs ((limbs x).length+1) (x*k))))::bs,nx+1⟩,[],[]⟩:=⟨x,k,rfl,h1,h2,zbs hkeys,rfl⟩
 exact zaN hr fun _ h'=>zuf hr h'
set_option maxHeartbeats 4000000 in
theorem zsu(x k:Nat)(hx:(limbs x).length≤1000)(hk:k<1000000000):NCall Tryz.prog 139 [.fs (nats .u64 (limbs x)) (limbs x).length,.int .u64 k] [] []
 (.sl 0 0 (limbs (x*k)).length 1 none) ⟨[(0,.cells (nats .u64 (digs ((limbs x).length+1) (x*k))))],1⟩:=by
 refine NCall.walk (rs:=[.tmp 4]) [0,1,3,4] [108] 0 mixed (zh) (ΔE_ok) call139 Tryz.func139 rfl Tryz.ntmps139 rfl (by kernel_rfl) (by simp) (by simp) (by simp) ?_
 have hE:ΔE 145 [.fs (nats .u64 (limbs x)) (limbs x).length,.nilS,.fn 169 [.fp [.int .u64 k]]] ⟨[],0⟩=some ⟨True,.sl 0 0 (limbs (x*k)).length 1 none,⟨[(0,.cells (nats .u64 (digs ((limbs x).length+1) (x*k))))],1⟩,[],[]⟩:=eachD_eq x k hx hk [] 0 rfl
 simp only [go_sem,hE]
 exact⟨[(4,.sl 0 0 (limbs (x*k)).length 1 none)],Sub.of0 [] rfl rfl (by simp only [go_sem]) (by simp only [go_sem]),by simp only [go_sem]⟩
def zgA(args:List V)(H:Hp)(r:AR):Prop:=
 ∃ x k:Nat,args=[.fs (nats .u64 (limbs x)) (limbs x).length,.int .u64 k]∧(limbs x).length≤1000∧k<1000000000∧(∀ b x,H.get b=some x→b<H.next)∧
  r=⟨True,.sl H.next 0 (limbs (x*k)).length 1 none,⟨(H.next,.cells (nats .u64 (digs ((limbs x).length+1) (x*k))))::H.bs,H.next+1⟩,[],[]⟩
theorem zsv:∀ args H r,zgA args H r→HCall Tryz.prog 139 args H r:=by rintro args H r ⟨x,k,rfl,h1,h2,hk,rfl⟩;refine HCall.fresh (F:=[]) (zsu x k h1 h2) (zaL _ _) [] _ H rfl (by simp) ?_ (by simp) (by simp) hk;exact zu (by simp [zgh,zeP,zcd])
theorem zms {args:List V}{H:Hp}{r r':AR}(h:zgA args H r)(h':zgA args H r'):r'=r:=by
 obtain⟨x,k,rfl,_,_,_,rfl⟩:=h;obtain⟨x',k',he,_,_,_,rfl⟩:=h';simp at he;obtain⟨⟨e1,_⟩,e2⟩:=he;have e3:=zci (zaO e1);have e4:k=k':=by omega
 rw [e3,e4]
theorem zju(x k:Nat)(h1:(limbs x).length≤1000)(h2:k<1000000000)(bs:List (Nat×Blk))(nx:Nat)(hkeys:((keysB bs).all fun b=>decide (b<nx))=true):
 conD zgA [.fs (nats .u64 (limbs x)) (limbs x).length,.int .u64 k] ⟨bs,nx⟩=some ⟨True,.sl nx 0 (limbs (x*k)).length 1 none,⟨(nx,.cells (nats .u64 (digs ((limbs x).length+1) (x*k))))::bs,nx+1⟩,[],[]⟩:=by
 have hr:zgA [.fs (nats .u64 (limbs x)) (limbs x).length,.int .u64 k] ⟨bs,nx⟩ ⟨True,.sl nx 0 (limbs (x*k)).length 1 none,⟨(nx,.cells (nats .u64 (digs ((limbs x).length+1) (x*k))))::bs,nx+1⟩,[],[]⟩:=⟨x,k,rfl,h1,h2,zbs hkeys,rfl⟩
 exact zaN hr fun _ h'=>zms hr h'
end Go.Proofs

namespace Go.Ab
variable {P:Program}{C:Cfg}{K:Out→St→Prop}{st:List Fr}{env:Env}{h:Hp}
def KToF {α:Type}(C:Cfg)(P:Program)(K:Out→St→Prop)(st:List Fr)(p:α→Prop)(S:α→St):Out→St→Prop
 | .norm,s=>∃ i,p i∧(Sub C s (S i)∨(C.Wm=[]∧∃ F,Fz C.nx F s (S i)))
 | .exit i,s=>unst C P K st (.exit i) s
 | .ret,s=>unst C P K st .ret s
 | .panic v,s=>unst C P K st (.panic v) s
theorem zeq {α:Type}{p:α→Prop}{S:α→St}{s:St}(i:α)(hi:p i)(hs:Sub C s (S i)):KToF C P K st p S .norm s:=⟨i,hi,.inl hs⟩
theorem AXa.cutF {α:Type}(n:Nat)(pr:α→Prop)(env':α→Env)(h':α→Hp){y p q:Code}(hn:takeC n y=some (p,q))(hm:P.follows .mixedOrders=true)(hΓ:zdt P C.Γ)(hΔ:zbo P C.Δ)(hok:zaz C.nt y=true)
 (hx:AXs C P (KToF C P K st pr fun i=>⟨env' i,h' i⟩) [] p env h) (hc:∀ i,pr i→AXa C P K st q (env' i) (h' i)):AXa C P K st y env h:=
 zkr hm ⟨hΓ,hΔ⟩ n y p q ⟨env,h⟩ _ _ hn hok hx fun o s k=>by
  cases o with
  |norm=>
   obtain⟨i,hi,k⟩:=k;rcases k with k|⟨hW,F,k⟩
   ·exact AX.sub k (hc i hi)
   ·exact AX.freeze hW k (hc i hi)
  |exit i=>exact k
  |ret=>exact k
  |panic v=>exact k
theorem NCall.walkWA {nt:Nat}(keep:List Nat)(fz:List Nat)(nx:Nat)(W:List Nat){Γ:FuncId→List V→Option PR}{Δ:FuncId→List V→Hp→Option AR}{f:FuncId}{fn:Func}{c:Code}{args:List V}{F:List Blk}{v:V}{Hc:Hp}{rs:List ResultVar}
 (hm:P.follows .mixedOrders=true) (hΓ:zdt P Γ) (hΔ:zbo P Δ) (hc:zi P f) (hf:P.funcs[f]? =some fn) (hb:fn.body=some c) (hnt:fn.ntmps=nt) (hrs:fn.results.toList=rs) (hok:zaz nt c=true) (hle:args.length≤nt) (hnx:nx=F.length) (hW:∀ b∈W,b<F.length) (hn:F.length≤Hc.next)
 (h:AXa ⟨nt,zbC keep,Γ,Δ,nx,W,zbC fz⟩ P (EndN ⟨nt,zbC keep,Γ,Δ,nx,W,zbC fz⟩ P rs v Hc) [] c (zb2 0 args) ⟨numB 0 F,nx⟩):NCall P f args F W v Hc:=by
 subst hnx
 refine NCall.of (C:=⟨nt,zbC keep,Γ,Δ,F.length,W,zbC fz⟩) hc hf hb hnt hle rfl hW hn ?_
 refine AX.mono h fun o s hk=>?_
 subst hrs
 cases o with
 |norm=>obtain⟨env',h1,h2,h3⟩:=hk;exact⟨.inl rfl,_,h1,rfl,h2,h3⟩
 |ret=>obtain⟨env',h1,h2,h3⟩:=hk;exact⟨.inr rfl,_,h1,rfl,h2,h3⟩
 |exit i=>exact hk.elim
 |panic v=>exact hk.elim
end Go.Ab
