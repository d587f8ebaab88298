/- A segment within a list: reading and writing it. -/
import Derived.Test.YtbdlfegfepggnaaGreatDoorR01
set_option linter.all false
set_option maxHeartbeats 16000000
set_option maxRecDepth 100000
noncomputable section
namespace Go.Pl
def zpE {l s:ZN}{o n i:Nat}(hs:s.length=n)(h:o+n≤l.length)(hi:i<n):(mid l o n s).getD (o+i) 0=s.getD i 0:=by
 unfold mid;rw[Ya,YP (by simp;omega),Yak (by simp;omega),Ya];have:o+i-(List.take o l).length=i:=by simp;omega
 rw[this]
def zvr {l s:ZN}{o n i d:Nat}(hs:s.length=n)(h:o+n≤l.length)(hi:i<n):(mid l o n s).set (o+i) d=mid l o n (s.set i d):=by
 unfold mid;rw[List.set_append_left _ _ (by simp;omega),List.set_append_right _ _ (by simp;omega)];have:o+i-(List.take o l).length=i:=by simp;omega
 rw[this]
def mid_seg {l:ZN}{o n:Nat}(h:o+n≤l.length):mid l o n ((l.drop o).take n)=l:=by
 unfold mid;rw[YH];have:List.drop (o+n) l=List.drop n (List.drop o l):=by rw[YaR]
 rw[this,Yaf,Yaf]
end Go.Pl

namespace Go.Proofs
open Tryz Go.Ab Go.Pl
def trimN_ok(l:ZN)(k:Nat)(hk:k≤l.length)(hl:l.length≤1000000):NCall prog 156 [.sl 0 0 k 1 none] [.cells (nats .u64 l)] [] (.sl 0 0 (zao (l.take k)).length 1 none) ⟨[(0,.cells (nats .u64 l))],1⟩:=by
 refine NCall.walk (rs:=[.tmp 2]) [0,2,14] [] 1 mixed (zh) (zg) zxh func156 rfl ntmps156 rfl Zk Zs Zs Zs ?_;simp only[go_sem];refine AXs.loop mixed (zh) (zg) (fun n:Nat=>[(0,.sl 0 0 n 1 none)]) (fun _=>⟨[(0,.cells (nats .u64 l))],1⟩) (fun n=>n≤k∧∀j,n≤j→(l.take k).getD j 0=0) (fun n=>n) k Zk
  ⟨Yc _,fun j hj=>zbi _ _ _ (by simp;omega)⟩ (Sub.of [] rfl ?_ ?_ Zd (fun b hb _=>?_)) ?_
 ·simp only[go_sem]
 ·simp only[go_sem]
 ·obtain rfl:b=0:=YaA.1 hb;rfl
 rintro n ⟨hn,hz⟩;rcases YR n with rfl|hp
 ·simp only[go_sem];rw[zqx];simp only[go_sem,zuX];refine AXa.go mixed (zh) (zg) Zk ?_;simp only[go_sem];have h2:=zcD (l:=l.take k) (n:=0) Zs hz (.inl rfl);refine⟨[(2,.sl 0 0 0 1 none)],Sub.of [] rfl ?_ ?_ Zd (fun b hb _=>?_),by rw[h2];rfl⟩
  ·simp only[go_sem]
  ·simp only[go_sem]
  obtain rfl:b=0:=YaA.1 hb;rfl
 have hd:decide (0<(n:Int))=true:=by simp;omega
 have hg:(l.take k).getD (n-1) 0=l.getD (n-1) 0:=getD_take _ _ _ _ Zo;simp(disch:=try exact Zq)only[go_sem,hd]
 (repeat refine sdC ?_);refine Xc (fun h1=>?_) (fun h1=>?_)
 ·simp(disch:=try exact Zq)only[go_sem]
  (repeat refine sdC ?_);refine zi (n-1) ⟨Zo,fun j hj=>?_⟩ Zo (Sub.of [] rfl ?_ ?_ Zd (fun b hb _=>?_))
  ·by_cases hjn:j=n-1
   ·subst hjn;omega
   exact hz j Zo
  ·simp only[go_sem]
  ·simp only[go_sem]
  obtain rfl:b=0:=YaA.1 hb;rfl
 simp only[go_sem];refine AXa.go mixed (zh) (zg) Zk ?_;simp only[go_sem];have h2:=zcD (l:=l.take k) (n:=n) (by simp;omega) hz (.inr Zo);have h3:(zao (l.take k)).length=n:=by rw[h2];simp;omega
 refine⟨[(2,.sl 0 0 n 1 none)],Sub.of [] rfl ?_ ?_ Zd (fun b hb _=>?_),by rw[h3];rfl⟩
 ·simp only[go_sem]
 ·simp only[go_sem]
 obtain rfl:b=0:=YaA.1 hb;rfl
def zoT(args:ZA)(H:Hp)(r:AR):Prop:=
 ∃(b:Nat)(l:ZN)(k:Nat)(kc:Option Nat),args=[.sl b 0 k 1 kc]∧H.get b=some (.cells (nats .u64 l))∧k≤l.length∧l.length≤1000000∧(∀b x,H.get b=some x→b<H.next)∧
  r=⟨True,.sl b 0 (zao (l.take k)).length 1 none,H,[b],[]⟩
def zpd:∀args H r,zoT args H r→HCall prog 156 args H r:=by
 rintro args H r ⟨b,l,k,kc,rfl,hb,hk,hl,hkeys,rfl⟩;refine XA (trimN_ok l k hk hl) (zaG _ _) b _ H ⟨rfl,fun i x y hx hy=>?_⟩ hb hkeys;match i with
 |0=>cases hx;cases hy;exact .sl (π:=fun i=>[b].getD i 0) (b:=0) (YaA.2 rfl) (.inl rfl)
 |i+1=>simp at hx
def zqW {args:ZA}{H:Hp}{r r':AR}(h:zoT args H r)(h':zoT args H r'):r'=r:=by obtain⟨b,l,k,kc,rfl,hb,_,_,_,rfl⟩:=h;obtain⟨b',l',k',kc',he,hb',_,_,_,rfl⟩:=h';simp only[Yt,V.sl.injEq,Yad,Yag]at he;obtain⟨rfl,rfl,rfl⟩:=he;rw[hb]at hb';simp only[Yx,Blk.cells.injEq]at hb';rw[zaY hb']
def ΔT:FuncId→ZA→Hp→Option AR:=zaQ 156 (conD zoT) noΔ
def zts:zay prog ΔT:=zK (zT zpd) zg
def zf4(b k:Nat)(kc:Option Nat)(l:ZN)(bs:ZH)(nx:Nat)(hb:zG bs b=some (.cells (nats .u64 l)))(hk:k≤l.length)(hl:l.length≤1000000)(hkeys:((keysB bs).all fun b=>decide (b<nx))=true):conD zoT [.sl b 0 k 1 kc] ⟨bs,nx⟩=some ⟨True,.sl b 0 (zao (l.take k)).length 1 none,⟨bs,nx⟩,[b],[]⟩:=by have hr:zoT [.sl b 0 k 1 kc] ⟨bs,nx⟩ ⟨True,.sl b 0 (zao (l.take k)).length 1 none,⟨bs,nx⟩,[b],[]⟩:=⟨b,l,k,kc,rfl,(zC bs b).trans hb,hk,hl,zaZ hkeys,rfl⟩;exact zan (h:=hr) fun _ h'=>zqW hr h'
def zwA(x k:Nat)(hk:k<1000000000):(zA (zJ k) (limbs x) [] ((limbs x).length+1)).1=digs ((limbs x).length+1) (x*k):=by
 have ox:=zI x;have h:=zgM hk ox;rw[zD]at h;have h1:zao (zA (zJ k) (limbs x) [] ((limbs x).length+1)).1=limbs (x*k):=by rw[←h];unfold zdf;simp
 have h2:okL (zA (zJ k) (limbs x) [] ((limbs x).length+1)).1:=zbR (fun a b c=>zeQ k a b c) _;have h3:=zaD (zJ k) (limbs x) [] ((limbs x).length+1);rw[zaM h2]at h1;have h4:=zbW h1;have:=zfD h2;rw[h3,h4]at this;exact this
def eachN_ok(x k:Nat)(hx:(limbs x).length≤1000)(hk:k<1000000000):NCall prog 181 [.fs (nats .u64 (limbs x)) (limbs x).length,.nilS,.fn 202 [.fp [.int .u64 k]]] [] [] (.sl 0 0 (limbs (x*k)).length 1 none) ⟨[(0,.cells (nats .u64 (digs ((limbs x).length+1) (x*k))))],1⟩:=by
 have ox:=zI x;rw[←zwA x k hk];have hv:limbs (x*k)=zao (zA (zJ k) (limbs x) [] ((limbs x).length+1)).1:=by have h:=zgM hk ox;rw[zD]at h;rw[←h];unfold zdf;simp
 rw[hv];clear hv;generalize limbs x=l at*;have hC:∀i,(zA (zJ k) l [] i).2<1000000000:=fun i=>zgO hk l ox [] i;have hpu:∀x∈[V.fp [V.int .u64 k]],Pure x:=by simp[zgZ,zaz]
 have hG:=zf (zow k) (zh (P:=prog));refine NCall.walk (rs:=[.tmp 6]) [0,1,2,6,7,8,9,10,11,12,18,19,20,25,33] [] 0 mixed (hG) (zts) zxg func181 rfl ntmps181 rfl Zk Zs Zs Zs ?_;have hmx:maxI (l.length:Int) 0=(l.length:Int):=by unfold maxI;split<;>omega
 simp(disch:=try exact Zq)only[go_sem,hmx];refine AXs.loop mixed (hG) (zts) (fun i:Nat=>[(0,.fs (nats .u64 l) l.length),(1,.nilS),(2,.fn 202 [.fp [.int .u64 k]]),(7,bkV (zA (zJ k) l [] i).1),(8,.int .u64 (zA (zJ k) l [] i).2),(18,.int .i64 (l.length+1:Int)),(19,.int .i64 i)])
  (fun i=>⟨bkBs (zA (zJ k) l [] i).1,bkN (zA (zJ k) l [] i).1⟩) (fun i=>i≤l.length+1) (fun i=>l.length+1-i) 0 Zk (Yk _) (Xb [] rfl rfl ?_ ?_) ?_
 ·simp only[go_sem,zA,bkV];simp[zaz]
 ·simp only[go_sem,zA,bkBs]
 intro i hi;simp(disch:=try exact Zq)only[go_sem];refine Xc (fun h1=>?_) (fun h1=>?_)
 ·have hlt:=getD_lt ox i;have hFi:zqg k [.int .u64 (l.getD i 0),.int .u64 0,.int .u64 (zA (zJ k) l [] i).2,.fp [.int .u64 k]]=some (.ret (.tup [.int .u64 (zJ k (l.getD i 0) 0 (zA (zJ k) l [] i).2).1,.int .u64 (zJ k (l.getD i 0) 0 (zA (zJ k) l [] i).2).2])):=
   zo (pat:=fun p:Nat×Nat×Nat=>[V.int .u64 p.1,.int .u64 p.2.1,.int .u64 p.2.2,.fp [.int .u64 k]]) (fun x y h=>zgz h) (l.getD i 0,0,(zA (zJ k) l [] i).2) ⟨hlt,hk,hC i⟩
  have hsucc:zA (zJ k) l [] (i+1)=((zA (zJ k) l [] i).1++[(zJ k (l.getD i 0) 0 (zA (zJ k) l [] i).2).1],(zJ k (l.getD i 0) 0 (zA (zJ k) l [] i).2).2):=rfl;have hlen:=zaD (zJ k) l [] i;generalize zJ k (l.getD i 0) 0 (zA (zJ k) l [] i).2=r at hFi hsucc;generalize zA (zJ k) l [] i=q at*;obtain⟨q1,q2⟩:=q;dsimp only at hFi hsucc hlen ⊢;have zx:¬(i:Int)<l.length→l.getD i 0=0:=fun h=>zbi _ _ _ Zo;have hz0:¬(i:Int)<0:=Zo;have hcap:nzs [V.fp [.int .u64 k]]=[V.fp [.int .u64 k]]:=rfl;by_cases c1:(i:Int)<l.length;all_goals
   try rw[zx c1]at hFi
   try simp only[Int.natCast_zero]at hFi
   rcases q1 with _|⟨d,t⟩
   ·simp(disch:=try exact Zq)only[go_sem,bkV,bkBs,bkN,c1,hz0,decide_false,hcap,hFi];repeat refine And.intro Zo ?_
    refine zi (i+1) Zo Zo (Xb [(0,1)] rfl (by rw[hsucc];rfl) ?_ ?_)
    ·rw[hsucc];simp only[go_sem,bkV,bkBs,bkN];simp[zaz]
    rw[hsucc];simp only[go_sem,bkV,bkBs,bkN];simp[nats]
   ·have hll:t.length+1=i:=hlen;simp(disch:=try exact Zq)only[go_sem,bkV,bkBs,bkN,c1,hz0,decide_false,hcap,hFi];repeat refine And.intro Zo ?_
    refine zi (i+1) Zo Zo (Xb [(0,2)] rfl (by rw[hsucc];rfl) ?_ ?_)
    ·rw[hsucc];simp only[go_sem,bkV,bkBs,bkN];simp[zaz]
    rw[hsucc];simp only[go_sem,bkV,bkBs,bkN];simp[nats]
 have hie:i=l.length+1:=Zo;subst hie;have hlen:=zaD (zJ k) l [] (l.length+1);generalize zA (zJ k) l [] (l.length+1)=q at*;obtain⟨q1,q2⟩:=q;dsimp only at hlen ⊢;rcases q1 with _|⟨d,t⟩
 ·simp at hlen
 have hll:t.length+1=l.length+1:=hlen;have hT:ΔT 156 [.sl 0 0 (t.length+1) 1 none] ⟨[(0,.cells (nats .u64 (d::t)))],1⟩=some ⟨True,.sl 0 0 (zao (d::t)).length 1 none,⟨[(0,.cells (nats .u64 (d::t)))],1⟩,[0],[]⟩:=by have:=zf4 0 (t.length+1) none (d::t) [(0,.cells (nats .u64 (d::t)))] 1 rfl Zs (by simp;omega) rfl;rwa [Yp Zs]at this
 simp only[go_sem,bkV,bkBs,bkN];refine AXa.go mixed (hG) (zts) Zk ?_;simp only[go_sem,hT];exact⟨[(6,.sl 0 0 (zao (d::t)).length 1 none)],Xb [] rfl rfl Zg Zg,by simp only[go_sem]⟩
def ztl(args:ZA)(H:Hp)(r:AR):Prop:=
 ∃x k:Nat,args=[.fs (nats .u64 (limbs x)) (limbs x).length,.nilS,.fn 202 [.fp [.int .u64 k]]]∧(limbs x).length≤1000∧k<1000000000∧(∀b x,H.get b=some x→b<H.next)∧
  r=⟨True,.sl H.next 0 (limbs (x*k)).length 1 none,⟨(H.next,.cells (nats .u64 (digs ((limbs x).length+1) (x*k))))::H.bs,H.next+1⟩,[],[]⟩
def eachD_ok:∀args H r,ztl args H r→HCall prog 181 args H r:=by rintro args H r ⟨x,k,rfl,h1,h2,hk,rfl⟩;refine HCall.fresh (F:=[]) (eachN_ok x k h1 h2) (zaG _ _) [] _ H rfl Zs ?_ Zs Zs hk;exact zB (by simp[zfu,zd2,zdC,zcx,zgZ,zaz])
def zsE {args:ZA}{H:Hp}{r r':AR}(h:ztl args H r)(h':ztl args H r'):r'=r:=by obtain⟨x,k,rfl,_,_,_,rfl⟩:=h;obtain⟨x',k',he,_,_,_,rfl⟩:=h';simp at he;obtain⟨⟨e1,_⟩,e2⟩:=he;have e3:=zbW (zaY e1);have e4:k=k':=Zo;rw[e3,e4]
def ΔE:FuncId→ZA→Hp→Option AR:=zaQ 181 (conD ztl) noΔ
def ΔE_ok:zay prog ΔE:=zK (zT eachD_ok) zg
def eachD_eq(x k:Nat)(h1:(limbs x).length≤1000)(h2:k<1000000000)(bs:ZH)(nx:Nat)(hkeys:((keysB bs).all fun b=>decide (b<nx))=true):conD ztl [.fs (nats .u64 (limbs x)) (limbs x).length,.nilS,.fn 202 [.fp [.int .u64 k]]] ⟨bs,nx⟩=some ⟨True,.sl nx 0 (limbs (x*k)).length 1 none,⟨(nx,.cells (nats .u64 (digs ((limbs x).length+1) (x*k))))::bs,nx+1⟩,[],[]⟩:=by have hr:ztl [.fs (nats .u64 (limbs x)) (limbs x).length,.nilS,.fn 202 [.fp [.int .u64 k]]] ⟨bs,nx⟩ ⟨True,.sl nx 0 (limbs (x*k)).length 1 none,⟨(nx,.cells (nats .u64 (digs ((limbs x).length+1) (x*k))))::bs,nx+1⟩,[],[]⟩:=⟨x,k,rfl,h1,h2,zaZ hkeys,rfl⟩;exact zan hr fun _ h'=>zsE hr h'
def zra(x k:Nat)(hx:(limbs x).length≤1000)(hk:k<1000000000):NCall prog 190 [.fs (nats .u64 (limbs x)) (limbs x).length,.int .u64 k] [] [] (.sl 0 0 (limbs (x*k)).length 1 none) ⟨[(0,.cells (nats .u64 (digs ((limbs x).length+1) (x*k))))],1⟩:=by refine NCall.walk (rs:=[.tmp 4]) [0,1,3,4] [129] 0 mixed (zh) (ΔE_ok) call190 func190 rfl ntmps190 rfl Zk Zs Zs Zs ?_;have hE:ΔE 181 [.fs (nats .u64 (limbs x)) (limbs x).length,.nilS,.fn 202 [.fp [.int .u64 k]]] ⟨[],0⟩=some ⟨True,.sl 0 0 (limbs (x*k)).length 1 none,⟨[(0,.cells (nats .u64 (digs ((limbs x).length+1) (x*k))))],1⟩,[],[]⟩:=eachD_eq x k hx hk [] 0 rfl;simp only[go_sem,hE];exact⟨[(4,.sl 0 0 (limbs (x*k)).length 1 none)],Xb [] rfl rfl Zg Zg,by simp only[go_sem]⟩
def zfJ(args:ZA)(H:Hp)(r:AR):Prop:=
 ∃x k:Nat,args=[.fs (nats .u64 (limbs x)) (limbs x).length,.int .u64 k]∧(limbs x).length≤1000∧k<1000000000∧(∀b x,H.get b=some x→b<H.next)∧
  r=⟨True,.sl H.next 0 (limbs (x*k)).length 1 none,⟨(H.next,.cells (nats .u64 (digs ((limbs x).length+1) (x*k))))::H.bs,H.next+1⟩,[],[]⟩
def zrb:∀args H r,zfJ args H r→HCall prog 190 args H r:=by rintro args H r ⟨x,k,rfl,h1,h2,hk,rfl⟩;refine HCall.fresh (F:=[]) (zra x k h1 h2) (zaG _ _) [] _ H rfl Zs ?_ Zs Zs hk;exact zB (by simp[zfu,zd2,zaz])
def zlk {args:ZA}{H:Hp}{r r':AR}(h:zfJ args H r)(h':zfJ args H r'):r'=r:=by obtain⟨x,k,rfl,_,_,_,rfl⟩:=h;obtain⟨x',k',he,_,_,_,rfl⟩:=h';simp at he;obtain⟨⟨e1,_⟩,e2⟩:=he;have e3:=zbW (zaY e1);have e4:k=k':=Zo;rw[e3,e4]
def zis(x k:Nat)(h1:(limbs x).length≤1000)(h2:k<1000000000)(bs:ZH)(nx:Nat)(hkeys:((keysB bs).all fun b=>decide (b<nx))=true):conD zfJ [.fs (nats .u64 (limbs x)) (limbs x).length,.int .u64 k] ⟨bs,nx⟩=some ⟨True,.sl nx 0 (limbs (x*k)).length 1 none,⟨(nx,.cells (nats .u64 (digs ((limbs x).length+1) (x*k))))::bs,nx+1⟩,[],[]⟩:=by have hr:zfJ [.fs (nats .u64 (limbs x)) (limbs x).length,.int .u64 k] ⟨bs,nx⟩ ⟨True,.sl nx 0 (limbs (x*k)).length 1 none,⟨(nx,.cells (nats .u64 (digs ((limbs x).length+1) (x*k))))::bs,nx+1⟩,[],[]⟩:=⟨x,k,rfl,h1,h2,zaZ hkeys,rfl⟩;exact zan hr fun _ h'=>zlk hr h'
def zf7 {l:ZN}{o n i:Nat}(hi:i≤n):(seg l o n).getD i 0=l.getD (o+i) 0:=by unfold Go.Pl.seg;rw[getD_take _ _ _ _ Zo,getD_drop]
def setN' {k:IntKind}{l:ZN}{n d:Nat}{v:Int}(h:v=(d:Nat)):(nats k l).set n (.int k v)=nats k (l.set n d):=by rw[h,zju]
def zwE(l v:ZN)(o:Nat)(hd:DigOK (seg l o v.length) v)(ho:o+v.length+1≤l.length)(ol:okL l)(hl:l.length≤1000000):NCall prog 191 [.sl 0 o (v.length+1) 1 none,.fs (nats .u64 v) v.length] [.cells (nats .u64 l)] [0] (.int .u64 (valL (seg l o v.length)/valL v:Nat))
  ⟨[(0,.cells (nats .u64 (mid l o (v.length+1) (digs (v.length+1) (valL (seg l o v.length)%valL v)))))],1⟩:=by
 have hv0:=hd.pos
 have ht:=hd.top
 have ov:=hd.ov
 have g1:=zf7 (l:=l) (o:=o) (i:=v.length) (Yc _)
 have g2:=zf7 (l:=l) (o:=o) (n:=v.length) (i:=v.length-1) Zo
 have b1:=getD_lt ol (o+v.length)
 have b2:=getD_lt ol (o+(v.length-1))
 have b3:=getD_lt ov (v.length-1)
 refine Xt (rs:=[.tmp 4]) [0,1,4,5,6,7,8,9,10,11,12,13,14,15,70,85,87,88,89,94,125,128,129,130,140] [] 1 [0] mixed (zh) (zg) call191 func191 rfl ntmps191 rfl Zk Zs Zs Zs Zs ?_
 simp only[go_sem]
 refine AXa.cutF 5 (fun p:Nat×Nat=>zfO (seg l o v.length) v p.1 p.2∧p.1<1000000000∧(p.1-1)*valL v≤valL (seg l o v.length)) (fun p=>[(0,.sl 0 o (v.length+1) 1 none),(1,.fs (nats .u64 v) v.length),(5,.int .i64 v.length),(7,.int .u64 p.1)]) (fun _=>⟨[(0,.cells (nats .u64 l))],1⟩) rfl mixed zh zg Zk ?_ ?_
 ·simp(disch:=try exact Zq)only[go_sem];refine⟨⟨Zo,Zo⟩,Zo,⟨Zo,Zo⟩,Zo,AXk.intro Zk ?_⟩;have hs:=zmg hd;rw[g1,g2]at hs;generalize hU:l.getD (o+v.length) 0=U at*;generalize hU1:l.getD (o+(v.length-1)) 0=U1 at*;have hq0:(U*1000000000+U1)/v.getD (v.length-1) 0≤U*1000000000+U1:=Yca ..;have hr0:(U*1000000000+U1)%v.getD (v.length-1) 0<v.getD (v.length-1) 0:=YaL _ ht;have hdv:((U:Int)*1000000000+(U1:Int))/((v.getD (v.length-1) 0:Nat):Int)=(((U*1000000000+U1)/v.getD (v.length-1) 0:Nat):Int):=by rw[Int.natCast_ediv,Int.natCast_add,Ycb];rfl
  have hmd:((U:Int)*1000000000+(U1:Int))%((v.getD (v.length-1) 0:Nat):Int)=(((U*1000000000+U1)%v.getD (v.length-1) 0:Nat):Int):=by rw[Int.natCast_emod,Int.natCast_add,Ycb];rfl
  generalize (U*1000000000+U1)/v.getD (v.length-1) 0=Q0 at*;generalize (U*1000000000+U1)%v.getD (v.length-1) 0=R0 at*;simp(disch:=try exact Zq)only[go_sem,hdv,hmd];refine⟨⟨Zo,Zo⟩,Zo,Zo,⟨Zo,Zo⟩,Zo,Zo,?_⟩;refine AXs.loop mixed (zh) (zg) (fun p:Nat×Nat=>[(0,.sl 0 o (v.length+1) 1 none),(1,.fs (nats .u64 v) v.length),(5,.int .i64 v.length),(7,.int .u64 p.1),(8,.int .u64 p.2)]) (fun _=>⟨[(0,.cells (nats .u64 l))],1⟩) (fun p=>zfO (seg l o v.length) v p.1 p.2) (fun p=>p.1) (Q0,R0) Zk hs (Xm [] rfl ?_ ?_) ?_
  ·simp only[go_sem]
  ·simp only[go_sem]
  rintro⟨q,r⟩ hi;dsimp only at hi ⊢;have hi1:=hi.1;rw[g1,g2]at hi1;have hq1:q*1≤q*v.getD (v.length-1) 0:=Y9 _ ht;by_cases c1:(1000000000:Int)≤q
  ·have d1:decide ((1000000000:Int)≤q)=true:=by simpa using c1
   have hnx:=zsG hd hi Zo;have hqp:0<q:=Zo;simp(disch:=try exact Zq)only[go_sem,d1];refine AXk.intro Zk ?_;have hbnd:q*v.getD (v.length-1) 0+r<1000000000000000000:=Zo;generalize q*v.getD (v.length-1) 0=qv at hi1 hbnd hq1;simp(disch:=try exact Zq)only[go_sem];refine⟨⟨Zo,Zo⟩,Zo,?_⟩;have hcb:(decide (1000000000≤(r:Int)+(v.getD (v.length-1) 0:Nat))&&decide ((q:Int)-1<1000000000))=decide (1000000000≤r+v.getD (v.length-1) 0∧q-1<1000000000):=by rw[Ybn];simp only[Yj,Yn];omega
   rw[hcb];refine Xc (fun h6=>?_) (fun h6=>?_)
   ·simp(disch:=try exact Zq)only[go_sem];refine zdI (q-1,r+v.getD (v.length-1) 0) ⟨hnx,h6.2,zcQ hd hnx h6.2 (.inr (.inl h6.1))⟩ (Xm [] rfl ?_ ?_)
    ·simp only[go_sem];simp only[V.int.injEq,Yag];omega
    simp only[go_sem]
   simp(disch:=try exact Zq)only[go_sem];refine zi (q-1,r+v.getD (v.length-1) 0) hnx (by dsimp only;omega) (Xm [] rfl ?_ ?_)
   ·simp only[go_sem];refine⟨?_,?_⟩<;>(simp only[V.int.injEq,Yag];omega)
   simp only[go_sem]
  have d1:decide ((1000000000:Int)≤q)=false:=by simpa using c1
  by_cases c2:1<(v.length:Int)
  ·by_cases c3:(r:Int)<1000000000
   ·have d2:decide (1<(v.length:Int))=true:=by simpa using c2
    have d3:decide ((r:Int)<1000000000)=true:=by simpa using c3
    have w1:IntKind.i64.wrap ((v.length:Int)-2)=((v.length-2:Nat):Int):=by rw[wrap_i64]<;>omega
    have b4:=getD_lt ov (v.length-2);have b5:=getD_lt ol (o+(v.length-2));have b6:q*v.getD (v.length-2) 0≤999999999*999999999:=Ybd Zo Zo;have hm:(q:Int)*((v.getD (v.length-2) 0:Nat):Int)=((q*v.getD (v.length-2) 0:Nat):Int):=(Ycb ..).symm;obtain⟨w,hw⟩:∃w,w=q*v.getD (v.length-2) 0:=⟨_,rfl⟩;rw[←hw]at hm b6;obtain⟨R9,hR9⟩:∃R9,R9=r*1000000000:=⟨_,rfl⟩;have hR:(r:Int)*1000000000=(R9:Int):=Zo;obtain⟨Z,hZ⟩:∃Z,Z=R9+l.getD (o+(v.length-2)) 0:=⟨_,rfl⟩;have hZ':(R9:Int)+((l.getD (o+(v.length-2)) 0:Nat):Int)=(Z:Int):=Zo;simp(disch:=try exact Zq)only[go_sem,d1,d2,d3,w1,hm,hR,hZ'];refine⟨⟨Zo,Zo⟩,Zo,⟨Zo,Zo⟩,Zo,AXk.intro Zk ?_⟩;refine Xc (fun h4=>?_) (fun h4=>?_)
    ·have hnx:=zog hd hi Zo (by rw[zf7 Zo,←hw,←hR9,←hZ];omega);have hqp:0<q:=by
      rcases YR q with h0|h0
      ·rw[h0,Ybo]at hw;omega
      exact h0
     clear hw hR9 hZ hZ' hR hm;have hbnd:q*v.getD (v.length-1) 0+r<1000000000000000000:=Zo;generalize q*v.getD (v.length-1) 0=qv at hi1 hbnd hq1;simp(disch:=try exact Zq)only[go_sem];refine⟨⟨Zo,Zo⟩,Zo,?_⟩;have hcb:(decide (1000000000≤(r:Int)+(v.getD (v.length-1) 0:Nat))&&decide ((q:Int)-1<1000000000))=decide (1000000000≤r+v.getD (v.length-1) 0∧q-1<1000000000):=by rw[Ybn];simp only[Yj,Yn];omega
     rw[hcb];refine Xc (fun h6=>?_) (fun h6=>?_)
     ·simp(disch:=try exact Zq)only[go_sem];refine zdI (q-1,r+v.getD (v.length-1) 0) ⟨hnx,h6.2,zcQ hd hnx h6.2 (.inr (.inl h6.1))⟩ (Xm [] rfl ?_ ?_)
      ·simp only[go_sem];simp only[V.int.injEq,Yag];omega
      simp only[go_sem]
     simp(disch:=try exact Zq)only[go_sem];refine zi (q-1,r+v.getD (v.length-1) 0) hnx (by dsimp only;omega) (Xm [] rfl ?_ ?_)
     ·simp only[go_sem];refine⟨?_,?_⟩<;>(simp only[V.int.injEq,Yag];omega)
     simp only[go_sem]
    simp(disch:=try exact Zq)only[go_sem];refine zdI (q,r) ⟨hi,by dsimp only;omega,zcQ hd hi Zo (.inr (.inr (by rw[zf7 Zo,←hw,←hR9,←hZ];omega)))⟩ (Xm [] rfl ?_ ?_)
    ·simp only[go_sem]
    simp only[go_sem]
   have d2:decide (1<(v.length:Int))=true:=by simpa using c2
   have d3:decide ((r:Int)<1000000000)=false:=by simpa using c3
   simp(disch:=try exact Zq)only[go_sem,d1,d2,d3];refine AXk.intro Zk ?_;simp(disch:=try exact Zq)only[go_sem];refine zdI (q,r) ⟨hi,by dsimp only;omega,zcQ hd hi Zo (.inr (.inl Zo))⟩ (Xm [] rfl ?_ ?_)
   ·simp only[go_sem]
   simp only[go_sem]
  have d2:decide (1<(v.length:Int))=false:=by simpa using c2
  simp(disch:=try exact Zq)only[go_sem,d1,d2];refine AXk.intro Zk ?_;simp(disch:=try exact Zq)only[go_sem];refine zdI (q,r) ⟨hi,by dsimp only;omega,zcQ hd hi Zo (.inl Zo)⟩ (Xm [] rfl ?_ ?_)
  ·simp only[go_sem]
  simp only[go_sem]
 ·rintro⟨q,r⟩ ⟨h1,h2,h3⟩;dsimp only at h1 h2 h3 ⊢;have hQ:=h1.2;have hsl:(seg l o v.length).length=v.length+1:=hd.len;have hms:mid l o (v.length+1) (seg l o v.length)=l:=mid_seg Zo;have hst:=ztN q (seg l o v.length) v hd.ou;have hln:o+(v.length+1)≤l.length:=Zo;clear h1 g1 g2 b1 b2 b3;refine AXa.go mixed (zh) (zg) Zk ?_;simp(disch:=try exact Zq)only[go_sem];refine AXs.loop mixed (zh) (zg) (fun p:Nat×ZN×Nat×Nat=>[(0,.sl 0 o (v.length+1) 1 none),(1,.fs (nats .u64 v) v.length),(5,.int .i64 v.length),(7,.int .u64 q),(9,.int .u64 p.2.2.1),(10,.int .u64 p.2.2.2),(87,.int .i64 (v.length+1:Int)),(88,.int .i64 p.1)])
   (fun p=>⟨[(0,.cells (nats .u64 (mid l o (v.length+1) p.2.1)))],1⟩) (fun p=>p.1≤v.length+1∧zik q (seg l o v.length) v p.1 p.2.1 p.2.2.1 p.2.2.2∧(p.1=v.length+1→p.2.2.2=0)) (fun p=>v.length+1-p.1) (0,seg l o v.length,0,0) Zk ⟨Yk _,hst,fun h=>rfl⟩ (Xm [] rfl ?_ ?_) ?_
  ·simp only[go_sem]
  ·simp only[go_sem,hms]
  rintro⟨i,s,b,c⟩ ⟨hi,hv,hc0⟩;dsimp only at hi hv hc0 ⊢;have ls:=hv.1;have os:=hv.2.1;have hbc:=hv.2.2.2.2;rw[hsl]at ls;simp(disch:=try exact Zq)only[go_sem];refine Xc (fun h4=>?_) (fun h4=>?_)
  ·have hin:i<v.length+1:=Zo;have hstep:=sub_step (i:=i) h2 ov (by rw[hsl];exact hin) hv;have hcar:i=v.length→subP q v i c/1000000000=0:=fun e=>by subst e;exact ztO hv
   have hpl:=ztP (i:=i) h2 ov hbc.2;have hgl:=getD_lt os i;have hmg:=zpE ls hln hin;have hset:∀d,(mid l o (v.length+1) s).set (o+i) d=mid l o (v.length+1) (s.set i d):=fun d=>zvr ls hln hin;have hml:(mid l o (v.length+1) s).length=l.length:=znM ls hln;have hm:(q:Int)*((v.getD i 0:Nat):Int)=((q*v.getD i 0:Nat):Int):=(Ycb ..).symm;have hp1:subP q v i c=c+q*v.getD i 0:=rfl;have hvz:¬(i:Int)<v.length→q*v.getD i 0=0:=fun h=>by rw[zbi v _ _ Zo];simp
   obtain⟨w,hw⟩:∃w,w=q*v.getD i 0:=⟨_,rfl⟩;rw[←hw]at hm hp1 hvz;generalize subP q v i c=p at*;have hd1:subD s i p b=s.getD i 0+1000000000-p%1000000000-b:=rfl;generalize subD s i p b=d at*;by_cases c1:(i:Int)<v.length
   ·simp(disch:=try exact Zq)only[go_sem,c1,hm,hmg];repeat refine And.intro (by first|omega|exact⟨Zo,Zo⟩|rfl) ?_
    refine zi (i+1,s.set i (d%1000000000),1-d/1000000000,p/1000000000) ⟨by dsimp only;omega,hstep,fun e=>hcar (by dsimp only at e;omega)⟩ (by dsimp only;omega) (Xm [] rfl ?_ ?_)
    ·simp only[go_sem];simp only[V.int.injEq,Yag];omega
    simp only[go_sem];rw[setN' (d:=d%1000000000) Zo,hset]
   have hw0:=hvz c1;simp(disch:=try exact Zq)only[go_sem,c1,hmg];repeat refine And.intro (by first|omega|exact⟨Zo,Zo⟩|rfl) ?_
   refine zi (i+1,s.set i (d%1000000000),1-d/1000000000,p/1000000000) ⟨by dsimp only;omega,hstep,fun e=>hcar (by dsimp only at e;omega)⟩ (by dsimp only;omega) (Xm [] rfl ?_ ?_)
   ·simp only[go_sem];simp only[V.int.injEq,Yag];omega
   simp only[go_sem];rw[setN' (d:=d%1000000000) Zo,hset]
  have hie:i=v.length+1:=Zo;subst hie;have hcz:=hc0 rfl;subst hcz;rw[←hsl]at hv;have hse:=sub_end h2 hd hv rfl;simp(disch:=try exact Zq)only[go_sem];refine AXa.go mixed (zh) (zg) Zk ?_;simp(disch:=try exact Zq)only[go_sem];refine Xc (fun h5=>?_) (fun h5=>?_)
  ·have hb0:b=0:=Zo;subst hb0;rw[Y4,YS]at hse;obtain⟨e1,e2⟩:=dig_done hd hQ hse;have hs':s=digs (v.length+1) (valL (seg l o v.length)%valL v):=by have:=zfD os;rw[ls,e2]at this;exact this
   rw[←hs',←e1];simp(disch:=try exact Zq)only[go_sem];exact⟨[(4,.int .u64 q)],(Sub.of [] rfl Zg Zg Zd (fun b hb hw=>absurd (YaA.1 hb) (by simpa using hw))),by simp only[go_sem]⟩
  have hb1:b=1:=Zo;subst hb1;rw[Yas]at hse;obtain⟨e1,e2⟩:=dig_over hd os (by rw[ls,hsl]) hQ h3 hse;have hq1:valL (seg l o v.length)/valL v=q-1:=by rw[e1,Ya9]
  have hq0:0<q:=by rw[e1];exact Nat.succ_pos _
  have hmodlt:valL (seg l o v.length)%valL v<1000000000^s.length:=by have h6:=YaL (valL (seg l o v.length)) hd.vpos;have h7:=zY ov;rw[ls,YG];generalize (1000000000:Nat)^v.length=pw at*;omega
  have hback:∀s' c',zfI s v s.length s' c'→s'=digs (v.length+1) (valL (seg l o v.length)%valL v):=fun s' c' hb=>by have h6:=back_end (by rw[ls];omega) hb hmodlt (by rw[e2,hsl,ls]);have h7:=zfD hb.2.1;rw[hb.1,ls,h6]at h7;exact h7
  rw[hq1];generalize valL (seg l o v.length)%valL v=M at*;clear e1 e2 hse hmodlt hq1 hQ h3 hv hbc hst;have hst:=zte s v os;simp(disch:=try exact Zq)only[go_sem];refine AXs.loop mixed (zh) (zg) (fun p:Nat×ZN×Nat=>[(0,.sl 0 o (v.length+1) 1 none),(1,.fs (nats .u64 v) v.length),(5,.int .i64 v.length),(7,.int .u64 q),(10,.int .u64 p.2.2),(128,.int .i64 (v.length+1:Int)),(129,.int .i64 p.1)])
   (fun p=>⟨[(0,.cells (nats .u64 (mid l o (v.length+1) p.2.1)))],1⟩) (fun p=>p.1≤v.length+1∧zfI s v p.1 p.2.1 p.2.2) (fun p=>v.length+1-p.1) (0,s,0) Zk ⟨Yk _,hst⟩ (Xm [] rfl ?_ ?_) ?_
  ·simp only[go_sem]
  ·simp only[go_sem]
  rintro⟨i,s',c⟩ ⟨hi,hv⟩;dsimp only at hi hv ⊢;have ls':=hv.1;have os':=hv.2.1;have hc1:=hv.2.2.2.2;rw[ls]at ls';simp(disch:=try exact Zq)only[go_sem];refine Xc (fun h4=>?_) (fun h4=>?_)
  ·have hin:i<v.length+1:=Zo;have hstep:=zyb (i:=i) ov (by rw[ls];exact hin) hv;have hgl:=getD_lt os' i;have hgv:=getD_lt ov i;have hmg:=zpE ls' hln hin;have hset:∀d,(mid l o (v.length+1) s').set (o+i) d=mid l o (v.length+1) (s'.set i d):=fun d=>zvr ls' hln hin;have hml:(mid l o (v.length+1) s').length=l.length:=znM ls' hln;have hvz:¬(i:Int)<v.length→v.getD i 0=0:=fun h=>by rw[zbi v _ _ Zo]
   have hp1:zib s' v i c=s'.getD i 0+c+v.getD i 0:=rfl;generalize zib s' v i c=p at*;by_cases c1:(i:Int)<v.length
   ·simp(disch:=try exact Zq)only[go_sem,c1,hmg];repeat refine And.intro (by first|omega|exact⟨Zo,Zo⟩|rfl) ?_
    refine zi (i+1,s'.set i (p%1000000000),p/1000000000) ⟨by dsimp only;omega,hstep⟩ (by dsimp only;omega) (Xm [] rfl ?_ ?_)
    ·simp only[go_sem];simp only[V.int.injEq,Yag];omega
    simp only[go_sem];rw[setN' (d:=p%1000000000) Zo,hset]
   have hw0:=hvz c1;simp(disch:=try exact Zq)only[go_sem,c1,hmg];repeat refine And.intro (by first|omega|exact⟨Zo,Zo⟩|rfl) ?_
   refine zi (i+1,s'.set i (p%1000000000),p/1000000000) ⟨by dsimp only;omega,hstep⟩ (by dsimp only;omega) (Xm [] rfl ?_ ?_)
   ·simp only[go_sem];simp only[V.int.injEq,Yag];omega
   simp only[go_sem];rw[setN' (d:=p%1000000000) Zo,hset]
  have hie:i=v.length+1:=Zo;subst hie;have hfin:=hback s' c (by rw[ls];exact hv);rw[←hfin];simp(disch:=try exact Zq)only[go_sem];refine AXa.go mixed (zh) (zg) Zk ?_;simp(disch:=try exact Zq)only[go_sem];exact⟨[(4,.int .u64 (q-1:Nat))],(Sub.of [] rfl (by(simp only[go_sem];try (simp only[V.int.injEq,Yag];omega))) Zg Zd (fun b hb hw=>absurd (YaA.1 hb) (by simpa using hw))),by simp only[go_sem]⟩
end Go.Proofs
