/- Pack's writer: contracts of functions that append bytes to a struct's buffer. -/
import Derived.Test.YtbdlfegfepggnaaGreatDoorAbMove
import Derived.Laws.BitsAllLaws
set_option linter.all false
set_option maxHeartbeats 16000000
set_option maxRecDepth 100000
noncomputable section
namespace Go.Proofs
open Tryz Go.Ab Go.Pl Go.Shelf Go.RowKit
def zbg {π:Nat→Nat}{N:Nat→Prop}(l l':ZL):RnB π N (bly l) (bly l')↔l=l':=by
 refine⟨fun h=>?_,fun h=>h▸zbG l⟩;unfold bly at h;cases h with
 |ty h=>
  apply YaI;intro i;have h1:=h.1;simp only[Yan]at h1;by_cases hi:i<l.length
  ·have hi':i<l'.length:=Zo;have h2:=h.2 i (zq l[i]) (zq l'[i]) (by simp[hi]) (by simp[hi']);rw[Yb hi,Yb hi'];have h3:zq l[i]=zq l'[i]:=by
    generalize hx:zq l[i]=x at h2;generalize hy:zq l'[i]=y at h2;show x=y;cases h2<;>first|rfl|(simp[zq]at hx)
   have h4:((l[i].toNat:Nat):Int)=(l'[i].toNat:Nat):=by simpa[zq]using h3
   exact Ya1 some (YbB.1 Zo)
  rw[Yo Zo,Yo Zo]
def wB(c n:Nat)(last free:Int):Blk:=.cells [.sl c 0 n 1 none,.int .i64 0,.int .i8 0,.int .u8 last,.int .i64 free]
def zo6 {c n:Nat}{a b:Int}{c' n':Nat}{a' b':Int}(h:some (wB c n a b)=some (wB c' n' a' b')):c=c'∧n=n'∧a=a'∧b=b':=by simp only[wB,Yx,Blk.cells.injEq,Yt,V.sl.injEq,V.int.injEq,Yag,Yad]at h;exact⟨h.1.1,h.1.2,h.2.1,h.2.2⟩
def zdV {l l':ZL}(h:some (bly l)=some (bly l')):l=l':=by simp only[bly,Yx,Blk.ty.injEq,Yag]at h;exact zdT h
def zqT {π:Nat→Nat}{N:Nat→Prop}{c n:Nat}{a b:Int}(hc:N c):RnB π N (wB c n a b) (wB (π c) n a b):=by
 refine .cells ⟨rfl,fun i x y hx hy=>?_⟩;match i with
 |0=>cases hx;cases hy;exact .sl hc (.inl rfl)
 |1=>cases hx;cases hy;exact .same (.int _ _)
 |2=>cases hx;cases hy;exact .same (.int _ _)
 |3=>cases hx;cases hy;exact .same (.int _ _)
 |4=>cases hx;cases hy;exact .same (.int _ _)
 |i+5=>simp at hx
abbrev Wst:=ZL×Int×Int
def WrR(st:ZL→Int→Int→ZA→Option Wst)(v:V)(args:ZA)(H:Hp)(r:AR):Prop:=
 ∃b c l la fr rest l' la' fr',args=.ptr b 0::rest∧(∀b x,H.get b=some x→b<H.next)∧l≠[]∧H.get b=some (wB c l.length la fr)∧H.get c=some (bly l)∧st l la fr rest=some (l',la',fr')∧
  r=⟨True,v,((H.put b (wB H.next l'.length la' fr')).kill c).new (bly l'),[b,c],[b,c]⟩
def zo3 {st:ZL→Int→Int→ZA→Option Wst}{v:V}{args:ZA}{H:Hp}{r r':AR}(h:WrR st v args H r)(h':WrR st v args H r'):r'=r:=by obtain⟨b,c,l,la,fr,rest,l1,la1,fr1,rfl,_,_,hb,hc,hs,rfl⟩:=h;obtain⟨b',c',l',la',fr',rest',l2,la2,fr2,he,_,_,hb',hc',hs',rfl⟩:=h';simp only[Yt,V.ptr.injEq,Yad]at he;obtain⟨rfl,rfl⟩:=he;rw[hb]at hb';obtain⟨rfl,_,rfl,rfl⟩:=zo6 hb';rw[hc]at hc';obtain rfl:=zdV hc';rw[hs]at hs';cases hs';rfl
def zqQ {st:ZL→Int→Int→ZA→Option Wst}{v:V}{b c n:Nat}{l:ZL}{la fr:Int}{rest:ZA}{s':Wst}{bs:ZH}{nx:Nat}(hb:zG bs b=some (wB c n la fr))(hc:zG bs c=some (bly l))(hn:n=l.length)(h0:l≠[]) (hs:st l la fr rest=some s') (hk:((keysB bs).all fun b=>decide (b<nx))=true):conD (WrR st v) (.ptr b 0::rest) ⟨bs,nx⟩=some ⟨True,v,(((⟨bs,nx⟩:Hp).put b (wB nx s'.1.length s'.2.1 s'.2.2)).kill c).new (bly s'.1),[b,c],[b,c]⟩:=by
 subst hn;have hR:WrR st v (.ptr b 0::rest) ⟨bs,nx⟩ ⟨True,v,(((⟨bs,nx⟩:Hp).put b (wB nx s'.1.length s'.2.1 s'.2.2)).kill c).new (bly s'.1),[b,c],[b,c]⟩:=
  ⟨b,c,l,la,fr,rest,s'.1,s'.2.1,s'.2.2,rfl,zaZ hk,h0,(zC bs b).trans hb,(zC bs c).trans hc,hs,rfl⟩
 exact zan hR fun r' h'=>zo3 hR h'
def zkW {f:FuncId}{st:ZL→Int→Int→ZA→Option Wst}{v:V}(hv:Pure v) (h:∀l la fr rest l' la' fr',l≠[]→st l la fr rest=some (l',la',fr')→(∀x∈rest,Pure x)∧NCall prog f (.ptr 0 0::rest) [wB 1 l.length la fr,bly l] [0,1] v ⟨[(0,wB 2 l'.length la' fr'),(2,bly l')],3⟩):∀args H r,WrR st v args H r→HCall prog f args H r:=by
 rintro args H r ⟨b,c,l,la,fr,rest,l',la',fr',rfl,hk,h0,hb,hc,hs,rfl⟩;obtain⟨hp,hN⟩:=h l la fr rest l' la' fr' h0 hs;have hne:b≠c:=by rintro rfl;rw[hb]at hc;cases hc
 have tb:zu [b,c] H.next b=0:=by unfold zu;rw[Yi (hk b _ hb)];simp
 have tc:zu [b,c] H.next c=1:=by unfold zu;rw[Yi (hk c _ hc)];exact idx1 hne
 have tn:zu [b,c] H.next H.next=2:=by unfold zu;rw[Ye Zo];simp
 refine HCall.of hN [b,c] _ v H (((H.put b (wB H.next l'.length la' fr')).kill c).new (bly l')) rfl (by simpa using hne) (zbQ (Yaz _) rfl hp) (fun i x hx=>?_) (.same hv) (by show H.next+1+2=H.next+3;omega) (fun b' x' hx'=>?_) (fun b' hb' hw=>?_)
 ·match i with
  |0=>cases hx;exact⟨b,_,rfl,hb,zqT (π:=fun i=>[b,c].getD i 0) (c:=1) (YD _)⟩
  |1=>cases hx;exact⟨c,_,rfl,hc,zbG l⟩
  |i+2=>simp at hx
 ·rw[Xe]at hx';split at hx'
  ·rename_i he;have he':b'=H.next:=he;subst he';cases hx';refine .inr ⟨.inr ⟨Yc _,YD _⟩,bly l',?_,zbG _⟩;rw[tn];rfl
  rw[Xh]at hx';split at hx'
  ·cases hx'
  rename_i hec;rw[Xd]at hx';split at hx'
  ·rename_i he;subst he;rw[hb]at hx';cases hx';refine .inr ⟨.inl Zs,wB 2 l'.length la' fr',?_,?_⟩
   ·rw[tb];rfl
   have:=zqT (π:=zu [b',c] H.next) (N:=fun b=>b∈[b',c]∨(H.next≤b∧b<H.next+1)) (c:=H.next) (n:=l'.length) (a:=la') (b:=fr') (.inr ⟨Yc _,YD _⟩);rwa [tn]at this
  rename_i he;exact .inl ⟨hk b' _ hx',by simp[he,hec],hx'⟩
 have h1:b'≠H.next:=Zo;have h2:b'≠b∧b'≠c:=by simpa using hw
 rw[Xe,Ye (show ¬b'=((H.put b _).kill c).next from h1),Xh,Ye h2.2,Xd,Ye h2.1]
def zld(l:ZL)(la fr:Int):ZA→Option Wst
 |[.int .u8 x]=>if l.length≤100000000∧0≤x∧x<256 then some (l++[UInt8.ofNat x.toNat],la,fr)else none
 |_=>none
def zo5:∀args H r,WrR zld .nilI args H r→HCall prog 25 args H r:=by
 rintro args H r ⟨b,c,l,la,fr,rest,l',la',fr',rfl,hk,h0,hb,hc,hs,rfl⟩;unfold zld at hs;split at hs
 ·split at hs
  ·rename_i x hx;cases hs;have:=wbyte_H (UInt8.ofNat x.toNat) h0 hx.1 hb hc;have e:zq (UInt8.ofNat x.toNat)=.int .u8 x:=by
    have h1:(UInt8.ofNat x.toNat).toNat=x.toNat:=by rw[UInt8.toNat_ofNat'];omega
    unfold zq;rw[h1];congr 1;omega
   rw[e]at this;exact this
  cases hs
 cases hs
def stStr(l:ZL)(la fr:Int):ZA→Option Wst
 |[.str s]=>if l.length≤100000000∧s.length≤100000000 then some (l++s,la,fr)else none
 |_=>none
def WsB(args:ZA)(H:Hp)(r:AR):Prop:=∃b s,args=[.ptr b 0,.str s]∧WrR stStr (.tup [.int .i64 s.length,.nilI]) args H r
def ztD:∀args H r,WsB args H r→HCall prog 24 args H r:=by
 rintro args H r ⟨b,s,rfl,b',c,l,la,fr,rest,l',la',fr',he,hk,h0,hb,hc,hs,rfl⟩;simp only[Yt,V.ptr.injEq,Yad]at he;obtain⟨rfl,rfl⟩:=he;unfold stStr at hs;simp only at hs;split at hs
 ·rename_i hx;cases hs;exact wstr_H s h0 hx.1 hx.2 hb hc
 cases hs
def wsB_eq {b c n:Nat}{l s:ZL}{la fr:Int}{bs:ZH}{nx:Nat}(hb:zG bs b=some (wB c n la fr))(hc:zG bs c=some (bly l))(hn:n=l.length)(h0:l≠[])(hl:l.length≤100000000)(hs:s.length≤100000000)(hk:((keysB bs).all fun b=>decide (b<nx))=true):conD WsB [.ptr b 0,.str s] ⟨bs,nx⟩=some ⟨True,.tup [.int .i64 s.length,.nilI],(((⟨bs,nx⟩:Hp).put b (wB nx (l++s).length la fr)).kill c).new (bly (l++s)),[b,c],[b,c]⟩:=by
 subst hn;have hst:stStr l la fr [.str s]=some (l++s,la,fr):=Yi ⟨hl,hs⟩;have hR:WsB [.ptr b 0,.str s] ⟨bs,nx⟩ ⟨True,.tup [.int .i64 s.length,.nilI],(((⟨bs,nx⟩:Hp).put b (wB nx (l++s).length la fr)).kill c).new (bly (l++s)),[b,c],[b,c]⟩:=
  ⟨b,s,rfl,b,c,l,la,fr,_,_,_,_,rfl,zaZ hk,h0,(zC bs b).trans hb,(zC bs c).trans hc,hst,rfl⟩
 refine zan hR fun r' h'=>?_;obtain⟨b1,s1,e1,h1⟩:=hR;obtain⟨b2,s2,e2,h2⟩:=h';rw[e1]at e2;simp only[Yt,V.ptr.injEq,V.str.injEq,Yad]at e2;obtain⟨_,rfl⟩:=e2;exact zo3 h1 h2
def Δw0:FuncId→ZA→Hp→Option AR:=zaQ 25 (conD (WrR zld .nilI)) (zaQ 24 (conD WsB) noΔ)
def zeh:zay prog Δw0:=zK (zT zo5) (zK (zT ztD) zg)
def zbU(b c n:Nat)(l:ZL)(la fr x:Int)(bs:ZH)(nx:Nat)(hb:zG bs b=some (.cells [.sl c 0 n 1 none,.int .i64 0,.int .i8 0,.int .u8 la,.int .i64 fr]))(hc:zG bs c=some (bly l))(hn:n=l.length)(h0:l≠[])(hl:l.length≤100000000)(hx:0≤x∧x<256)(hk:((keysB bs).all fun b=>decide (b<nx))=true):Δw0 25 [.ptr b 0,.int .u8 x] ⟨bs,nx⟩=some ⟨True,.nilI,(((⟨bs,nx⟩:Hp).put b (.cells [.sl nx 0 (l++[UInt8.ofNat x.toNat]).length 1 none,.int .i64 0,.int .i8 0,.int .u8 la,.int .i64 fr])).kill c).new (bly (l++[UInt8.ofNat x.toNat])),[b,c],[b,c]⟩:=
 zqQ (st:=zld) (s':=(l++[UInt8.ofNat x.toNat],la,fr)) hb hc hn h0 (Yi ⟨hl,hx⟩) hk
end Go.Proofs

namespace Go.Proofs
open Tryz Go.Ab Go.Pl
attribute [local go_sem] zbg
def varF:Nat→Nat→ZL
 |0,n=>[UInt8.ofNat n]
 |k+1,n=>if n<128 then [UInt8.ofNat n]else UInt8.ofNat (n%128+128)::varF k (n/128)
def or128(x:Nat)(h:x<256):x|||128=x%128+128:=by revert x;decide+kernel
def varint_N(l:ZL)(la fr:Int)(n:Nat)(h0:l≠[])(hl:l.length≤90000000)(hn:n<128^6):NCall prog 26 [.ptr 0 0,.int .i64 n] [wB 1 l.length la fr,bly l] [0,1] (.tup []) ⟨[(0,wB 2 (l++varF 5 n).length la fr),(2,bly (l++varF 5 n))],3⟩:=by
 unfold wB;refine Xi (rs:=[]) [0,1,5] [] 2 [0,1] mixed (zh) (zeh) call26 func26 rfl ntmps26 rfl Zk Zs Zs Zs Zs ?_;simp only[go_sem];refine AXs.loop mixed (zh) (zeh) (ι:=Nat×Nat×ZL) (fun i=>[(1,.int .i64 i.2.1),(0,.ptr 0 0)]) (fun i=>⟨[(0,.cells [.sl 2 0 i.2.2.length 1 none,.int .i64 0,.int .i8 0,.int .u8 la,.int .i64 fr]),(2,bly i.2.2)],3⟩) (fun i=>i.2.1<128^(i.1+1)∧i.2.2≠[]∧i.2.2.length+i.1≤90000010∧i.2.2++varF i.1 i.2.1=l++varF 5 n) (fun i=>i.1) (5,n,l) Zk ⟨hn,h0,by show l.length+5≤_;omega,rfl⟩ (Xg [(2,1)] rfl ?_ ?_ ?_ ?_) ?_
 ·simp only[go_sem]
 ·simp only[go_sem]
 ·decide
 ·exact ZE
 rintro⟨k,m,d⟩ ⟨h1,h2,h3,h4⟩;dsimp only at h1 h2 h3 h4;simp only[go_sem];have e1:Go.bits .or .u8 (IntKind.u8.wrap (m:Int)) 128=((m%128+128:Nat):Int):=by
  have:IntKind.u8.wrap (m:Int)=((m%256:Nat):Int):=by rw[IntKind.wrap_u8'];omega
  rw[this,show (128:Int)=((128:Nat):Int)from rfl,u8_or_nat _ _ Zo Zo,or128 _ Zo];omega
 have e2:(m:Int)/2^7=((m/128:Nat):Int):=Zo;refine Xc (fun hc=>?_) (fun hc=>?_)
 ·obtain⟨k,rfl⟩:∃k',k=k'+1:=⟨k-1,by
   cases k with
   |zero=>simp at h1;omega
   |succ k=>rfl⟩
  simp(disch:=try exact Zp)only[go_sem,e1,e2,zbU];refine⟨Zd,zi (k,m/128,d++[UInt8.ofNat (m%128+128)]) ⟨?_,Zs,by simp;omega,?_⟩ (by show k<k+1;omega) (Xg [(2,3)] rfl ?_ ?_ Zd ?_)⟩
  ·show m/128<128^(k+1);exact Nat.div_lt_of_lt_mul (by rw[Yac,←YG];exact h1)
  ·show (d++[UInt8.ofNat (m%128+128)])++varF k (m/128)=_;rw[←h4,varF,Ye Zo,YH];rfl
  ·simp(disch:=try exact Zq)only[go_sem,e2]
  ·simp only[go_sem]
  exact ZE
 have e3:IntKind.u8.wrap (m:Int)=(m:Int):=by rw[IntKind.wrap_u8'];omega
 refine AXa.go mixed (zh) (zeh) Zk ?_;simp(disch:=try exact Zp)only[go_sem,e3,zbU];have e4:l++varF 5 n=d++[UInt8.ofNat m]:=by
  rw[←h4];cases k with
  |zero=>rfl
  |succ k=>rw[varF,Yi Zo]
 rw[e4];refine⟨rfl,[],Xg [(2,3)] rfl Zg Zg Zd ?_⟩;exact ZE
attribute [local go_sem] zbg
abbrev WS:=ZL×Nat×Nat
def zfW(s:WS)(b:Nat):WS:=
 if s.2.2=0 then(s.1,b*2^7,7)
 else if s.2.2=1 then(s.1++[UInt8.ofNat (s.2.1+b*2^0)],s.2.1+b*2^0,0)
 else(s.1,s.2.1+b*2^(s.2.2-1),s.2.2-1)
def numW:Nat→Nat→WS→WS
 |0,_,s=>s
 |k+1,n,s=>numW k n (zfW s (n/2^k%2))
def okW(s:WS):Prop:=s.2.1<256∧s.2.2≤7∧s.2.1%2^s.2.2=0∧s.1≠[]
instance (s:WS):Decidable (okW s):=by unfold okW;exact inferInstance
def zf9 {s:WS}{b:Nat}(h:okW s)(hb:b<2):okW (zfW s b):=by
 obtain⟨l,la,fr⟩:=s;obtain⟨h1,h2,h3,h4⟩:=h;dsimp only at h1 h2 h3 h4;unfold zfW okW;dsimp only;split
 ·refine⟨by show b*2^7<256;omega,by show 7≤7;omega,by show b*2^7%2^7=0;omega,h4⟩
 split
 ·refine⟨?_,by show 0≤7;omega,by show (la+b*2^0)%2^0=0;omega,Zs⟩;rename_i e;subst e;show la+b*2^0<256;omega
 obtain⟨f,rfl⟩:∃f,fr=f+2:=⟨fr-2,Zo⟩;refine⟨?_,by show f+2-1≤7;omega,?_,h4⟩
 ·show la+b*2^(f+1)<256;have:f=0∨f=1∨f=2∨f=3∨f=4∨f=5:=Zo;rcases this with rfl|rfl|rfl|rfl|rfl|rfl<;>simp at h3 ⊢<;>omega
 show (la+b*2^(f+1))%2^(f+1)=0;have:f=0∨f=1∨f=2∨f=3∨f=4∨f=5:=Zo;rcases this with rfl|rfl|rfl|rfl|rfl|rfl<;>simp at h3 ⊢<;>omega
def zuP(s:WS)(b:Nat):(zfW s b).1.length≤s.1.length+1:=by
 unfold zfW;split
 ·simp
 split<;>simp
def i64_and1(a:Nat)(h:a<9223372036854775808):Go.bits .and .i64 (a:Int) 1=((a%2:Nat):Int):=by
 unfold Go.bits;have h1:(BitVec.ofInt 64 (a:Int)).toNat=a:=by simp;omega
 have h2:(BitVec.ofInt 64 (a:Int)&&&BitVec.ofInt 64 1).toNat=a%2:=by rw[BitVec.toNat_and,h1];exact Nat.and_two_pow_sub_one_eq_mod a 1
 show IntKind.i64.wrap (((BitVec.ofInt 64 (a:Int)&&&BitVec.ofInt 64 1).toNat:Nat):Int)=_;rw[h2];exact wrap_i64 _ Zo Zo
def orbit(la f b:Nat)(h1:la<256)(hf:f≤7)(h:la%2^(f+1)=0)(hb:b<2):Go.bits .or .u8 (la:Int) (IntKind.u8.wrap (((b:Nat):Int)*2^f))=((la+b*2^f:Nat):Int):=by
 have h2:f=0∨f=1∨f=2∨f=3∨f=4∨f=5∨f=6∨f=7:=Zo;have key:∀m:Nat,m=2^f→m≤128:=by rintro m rfl;rcases h2 with rfl|rfl|rfl|rfl|rfl|rfl|rfl|rfl<;>decide
 have hm:=key _ rfl;have hbm:b*2^f<2^(f+1):=by rw[YG];have:0<2^f:=Nat.two_pow_pos f;rcases(show b=0∨b=1 by omega)with rfl|rfl<;>omega
 have hb2:b*2^f≤128:=by rcases(show b=0∨b=1 by omega)with rfl|rfl<;>omega
 have e:IntKind.u8.wrap (((b:Nat):Int)*2^f)=((b*2^f:Nat):Int):=by
  have:((b:Nat):Int)*2^f=((b*2^f:Nat):Int):=by push_cast;rfl
  rw[this,IntKind.wrap_u8'];omega
 rw[e,u8_or_nat _ _ h1 Zo,nat_join (f+1) la (b*2^f) h hbm]
def zu3(la f b:Nat)(h1:la<256)(hf:f≤7)(h:la%2^(f+1)=0)(hb:b<2):Go.bits .or .u8 (la:Int) (((b:Nat):Int)*2^f)=((la+b*2^f:Nat):Int):=by
 have h2:f=0∨f=1∨f=2∨f=3∨f=4∨f=5∨f=6∨f=7:=Zo;have e:IntKind.u8.wrap (((b:Nat):Int)*2^f)=((b:Nat):Int)*2^f:=by rw[IntKind.wrap_u8'];rcases h2 with rfl|rfl|rfl|rfl|rfl|rfl|rfl|rfl<;>omega
 rw[←orbit la f b h1 hf h hb,e]
def number_N(l:ZL)(la0 fr0 n z:Nat)(h0:okW (l,la0,fr0))(hl:l.length≤90000000)(hn:n<2^60)(hz:z≤60):NCall prog 28 [.ptr 0 0,.int .i64 n,.int .i64 z] [wB 1 l.length la0 fr0,bly l] [0,1] (.tup []) ⟨[(0,wB 2 (numW z n (l,la0,fr0)).1.length (numW z n (l,la0,fr0)).2.1 (numW z n (l,la0,fr0)).2.2),(2,bly (numW z n (l,la0,fr0)).1)],3⟩:=by
 unfold wB;refine Xi (rs:=[]) [0,1,2,6,10,17,52] [] 2 [0,1] mixed (zh) (zeh) call28 func28 rfl ntmps28 rfl Zk Zs Zs Zs Zs ?_;simp(disch:=try exact Zq)only[go_sem];refine AXs.loop mixed (zh) (zeh) (ι:=Nat×WS) (fun i=>[(6,.int .i64 ((i.1:Int)-1)),(1,.int .i64 n),(0,.ptr 0 0)]) (fun i=>⟨[(0,.cells [.sl 2 0 i.2.1.length 1 none,.int .i64 0,.int .i8 0,.int .u8 (i.2.2.1:Nat),.int .i64 (i.2.2.2:Nat)]),(2,bly i.2.1)],3⟩) (fun i=>i.1≤60∧okW i.2∧i.2.1.length+i.1≤90000100∧numW i.1 n i.2=numW z n (l,la0,fr0)) (fun i=>i.1) (z,(l,la0,fr0)) Zk ⟨hz,h0,by show l.length+z≤_;omega,rfl⟩ (Xg [(2,1)] rfl ?_ ?_ ?_ ?_) ?_
 ·simp only[go_sem]
 ·simp only[go_sem]
 ·decide
 ·exact ZE
 rintro⟨k,d,la,fr⟩ ⟨h1,⟨g1,g2,g3,g4⟩,h3,h4⟩;dsimp only at h1 g1 g2 g3 g4 h3 h4;simp only[go_sem];refine Xc (fun hc=>?_) (fun hc=>?_)
 ·obtain⟨k,rfl⟩:∃k',k=k'+1:=⟨k-1,Zo⟩;have ek:(((k+1:Nat):Int)-1)=(k:Int):=Zo;obtain⟨q,hq⟩:∃q,q=n/2^k:=⟨_,rfl⟩;have hqn:q≤n:=by rw[hq];exact Yca _ _
  have eS:(n:Int)/2^k=((q:Nat):Int):=by rw[hq];push_cast;rfl
  have eA:Go.bits .and .i64 (q:Int) 1=((q%2:Nat):Int):=i64_and1 q Zo;have eW:IntKind.u8.wrap ((q%2:Nat):Int)=((q%2:Nat):Int):=by rw[IntKind.wrap_u8'];omega
  have hb2:q%2<2:=Zo;rw[numW]at h4;rw[←hq]at h4;rcases(show fr=0∨fr=1∨∃f,fr=f+2 from by rcases fr with _|_|f;exact .inl rfl;exact .inr (.inl rfl);exact .inr (.inr ⟨f,rfl⟩))with rfl|rfl|⟨f,rfl⟩
  ·have eO:=zu3 0 7 (q%2) Zo Zo Zs hb2;rw[Int.natCast_zero,Yae]at eO;have hp:zfW (d,la,0) (q%2)=(d,q%2*2^7,7):=rfl;have hok:=zf9 (s:=(d,la,0)) (b:=q%2) ⟨g1,g2,g3,g4⟩ hb2;rw[hp]at h4 hok;simp(disch:=try exact Zq)only[go_sem,ek,eS,eA,eW,eO];refine⟨Zd,Zd,Zd,Zo,Zd,AXk.intro Zk ?_⟩;simp(disch:=try exact Zq)only[go_sem,ek,eS,eA,eW,eO];refine zi (k,(d,q%2*2^7,7)) ⟨by show k≤60;omega,hok,by show d.length+k≤_;omega,h4⟩ (by show k<k+1;omega) (Xg [] rfl ?_ ?_ Zd ?_)
   ·simp only[go_sem]
   ·simp only[go_sem]
   exact ZE
  ·have eO:=zu3 la 0 (q%2) g1 Zo g3 hb2;have hp:zfW (d,la,1) (q%2)=(d++[UInt8.ofNat (la+q%2*2^0)],la+q%2*2^0,0):=rfl;have hok:=zf9 (s:=(d,la,1)) (b:=q%2) ⟨g1,g2,g3,g4⟩ hb2;rw[hp]at h4 hok;simp(disch:=try exact Zp)only[go_sem,ek,eS,eA,eW,eO,zbU];refine⟨Zd,Zo,Zd,AXk.intro Zk ?_⟩;simp(disch:=try exact Zp)only[go_sem,ek,eS,eA,eW,eO,zbU];refine⟨Zd,AXk.intro Zk ?_⟩;simp(disch:=try exact Zp)only[go_sem,ek,eS,eA,eW,eO,zbU];refine zi (k,(d++[UInt8.ofNat (la+q%2*2^0)],la+q%2*2^0,0)) ⟨by show k≤60;omega,hok,by show (d++[_]).length+k≤_;rw[Yg,YQ];omega,h4⟩ (by show k<k+1;omega) (Xg [(2,3)] rfl ?_ ?_ Zd ?_)
   ·simp only[go_sem]
   ·simp only[go_sem]
   exact ZE
  have eO:=zu3 la (f+1) (q%2) g1 Zo g3 hb2;have eO':=orbit la (f+1) (q%2) g1 Zo g3 hb2;have hp:zfW (d,la,f+2) (q%2)=(d,la+q%2*2^(f+1),f+1):=by unfold zfW;rw[Ye (show ¬f+2=0 by omega),Ye (show ¬f+2=1 by omega)];rfl
  have hok:=zf9 (s:=(d,la,f+2)) (b:=q%2) ⟨g1,g2,g3,g4⟩ hb2;rw[hp]at h4 hok;have ef:(((f+2:Nat):Int)-1)=((f+1:Nat):Int):=Zo;have d0:decide (((f+2:Nat):Int)=0)=false:=Yd Zo;have d1:decide (((f+1:Nat):Int)=0)=false:=Yd Zo;simp(disch:=try exact Zq)only[go_sem,ek,eS,eA,eW,eO,eO',ef,d0,d1];refine⟨Zd,Zo,Zo,Zd,AXk.intro Zk ?_⟩;simp(disch:=try exact Zq)only[go_sem,ek,eS,eA,eW,eO,eO',ef,d0,d1];refine zi (k,(d,la+q%2*2^(f+1),f+1)) ⟨by show k≤60;omega,hok,by show d.length+k≤_;omega,h4⟩ (by show k<k+1;omega) (Xg [] rfl ?_ ?_ Zd ?_)
  ·simp only[go_sem]
  ·simp only[go_sem]
  exact ZE
 obtain rfl:k=0:=Zo;simp only[go_sem];have h5:numW z n (l,la0,fr0)=(d,la,fr):=h4.symm;rw[h5];refine⟨[],Xg [] rfl Zg Zg Zd ?_⟩;exact ZE
def zav:∀(z n:Nat)(s:WS),okW s→okW (numW z n s)∧(numW z n s).1.length≤s.1.length+z
 |0,_,s,h=>⟨h,Yc _⟩
 |z+1,n,s,h=>by obtain⟨h1,h2⟩:=zav z n (zfW s (n/2^z%2)) (zf9 h (YaL _ Zd));have:=zuP s (n/2^z%2);exact⟨h1,by show (numW z n _).1.length≤_;omega⟩
def zq9(l:ZL)(la fr:Int):ZA→Option Wst
 |[.int .i64 n,.int .i64 z]=>if 0≤la∧0≤fr∧okW (l,la.toNat,fr.toNat)∧l.length≤90000000∧0≤n∧n.toNat<2^60∧0≤z∧z≤60 then some ((numW z.toNat n.toNat (l,la.toNat,fr.toNat)).1,((numW z.toNat n.toNat (l,la.toNat,fr.toNat)).2.1:Int),((numW z.toNat n.toNat (l,la.toNat,fr.toNat)).2.2:Int))else none
 |_=>none
def stNum_eq {l:ZL}{la fr n z:Nat}(h:okW (l,la,fr))(hl:l.length≤90000000)(hn:n<2^60)(hz:z≤60):zq9 l la fr [.int .i64 n,.int .i64 z]=some ((numW z n (l,la,fr)).1,((numW z n (l,la,fr)).2.1:Int),((numW z n (l,la,fr)).2.2:Int)):=
 Yi ⟨Int.natCast_nonneg _,Int.natCast_nonneg _,h,hl,Int.natCast_nonneg _,hn,Int.natCast_nonneg _,Zo⟩
def num_ok:∀args H r,WrR zq9 (.tup []) args H r→HCall prog 28 args H r:=by
 refine zkW (.tup Zs) fun l la fr rest l' la' fr' h0 hs=>?_;unfold zq9 at hs;split at hs
 ·split at hs
  ·rename_i n z hx;obtain⟨a1,a2,a3,a4,a5,a6,a7,a8⟩:=hx;cases hs;refine⟨by simp[zaz],?_⟩;have:=number_N l la.toNat fr.toNat n.toNat z.toNat a3 a4 a6 Zo;rw[Int.toNat_of_nonneg a1,Int.toNat_of_nonneg a2,Int.toNat_of_nonneg a5,Int.toNat_of_nonneg a7]at this;exact this
  cases hs
 cases hs
def Δw1:FuncId→ZA→Hp→Option AR:=zaQ 28 (conD (WrR zq9 (.tup []))) Δw0
def ztm:zay prog Δw1:=zK (zT num_ok) zeh
def zoV(b c k:Nat)(l:ZL)(la fr n z:Nat)(bs:ZH)(nx:Nat)(hb:zG bs b=some (.cells [.sl c 0 k 1 none,.int .i64 0,.int .i8 0,.int .u8 (la:Nat),.int .i64 (fr:Nat)]))(hc:zG bs c=some (bly l))(hk':k=l.length)(h:okW (l,la,fr))(hl:l.length≤90000000)(hn:n<2^60)(hz:z≤60)(hk:((keysB bs).all fun b=>decide (b<nx))=true):Δw1 28 [.ptr b 0,.int .i64 n,.int .i64 z] ⟨bs,nx⟩=some ⟨True,.tup [],(((⟨bs,nx⟩:Hp).put b (.cells [.sl nx 0 (numW z n (l,la,fr)).1.length 1 none,.int .i64 0,.int .i8 0,.int .u8 ((numW z n (l,la,fr)).2.1:Nat),.int .i64 ((numW z n (l,la,fr)).2.2:Nat)])).kill c).new (bly (numW z n (l,la,fr)).1),[b,c],[b,c]⟩:=
 zqQ (st:=zq9) (s':=((numW z n (l,la,fr)).1,((numW z n (l,la,fr)).2.1:Int),((numW z n (l,la,fr)).2.2:Int))) hb hc hk' h.2.2.2 (stNum_eq h hl hn hz) hk
def zoW(b c k:Nat)(l:ZL)(la fr:Nat)(n:Int)(bs:ZH)(nx:Nat)(hb:zG bs b=some (.cells [.sl c 0 k 1 none,.int .i64 0,.int .i8 0,.int .u8 (la:Nat),.int .i64 (fr:Nat)]))(hc:zG bs c=some (bly l))(hk':k=l.length)(h:okW (l,la,fr))(hl:l.length≤90000000)(hn:0≤n∧n≤1)(hk:((keysB bs).all fun b=>decide (b<nx))=true):Δw1 28 [.ptr b 0,.int .i64 n,.int .i64 1] ⟨bs,nx⟩=some ⟨True,.tup [],(((⟨bs,nx⟩:Hp).put b (.cells [.sl nx 0 (numW 1 n.toNat (l,la,fr)).1.length 1 none,.int .i64 0,.int .i8 0,.int .u8 ((numW 1 n.toNat (l,la,fr)).2.1:Nat),.int .i64 ((numW 1 n.toNat (l,la,fr)).2.2:Nat)])).kill c).new (bly (numW 1 n.toNat (l,la,fr)).1),[b,c],[b,c]⟩:=by obtain⟨m,rfl⟩:∃m:Nat,n=m:=⟨n.toNat,Zo⟩;exact zoV b c k l la fr m 1 bs nx hb hc hk' h hl Zo Zo hk
def b2n(b:Bool):Nat:=match b with|true=>1|false=>0
theorem b2n_t:b2n true=1:=rfl
theorem b2n_f:b2n false=0:=rfl
def b2n_lt(x:Bool):b2n x<2:=by cases x<;>decide
def flag_N(l:ZL)(la fr:Nat)(x:Bool)(h0:okW (l,la,fr))(hl:l.length≤90000000):NCall prog 64 [.ptr 0 0,.bool x] [wB 1 l.length la fr,bly l] [0,1] (.tup []) ⟨[(0,wB 2 (numW 1 (b2n x) (l,la,fr)).1.length (numW 1 (b2n x) (l,la,fr)).2.1 (numW 1 (b2n x) (l,la,fr)).2.2),(2,bly (numW 1 (b2n x) (l,la,fr)).1)],3⟩:=by
 unfold wB;refine Xi (rs:=[]) [0,1,4,5] [] 2 [0,1] mixed (zh) (ztm) call64 func64 rfl ntmps64 rfl Zk Zs Zs Zs Zs ?_;cases x with
 |true=>simp(disch:=try exact Zp)only[go_sem,zoW];exact⟨rfl,[],Xg [] rfl Zg (by simp only[go_sem,b2n_t,b2n_f]) Zd (by exact ZE)⟩
 |false=>simp(disch:=try exact Zp)only[go_sem,zoW];exact⟨rfl,[],Xg [] rfl Zg (by simp only[go_sem,b2n_t,b2n_f]) Zd (by exact ZE)⟩
def zpn(l:ZL)(la fr:Int):ZA→Option Wst
 |[.bool x]=>if 0≤la∧0≤fr∧okW (l,la.toNat,fr.toNat)∧l.length≤90000000 then some ((numW 1 (b2n x) (l,la.toNat,fr.toNat)).1,((numW 1 (b2n x) (l,la.toNat,fr.toNat)).2.1:Int),((numW 1 (b2n x) (l,la.toNat,fr.toNat)).2.2:Int))else none
 |_=>none
def flag_ok:∀args H r,WrR zpn (.tup []) args H r→HCall prog 64 args H r:=by
 refine zkW (.tup Zs) fun l la fr rest l' la' fr' h0 hs=>?_;unfold zpn at hs;split at hs
 ·split at hs
  ·rename_i x hx;obtain⟨a1,a2,a3,a4⟩:=hx;cases hs;refine⟨by simp[zM],?_⟩;have:=flag_N l la.toNat fr.toNat x a3 a4;rw[Int.toNat_of_nonneg a1,Int.toNat_of_nonneg a2]at this;exact this
  cases hs
 cases hs
def zca(s:WS):WS:=if s.2.2=0 then s else(s.1++[UInt8.ofNat s.2.1],s.2.1,0)
def fill_N(l:ZL)(la fr:Nat)(h0:okW (l,la,fr))(hl:l.length≤90000000):NCall prog 31 [.ptr 0 0] [wB 1 l.length la fr,bly l] [0,1] (.tup []) ⟨[(0,wB 2 (zca (l,la,fr)).1.length (zca (l,la,fr)).2.1 (zca (l,la,fr)).2.2),(2,bly (zca (l,la,fr)).1)],3⟩:=by
 unfold wB;obtain⟨g1,g2,g3,g4⟩:=h0;dsimp only at g1 g2 g3 g4;refine Xi (rs:=[]) [0,6] [] 2 [0,1] mixed (zh) (zeh) call31 func31 rfl ntmps31 rfl Zk Zs Zs Zs Zs ?_;by_cases hf:fr=0
 ·subst hf;have e:zca (l,la,0)=(l,la,0):=rfl;rw[e];simp(disch:=try exact Zp)only[go_sem];exact⟨[],Xg [(2,1)] rfl Zg Zg Zd (by exact ZE)⟩
 have e:zca (l,la,fr)=(l++[UInt8.ofNat la],la,0):=Ye hf;have d0:decide (0<(fr:Int))=true:=Yf Zo;rw[e];simp(disch:=try exact Zp)only[go_sem,d0,zbU];refine⟨rfl,AXk.intro Zk ?_⟩;simp(disch:=try exact Zp)only[go_sem,d0,zbU];exact⟨rfl,[],Xg [] rfl Zg Zg Zd (by exact ZE)⟩
end Go.Proofs
