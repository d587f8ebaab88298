/- Pack's reader: the state's contract; read. -/
import Derived.Test.YtbdlfegfepggnaaGreatDoorRW3
set_option linter.all false
set_option maxHeartbeats 16000000
set_option maxRecDepth 100000
noncomputable section
namespace Go.Proofs
open Tryz Go.Ab Go.Pl Go.Cnt
attribute [local go_sem] zaO zbE zas zcv zW
def StX(args:ZA)(H:Hp)(r:AR):Prop:=
 ∃b c nm wt st ar L l q A s r' q',args=[.ptr b 0,.agg (layX nm wt st ar),.fs (strs L) L.length,.ptr c 0]∧b≠c∧(∀b x,H.get b=some x→b<H.next)∧H.get b=some (rdB l (q:Nat))∧H.get c=some (.cells [.int .i64 (A:Nat)])∧
  (nm≤100000000∧st≤100000000∧ar≤100000000∧L.length≤100000000∧l.length≤80000000∧q≤7)∧staM nm st ar L l q=some (s,r',q')∧A+s.a.length≤30000∧
  r=⟨True,staV s,(H.put b (rdB r' (q':Nat))).put c (.cells [.int .i64 (A+s.a.length:Nat)]),[b,c],[b,c]⟩
def StX_eq {b c nm wt st ar:Nat}{L:List Str}{l:ZL}{q A:Nat}{s:Sta}{r':ZL}{q' k n:Nat}{bs:ZH}{nx:Nat}(hv:staM nm st ar L l q=some (s,r',q'))(hb:zG bs b=some (.cells [.fs (l.map zq) k,.int .i64 (q:Nat)]))(hn:k=l.length)(hc:zG bs c=some (.cells [.int .i64 (A:Nat)]))(hne:b≠c)(hL:n=L.length) (h1:nm≤100000000) (h2:st≤100000000) (h3:ar≤100000000) (h4:L.length≤100000000) (h5:l.length≤80000000) (h6:q≤7) (h7:A+s.a.length≤30000) (hk:((keysB bs).all fun b=>decide (b<nx))=true):conD StX [.ptr b 0,.agg [.int .i64 nm,.int .i64 wt,.int .i64 st,.int .i64 ar,.nilM],.fs (strs L) n,.ptr c 0] ⟨bs,nx⟩=some ⟨True,.agg [.str s.f,.fs (arcs s.a) s.a.length],((⟨bs,nx⟩:Hp).put b (.cells [.fs (r'.map zq) r'.length,.int .i64 (q':Nat)])).put c (.cells [.int .i64 (A+s.a.length:Nat)]),[b,c],[b,c]⟩:=by subst hn hL;refine zan ⟨b,c,nm,wt,st,ar,L,l,q,A,s,r',q',rfl,hne,zaZ hk,(zC bs b).trans hb,(zC bs c).trans hc,⟨h1,h2,h3,h4,h5,h6⟩,hv,h7,rfl⟩ ?_;rintro R ⟨b',c',nm',wt',st',ar',L',l',q1,A',s',r1,q2,he,_,_,hb',hc',_,hv',_,rfl⟩;simp only[layX,Yt,V.ptr.injEq,V.agg.injEq,V.int.injEq,V.fs.injEq,Yag,Yad]at he;obtain⟨rfl,⟨e1,e2,e3,e4⟩,⟨e5,_⟩,rfl⟩:=he;obtain rfl:nm=nm':=Zo;obtain rfl:st=st':=Zo;obtain rfl:ar=ar':=Zo;obtain rfl:=zbv e5;rw[show (⟨bs,nx⟩:Hp).get b=some (rdB l (q:Nat))from(zC bs b).trans hb]at hb';obtain⟨rfl,hq⟩:=zuE hb';obtain rfl:q=q1:=Zo;rw[show (⟨bs,nx⟩:Hp).get c=some (.cells [.int .i64 (A:Nat)])from(zC bs c).trans hc]at hc';simp only[Yx,Blk.cells.injEq,Yt,V.int.injEq,Yag,Yad]at hc';obtain rfl:A=A':=Zo;rw[hv]at hv';cases hv';rfl
def lay_pure(nm wt st ar:Nat):Pure (.agg (layX nm wt st ar)):=by
 refine .agg fun x hx=>?_;unfold layX at hx;rcases Yy.1 hx with rfl|hx;exact .int _ _
 rcases Yy.1 hx with rfl|hx;exact .int _ _
 rcases Yy.1 hx with rfl|hx;exact .int _ _
 rcases Yy.1 hx with rfl|hx;exact .int _ _
 obtain rfl:=YB.1 hx;exact .nilM
def zwb {π:Nat→Nat}{N:Nat→Prop}(k:Int):RnB π N (.cells [.int .i64 k]) (.cells [.int .i64 k]):=.cells (zB fun x hx=>by obtain rfl:=YB.1 hx;exact .int _ _)
def zt1(s:Sta):Pure (staV s):=by
 refine .agg fun x hx=>?_;rcases Yy.1 hx with rfl|hx;exact .str _
 obtain rfl:=YB.1 hx;exact .fs (zhH _)
def stX_ok:∀args H r,StX args H r→HCall prog 75 args H r:=by
 rintro args H r ⟨b,c,nm,wt,st,ar,L,l,q,A,s,r',q',rfl,hne,hk,hb,hc,⟨h1,h2,h3,h4,h5,h6⟩,hv,hA,rfl⟩;have hN:=xsta_N nm wt st ar L l q A s r' q' h1 h2 h3 h4 h5 h6 hv hA;have tb:zu [b,c] H.next b=0:=by unfold zu;rw[Yi (hk b _ hb)];simp
 have tc:zu [b,c] H.next c=1:=by unfold zu;rw[Yi (hk c _ hc)];simp[List.idxOf_cons,hne,Ybq.2 hne]
 refine HCall.of hN [b,c] _ (staV s) H _ rfl (by simp[hne]) ⟨rfl,fun i u v hu hv=>?_⟩ (fun i x hx=>?_) (.same (zt1 s)) (by show H.next+2=H.next+2;rfl) (fun b' x' hx'=>?_) (fun b' hb' hw=>?_)
 ·match i with
  |0=>cases hu;cases hv;exact .ptr (π:=fun i=>[b,c].getD i 0) (b:=0) (show 0<2 by decide)
  |1=>cases hu;cases hv;exact .same (lay_pure _ _ _ _)
  |2=>cases hu;cases hv;exact .same (.fs (zaP _))
  |3=>cases hu;cases hv;exact .ptr (π:=fun i=>[b,c].getD i 0) (b:=1) (show 1<2 by decide)
  |i+4=>simp at hu
 ·match i with
  |0=>cases hx;exact⟨b,_,rfl,hb,ziu l q⟩
  |1=>cases hx;exact⟨c,_,rfl,hc,zwb _⟩
  |i+2=>simp at hx
 ·rw[Xd]at hx';split at hx'
  ·rename_i he;subst he;rw[Xd,Ye (Ne.symm hne),hc]at hx';cases hx';refine .inr ⟨.inl Zs,.cells [.int .i64 (A+s.a.length:Nat)],?_,zwb _⟩;rw[tc];rfl
  rename_i he;rw[Xd]at hx';split at hx'
  ·rename_i he2;subst he2;rw[hb]at hx';cases hx';refine .inr ⟨.inl Zs,rdB r' q',?_,ziu r' q'⟩;rw[tb];rfl
  rename_i he2;exact .inl ⟨hk b' _ hx',by simp[he,he2],hx'⟩
 have h2:b'≠b∧b'≠c:=by simpa using hw
 rw[Xd,Ye h2.2,Xd,Ye h2.1]
def Δrd:FuncId→ZA→Hp→Option AR:=zaQ 75 (conD StX) Δg
def zfi:zay prog Δrd:=zK (zT stX_ok) zgi
theorem Δrd_t(args:ZA)(H:Hp):Δrd 70 args H=Δt 70 args H:=rfl
theorem Δrd_v(args:ZA)(H:Hp):Δrd 71 args H=Δv 71 args H:=rfl
theorem Δrd_f(args:ZA)(H:Hp):Δrd 72 args H=Δf 72 args H:=rfl
theorem Δrd_n(args:ZA)(H:Hp):Δrd 74 args H=Δnu 74 args H:=rfl
theorem ztn(args:ZA)(H:Hp):Δrd 75 args H=conD StX args H:=rfl
def zlb {nm st ar:Nat}{L:List Str}:∀ {k:Nat} {l:ZL} {q:Nat} {a:List Sta} {r:ZL} {p:Nat},zgH nm st ar L k l q=some (a,r,p)→a.length=k
 |0,_,_,_,_,_,h=>by cases h;rfl
 |k+1,l,q,a,r,p,h=>by obtain⟨x,l1,q1,_,h2⟩:=zU h;obtain⟨y,l2,q2,h3,h4⟩:=zU h2;cases h4;show y.length+1=k+1;rw[zlb h3]
def arcM_le {nm st:Nat}{L:List Str}{l:ZL}{q:Nat}{a:Arc}{r:ZL}{p:Nat}(h:arcM nm st L l q=some (a,r,p))(hq:q≤7):r.length≤l.length∧p≤7:=by
 obtain⟨e,l1,q1,v1,h⟩:=zU h;obtain⟨i,l2,q2,v2,h⟩:=zU h;obtain⟨o,l3,q3,v3,h⟩:=zU h;obtain⟨w,l4,q4,v4,h⟩:=zU h;obtain⟨t,l5,q5,v5,h⟩:=zU h;cases h;obtain⟨b1,c1⟩:=za8 _ _ _ _ v1 hq;obtain⟨b2,c2⟩:=za8 _ _ _ _ v2 c1;have b3:l3.length≤l2.length∧q3≤7:=by
  split at v3
  ·cases v3;exact⟨Yc _,c2⟩
  exact za8 _ _ _ _ v3 c2
 obtain⟨b3,c3⟩:=b3;obtain⟨b4,c4⟩:=zjb v4 c3;obtain⟨b5,c5⟩:=za8 _ _ _ _ v5 c4;exact⟨Zo,c5⟩
def zqz {nm st:Nat}{L:List Str}:∀ {k:Nat} {l:ZL} {q:Nat} {a:List Arc} {r:ZL} {p:Nat},zfe nm st L k l q=some (a,r,p)→q≤7→r.length≤l.length∧p≤7
 |0,_,_,_,_,_,h,hq=>by cases h;exact⟨Yc _,hq⟩
 |k+1,l,q,a,r,p,h,hq=>by obtain⟨x,l1,q1,h1,h2⟩:=zU h;obtain⟨y,l2,q2,h3,h4⟩:=zU h2;cases h4;obtain⟨b1,c1⟩:=arcM_le h1 hq;obtain⟨b2,c2⟩:=zqz h3 c1;exact⟨Zo,c2⟩
def staM_le {nm st ar:Nat}{L:List Str}{l:ZL}{q:Nat}{a:Sta}{r:ZL}{p:Nat}(h:staM nm st ar L l q=some (a,r,p))(hq:q≤7):r.length≤l.length∧p≤7:=by
 obtain⟨e,l1,q1,v1,h⟩:=zU h;obtain⟨f,l2,q2,v2,h⟩:=zU h;obtain⟨n,l3,q3,v3,h⟩:=zU h;obtain⟨w,l4,q4,v4,h⟩:=zU h;cases h;obtain⟨b1,c1⟩:=za8 _ _ _ _ v1 hq;have b2:l2.length≤l1.length∧q2≤7:=by
  split at v2
  ·exact zjb v2 c1
  cases v2;exact⟨Yc _,c1⟩
 obtain⟨b2,c2⟩:=b2;obtain⟨b3,c3⟩:=za8 _ _ _ _ v3 c2;obtain⟨b4,c4⟩:=zqz v4 c3;exact⟨Zo,c4⟩
def zpz {z:Nat}:∀ {k:Nat} {l:ZL} {q:Nat} {r:ZL} {p:Nat},zjR z k l q=some ((),r,p)→q≤7→r.length≤l.length∧p≤7
 |0,_,_,_,_,h,hq=>by cases h;exact⟨Yc _,hq⟩
 |k+1,l,q,r,p,h,hq=>by obtain⟨x,l1,q1,h1,h2⟩:=zU h;obtain⟨b1,c1⟩:=za8 _ _ _ _ h1 hq;obtain⟨b2,c2⟩:=zpz h2 c1;exact⟨Zo,c2⟩
def zhs {most:Nat}:∀ {k:Nat} {last:Str} {l:ZL} {s:List Str} {r:ZL},zdt most k last l=some (s,r)→s.length=k∧r.length≤l.length
 |0,_,_,_,_,h=>by cases h;exact⟨rfl,Yc _⟩
 |k+1,last,l,s,r,h=>by obtain⟨a,l1,b,l2,sr,v1,_,v2,_,hb,g,rfl⟩:=zmc h;obtain⟨h1,h2⟩:=zhs g;have:=(zb3 _ _ _ _ v1).2;have:=(zb3 _ _ _ _ v2).2;rw[Yai]at h2;exact⟨by show sr.length+1=k+1;omega,Zo⟩
def zuD(acc:List Sta)(k s:Int)(l:Str)(lay rd tb:Blk):Hp:=match acc with
 |[]=>⟨[(5,.cells [.int .i64 (arcN acc:Nat)]),(4,lay),(3,rd),(2,.cells [.bool false]),(1,tb),(0,.cells [.int .i64 k,.int .i64 s,.str l,.nilS])],6⟩
 |_::_=>⟨[(6,.cells (stas acc)),(5,.cells [.int .i64 (arcN acc:Nat)]),(4,lay),(3,rd),(2,.cells [.bool false]),(1,tb),(0,.cells [.int .i64 k,.int .i64 s,.str l,.sl 6 0 acc.length 2 none])],7⟩
def zt0(y:Sta)(acc:List Sta)(x:Sta):(stas (y::acc)).take ((acc.length+1)*2)++[.str x.f,.fs (arcs x.a) x.a.length]=stas (y::(acc++[x])):=by have h1:stas (y::(acc++[x]))=stas (y::acc)++stas [x]:=staR.cells_append (y::acc) [x];have h2:(stas (y::acc)).length=(acc.length+1)*2:=zf6 (y::acc);rw[h1,←h2,Ym];rfl
def zyv(acc:List Sta)(x:Sta):arcN (acc++[x])=arcN acc+x.a.length:=by simp[arcN]
def arcN_mid(acc:List Sta)(x:Sta)(r:List Sta):arcN acc+x.a.length≤arcN (acc++x::r):=by simp[arcN]
def read_W(c:UInt8)(l0 l1 l2 l3 l4 l5 l6 l7 l8 l9 l10 l11:ZL)(nm wt st s0 ld ar tot:Nat)(t L:List Str)(sts:List Sta)(p10 p11:Nat) (v1:vdec 5 l0=some (nm,l1)) (b1:nm≤500) (v2:vdec 5 l1=some (wt,l2)) (b2:wt≤33001) (v3:vdec 5 l2=some (st,l3)) (b3:st≤3000) (v4:vdec 5 l3=some (s0,l4)) (b4:s0≤3000) (v5:vdec 5 l4=some (ld,l5)) (b5:ld≤33001) (v6:vdec 5 l5=some (ar,l6)) (b6:ar≤30000) (v7:vdec 5 l6=some (tot,l7)) (b7:tot≤8388608) (v8:zdt 40 nm [] l7=some (t,l8)) (v9:zdt 802 wt [] l8=some (L,l9)) (bl:ld<L.length) (v10:zjR (widI tot) st l9 0=some ((),l10,p10)) (v11:zgH nm st ar L st l10 p10=some (sts,l11,p11)) (ba:arcN sts≤30000) (hl:l0.length≤2000000):PCall prog 46 [.fs ((c::l0).map zq) (l0.length+1)] (.ret (.tup [zad ⟨(c.toNat:Nat),(s0:Nat),L.getD ld [],sts⟩,.fs (strs t) t.length,.bool true])):=by
 have g1:=(zb3 _ _ _ _ v1).2;have g2:=(zb3 _ _ _ _ v2).2;have g3:=(zb3 _ _ _ _ v3).2;have g4:=(zb3 _ _ _ _ v4).2;have g5:=(zb3 _ _ _ _ v5).2;have g6:=(zb3 _ _ _ _ v6).2;have g7:=(zb3 _ _ _ _ v7).2;obtain⟨e8,g8⟩:=zhs v8;obtain⟨e9,g9⟩:=zhs v9;obtain⟨g10,c10⟩:=zpz v10 Zd;have hlen:=zlb v11;have hΓ:=zf zb5 (zf zbC zh);have hrs:Tryz.f46.results.toList=[.cell 2 24,.cell 3 25,.cell 4 4]:=Zk;refine read_P (C0:=⟨83,za2 [0,2,3,4,5,6,7,8,9,10,59,60,61,68,69,70],zsC 29 cWid (zsC 73 zxu noΓ),Δrd,0,[],za2 [],[]⟩) func46 (.fs (zaj _)) rfl rfl rfl fun dl=>?_;refine AX.mono (K:=EndR prog [.cell 2 24,.cell 3 25,.cell 4 4] (.ret (.tup [zad ⟨(c.toNat:Nat),(s0:Nat),L.getD ld [],sts⟩,.fs (strs t) t.length,.bool true]))) ?_ fun o s hk=>?_;rotate_left
 ·rw[←hrs]at hk;cases o with
  |norm=>obtain⟨h1,v',h2,h3⟩:=hk;cases h2;exact⟨.inl rfl,h1,h3⟩
  |ret=>obtain⟨h1,v',h2,h3⟩:=hk;cases h2;exact⟨.inr rfl,h1,h3⟩
  |exit i=>exact hk.elim
  |panic v=>obtain⟨v',h2,_⟩:=hk;cases h2
 show AXa ⟨83,_,_,Δrd,0,[],_,dl⟩ prog (EndR prog _ _) [] _ _ _;unfold readC;rw[func46];dsimp only[Option.bind,Tryz.f46,tailC];have hl':l0.length≤80000000:=Zo;have u1:=fun b k most bs nx=>zcZ b k nm l0 l1 0 most bs nx v1;have u2:=fun b k most bs nx=>zcZ b k wt l1 l2 0 most bs nx v2;have u3:=fun b k most bs nx=>zcZ b k st l2 l3 0 most bs nx v3;have u4:=fun b k most bs nx=>zcZ b k s0 l3 l4 0 most bs nx v4;have u5:=fun b k most bs nx=>zcZ b k ld l4 l5 0 most bs nx v5;have u6:=fun b k most bs nx=>zcZ b k ar l5 l6 0 most bs nx v6;have u7:=fun b k most bs nx=>zcZ b k tot l6 l7 0 most bs nx v7;have u8:=fun b k bs nx=>zo0 b k nm 40 l7 l8 t 0 bs nx v8;have u9:=fun b k bs nx=>zo0 b k wt 802 l8 l9 L 0 bs nx v9;rw[show ((40:Nat):Int)=40 from rfl]at u8;rw[show ((802:Nat):Int)=802 from rfl]at u9;have hc:=c.toNat_lt;have eK:IntKind.i64.wrap ((c.toNat:Nat):Int)=(c.toNat:Nat):=wrap_i64 _ Zo Zo;have dl1:decide ((ld:Int)<L.length)=true:=Yf Zo;refine AXa.go mixed (hΓ) (zfi) Zk ?_;simp(disch:=try exact Zp)only[go_sem,Δrd_t,Δrd_v,Δrd_f,Δrd_n,ztn,zgg,u1,u2,u3,u4,u5,u6,u7,u8,u9,dl1,eK,zcT];have wz:=zi9 tot Zo;refine⟨⟨Zo,Zo⟩,Zo,AXs.loop mixed (hΓ) (zfi) (ι:=Nat×ZL×Nat) (fun i=>[(60,.int .i64 (i.1:Nat)),(59,.int .i64 (st:Nat)),(9,.fs (strs L) L.length),(8,.int .i64 (tot:Nat)),(6,.ptr 4 0),(5,.ptr 3 0),(4,.ptr 2 0),(3,.ptr 1 0),(2,.ptr 0 0)])
  (fun i=>⟨[(4,.cells [.int .i64 nm,.int .i64 wt,.int .i64 st,.int .i64 ar,.nilM]),(3,.cells [.fs (i.2.1.map zq) i.2.1.length,.int .i64 (i.2.2:Nat)]),(2,.cells [.bool false]),(1,.cells [.fs (strs t) t.length]),(0,.cells [.int .i64 (c.toNat:Nat),.int .i64 (s0:Nat),.str (L.getD ld []),.nilS])],5⟩)
  (fun i=>i.1≤st∧i.2.1.length≤80000000∧i.2.2≤7∧zjR (widI tot) (st-i.1) i.2.1 i.2.2=some ((),l10,p10)) (fun i=>st-i.1) (0,l9,0) Zk ⟨Yk _,by show l9.length≤_;omega,Yk _,v10⟩ (Xb [] rfl rfl ?_ ?_) ?_⟩
 ·simp only[go_sem]
 ·simp only[go_sem]
 rintro⟨i,d,p⟩ ⟨h1,h2,h3,h4⟩;dsimp only at h1 h2 h3 h4;by_cases hlt:i<st
 ·obtain⟨j,hj⟩:∃j,st-i=j+1:=⟨st-i-1,Zo⟩;rw[hj]at h4;obtain⟨x,d1,p1,w1,w2⟩:=zU h4;obtain⟨y1,y1'⟩:=za8 _ _ _ _ w1 h3;have dI:decide ((i:Int)<st)=true:=Yf Zo;have ei:(i:Int)+1=((i+1:Nat):Int):=Zo;have z1:=fun b k bs nx=>zc0 b k x p _ p1 d d1 bs nx w1;simp(disch:=try exact Zp)only[go_sem,dI,ei,Δrd_n,z1,zN];refine zi (i+1,d1,p1) ⟨by show i+1≤st;omega,by show d1.length≤_;omega,y1',?_⟩ (by show st-(i+1)<st-i;omega) (Xb [] rfl rfl Zg Zg);show zjR _ (st-(i+1)) d1 p1=_;rw[show st-(i+1)=j by omega,w2]
 obtain rfl:st=i:=Zo;rw[YaK]at h4;obtain⟨rfl,rfl⟩:d=l10∧p=p10:=by simpa[zjR,retR]using h4
 have dI:decide ((st:Int)<st)=false:=Yd Zo;simp(disch:=try exact Zp)only[go_sem,dI];refine AXa.go mixed (hΓ) (zfi) Zk ?_;simp(disch:=try exact Zp)only[go_sem];refine AXs.loop mixed (hΓ) (zfi) (ι:=Nat×List Sta×ZL×Nat) (fun i=>[(69,.int .i64 (i.1:Nat)),(68,.int .i64 (st:Nat)),(10,.ptr 5 0),(9,.fs (strs L) L.length),(6,.ptr 4 0),(5,.ptr 3 0),(4,.ptr 2 0),(3,.ptr 1 0),(2,.ptr 0 0)])
  (fun i=>zuD i.2.1 (c.toNat:Nat) (s0:Nat) (L.getD ld []) (.cells [.int .i64 nm,.int .i64 wt,.int .i64 st,.int .i64 ar,.nilM]) (.cells [.fs (i.2.2.1.map zq) i.2.2.1.length,.int .i64 (i.2.2.2:Nat)]) (.cells [.fs (strs t) t.length]))
  (fun i=>i.1≤st∧i.2.1.length=i.1∧i.2.2.1.length≤80000000∧i.2.2.2≤7∧(zgH nm st ar L (st-i.1) i.2.2.1 i.2.2.2).map (fun x=>(i.2.1++x.1,x.2))=some (sts,l11,p11)) (fun i=>st-i.1) (0,[],d,p) Zk ⟨Yk _,rfl,h2,h3,by show (zgH nm st ar L st d p).map _=_;rw[v11];rfl⟩ (Xb [] rfl rfl ?_ ?_) ?_
 ·simp only[go_sem]
 ·show subH _ 6 _ [(5,.cells [.int .i64 0]),(4,.cells [.int .i64 nm,.int .i64 wt,.int .i64 st,.int .i64 ar,.nilM]),(3,.cells [.fs (d.map zq) d.length,.int .i64 (p:Nat)]),(2,.cells [.bool false]),(1,.cells [.fs (strs t) t.length]),(0,.cells [.int .i64 (c.toNat:Nat),.int .i64 (s0:Nat),.str (L.getD ld []),.nilS])];simp only[go_sem]
 clear dI h1 h2 h3 h4 v10 u1 u2 u3 u4 u5 u6 u7 u8 u9;rintro⟨i,acc,e,o⟩ ⟨h1,h2,h3,h4,h5⟩;dsimp only at h1 h2 h3 h4 h5;obtain⟨⟨sr,r',p'⟩,f1,fp⟩:=YN.1 h5;obtain⟨f2,rfl,rfl⟩:acc++sr=sts∧r'=l11∧p'=p11:=by simpa using fp
 clear fp h5;by_cases hlt:i<st
 ·obtain⟨j,hj⟩:∃j,st-i=j+1:=⟨st-i-1,Zo⟩;rw[hj]at f1;obtain⟨x,d6,p6,w1,f1⟩:=zU f1;obtain⟨sr',d7,p7,f3,f1⟩:=zU f1;obtain⟨rfl,rfl,rfl⟩:x::sr'=sr∧d7=r'∧p7=p':=by simpa[retR]using f1
  clear f1;obtain⟨y1,y1'⟩:=staM_le w1 h4;have dI:decide ((i:Int)<st)=true:=Yf Zo;have ei:(i:Int)+1=((i+1:Nat):Int):=Zo;have hmid:=arcN_mid acc x sr';rw[f2]at hmid;have hsn:=zyv acc x;have z1:=fun(b c k n:Nat) (bs:ZH) (nx:Nat)=>StX_eq (b:=b) (c:=c) (wt:=wt) (A:=arcN acc) (k:=k) (n:=n) (bs:=bs) (nx:=nx) w1;generalize hX:arcN acc=A at*;obtain⟨F,AA⟩:=x;dsimp only at z1 hmid hsn;cases acc with
  |nil=>
   dsimp only[zuD];rw[hX];simp(disch:=try exact Zp)only[go_sem,dI,ei,ztn,z1];have hsn':arcN [⟨F,AA⟩]=A+AA.length:=hsn;have eT:[V.str F,.fs (arcs AA) AA.length]=stas [⟨F,AA⟩]:=rfl;refine AXk.intro Zk ?_;simp(disch:=try exact Zp)only[go_sem,ei];refine zi (i+1,[⟨F,AA⟩],d6,p6) ⟨by show i+1≤st;omega,by show 1=i+1;have:0=i:=h2;omega,by show d6.length≤_;omega,y1',?_⟩ (by show st-(i+1)<st-i;omega) (Xb [(6,7)] rfl rfl ?_ ?_)
   ·show (zgH nm st ar L (st-(i+1)) d6 p6).map _=_;rw[show st-(i+1)=j by omega,f3,←f2];rfl
   ·show subE _ (fun b=>b<7) _ [(69,.int .i64 ((i+1:Nat):Int)),(68,.int .i64 (st:Nat)),(10,.ptr 5 0),(9,.fs (strs L) L.length),(6,.ptr 4 0),(5,.ptr 3 0),(4,.ptr 2 0),(3,.ptr 1 0),(2,.ptr 0 0)];simp only[go_sem]
   show subH _ 7 _ [(6,.cells [.str F,.fs (arcs AA) AA.length]),(5,.cells [.int .i64 (arcN ([⟨F,AA⟩]):Nat)]),(4,.cells [.int .i64 nm,.int .i64 wt,.int .i64 st,.int .i64 ar,.nilM]),(3,.cells [.fs (d6.map zq) d6.length,.int .i64 (p6:Nat)]),(2,.cells [.bool false]),(1,.cells [.fs (strs t) t.length]),(0,.cells [.int .i64 (c.toNat:Nat),.int .i64 (s0:Nat),.str (L.getD ld []),.sl 6 0 1 2 none])];rw[hsn'];simp only[go_sem,Yg,YQ,Yv,Ya8,Nat.succ_eq_add_one]
  |cons y acc=>
   have h2':acc.length+1=i:=h2;have eT:=zt0 y acc ⟨F,AA⟩;dsimp only at eT;have hsn':arcN (y::(acc++[⟨F,AA⟩]))=A+AA.length:=hsn;dsimp only[zuD];rw[hX];simp(disch:=try exact Zp)only[go_sem,dI,ei,ztn,z1];refine⟨⟨Zo,Zo⟩,AXk.intro Zk ?_⟩;simp(disch:=try exact Zp)only[go_sem,ei];refine zi (i+1,y::(acc++[⟨F,AA⟩]),d6,p6) ⟨by show i+1≤st;omega,by simp;omega,by show d6.length≤_;omega,y1',?_⟩ (by show st-(i+1)<st-i;omega) (Xb [(6,8)] rfl rfl ?_ ?_)
   ·show (zgH nm st ar L (st-(i+1)) d6 p6).map _=_;rw[show st-(i+1)=j by omega,f3,←f2];simp
   ·show subE _ (fun b=>b<7) _ [(69,.int .i64 ((i+1:Nat):Int)),(68,.int .i64 (st:Nat)),(10,.ptr 5 0),(9,.fs (strs L) L.length),(6,.ptr 4 0),(5,.ptr 3 0),(4,.ptr 2 0),(3,.ptr 1 0),(2,.ptr 0 0)];simp only[go_sem]
   show subH _ 7 _ [(6,.cells (stas (y::(acc++[⟨F,AA⟩])))),(5,.cells [.int .i64 (arcN (y::(acc++[⟨F,AA⟩])):Nat)]),(4,.cells [.int .i64 nm,.int .i64 wt,.int .i64 st,.int .i64 ar,.nilM]),(3,.cells [.fs (d6.map zq) d6.length,.int .i64 (p6:Nat)]),(2,.cells [.bool false]),(1,.cells [.fs (strs t) t.length]),(0,.cells [.int .i64 (c.toNat:Nat),.int .i64 (s0:Nat),.str (L.getD ld []),.sl 6 0 (acc++[(⟨F,AA⟩:Sta)]).length.succ 2 none])];rw[hsn'];simp only[go_sem,eT,Yg,YQ,Yv,Ya8,Nat.succ_eq_add_one]
 obtain rfl:st=i:=Zo;rw[YaK]at f1;obtain⟨rfl,rfl,rfl⟩:[]=sr∧e=r'∧o=p':=by simpa[zgH,retR]using f1
 rw[Yab]at f2;subst f2;have dI:decide ((st:Int)<st)=false:=Yd Zo;cases acc with
 |nil=>
  dsimp only[zuD];simp(disch:=try exact Zp)only[go_sem,dI];refine AXa.go mixed (hΓ) (zfi) Zk ?_;simp(disch:=try exact Zp)only[go_sem];refine AXk.intro Zk ?_;simp(disch:=try exact Zp)only[go_sem];refine .agg rfl fun i x y hx hy=>?_;match i with
  |0=>cases hx;cases hy;exact .pure (.int _ _)
  |1=>cases hx;cases hy;exact .pure (.int _ _)
  |2=>cases hx;cases hy;exact .pure (.str _)
  |3=>cases hx;cases hy;exact .nil0
  |i+4=>simp at hx
 |cons y acc=>
  dsimp only[zuD];simp(disch:=try exact Zp)only[go_sem,dI];refine AXa.go mixed (hΓ) (zfi) Zk ?_;simp(disch:=try exact Zp)only[go_sem];refine AXk.intro Zk ?_;simp(disch:=try exact Zp)only[go_sem];refine .agg rfl fun i x z hx hy=>?_;match i with
  |0=>cases hx;cases hy;exact .pure (.int _ _)
  |1=>cases hx;cases hy;exact .pure (.int _ _)
  |2=>cases hx;cases hy;exact .pure (.str _)
  |3=>cases hx;cases hy;exact Xr (cs:=stas (y::acc)) rfl (by rw[zf6];show 0+(acc.length+1)*2≤_;simp) (by rw[YW,show (acc.length+1)*2=(stas (y::acc)).length from(zf6 (y::acc)).symm,Ym]) (zla _)
  |i+4=>simp at hx
end Go.Proofs
