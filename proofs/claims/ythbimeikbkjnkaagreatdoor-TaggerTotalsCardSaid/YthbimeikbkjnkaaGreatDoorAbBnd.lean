/- Bound methods. -/
import Derived.Test.YthbimeikbkjnkaaGreatDoorVM0
import Derived.Test.YthbimeikbkjnkaaGreatDoorAbMapI
set_option linter.all false
namespace Go.Ab
variable {C:Cfg}{P:Program}{env:Env}{H:Hp}
theorem vv_bnd(f:FuncId)(cs:List V):V.val (.bnd f cs)=.bnd f cs:=rfl
theorem vc_bnd(f:FuncId)(cs:List V):V.cond (.bnd f cs)=True:=rfl
theorem zyc(f:FuncId)(fs l:List V)(nd:Prop):callF C (.bnd f fs) l nd H=zcc C f (fs++l) nd H:=rfl
theorem nz_bnd(f:FuncId)(cs:List V):nz (.bnd f cs)=.bnd f cs:=rfl
theorem nil_bnd(f:FuncId)(cs:List V):aNil (.bnd f cs) H=⟨True,.bnd f cs,H,[],[]⟩:=rfl
theorem lend_bnd(f:FuncId)(cs:List V):lend H (.bnd f cs)=.bnd f cs:=rfl
theorem zvv(f:FuncId)(cs:List V):zdH (.bnd f cs)=[]:=rfl
theorem znH(f:FuncId)(x:Operand)(xs:List Operand):step1 C P env (.makeFunc (.func f) ⟨x::xs⟩ ⟨[]⟩) H=mkSR true (conds env (x::xs)) (.val H (.bnd f (vals env (x::xs)))) H:=by rw [←vals_eq, ←zgE];exact zZ rfl (by simp [Op.operands]) rfl
theorem rn_bnd {π:Nat→Nat}{N:Nat→Prop}(f f':FuncId)(cs cs':List V):Rn π N (.bnd f cs) (.bnd f' cs')↔f'=f∧LRel (Rn π N) cs cs':=by
 constructor
 ·intro h;cases h with
  |same h=>cases h
  |bnd hl h=>exact⟨rfl,hl,h⟩
 ·rintro⟨rfl,h⟩;exact .bnd h.1 h.2
attribute [go_sem] vv_bnd vc_bnd zyc nz_bnd nil_bnd lend_bnd zvv znH rn_bnd
end Go.Ab

namespace Go.Proofs
open Go.Ab Go.Cnt Go.Pl Go.Tg
set_option maxHeartbeats 8000000 in
set_option maxRecDepth 100000 in
theorem stS_N(r:Run)(u:Str)(j:Int)(q:Str)(lu:u.length≤1000000000)(lq:q.length≤1000000000):
 NCall Tryz.prog 42 [.str u,.int .i64 j,.str q,.ptr 1 0] [.cells (runC r),.cells [.ptr 0 0]] [0] (.str (tm r.f u q).1) ⟨[(0,.cells (runC ⟨r.m,r.cs,(tm r.f u q).2⟩)),(1,.cells [.ptr 0 0])],2⟩:=by
 have t1:ΔS 36 [.ptr 0 0,.str u,.str q] ⟨[(0,.cells (runC r)),(1,.cells [.ptr 0 0])],2⟩=some ⟨True,.str (tm r.f u q).1,⟨[(0,.cells (runC ⟨r.m,r.cs,(tm r.f u q).2⟩)),(1,.cells [.ptr 0 0])],2⟩,[0],[0]⟩:=zum 0 r u q _ 2 lu lq rfl rfl
 refine NCall.walkW (rs:=[.tmp 7]) [0,2,3,7] [] 2 [0] mixed (zh) (ΔS_ok) call42 Tryz.func42 rfl Tryz.ntmps42 rfl (by kernel_rfl) (by simp) (by simp) (by simp) (by simp) ?_
 simp (disch:=first|assumption|(push_cast<;>omega)|omega) only [go_sem,t1]
 generalize tm r.f u q=z
 obtain⟨z1,z2⟩:=z
 dsimp only
 refine⟨rfl,[(7,.str z1)],Sub.of [] rfl ?_ ?_ (by decide) (fun b hb hw=>?_),?_⟩
 ·simp only [go_sem]
 ·simp only [go_sem]
 ·rcases b with _|_|b
  ·exact absurd (List.mem_singleton.2 rfl) hw
  ·rfl
  ·exact absurd hb (by simp)
 ·rfl
def zAu(args:List V)(H:Hp)(r:AR):Prop:=∃(c b:Nat) (s:Run) (u:Str) (j:Int) (q:Str),args=[.str u,.int .i64 j,.str q,.ptr c 0]∧b≠c∧H.get b=some (.cells (runC s))∧H.get c=some (.cells [.ptr b 0])∧(∀ b x,H.get b=some x→b<H.next)∧
 (u.length≤1000000000∧q.length≤1000000000)∧r=⟨True,.str (tm s.f u q).1,H.put b (.cells (runC ⟨s.m,s.cs,(tm s.f u q).2⟩)),[b,c],[b]⟩
theorem zuV:∀ args H r,zAu args H r→HCall Tryz.prog 42 args H r:=by
 rintro args H r ⟨c,b,s,u,j,q,rfl,hne,hb,hc,hk,⟨l1,l2⟩,rfl⟩;refine HCall.two (s:=s) (s':=⟨s.m,s.cs,(tm s.f u q).2⟩) (stS_N s u j q l1 l2) (.str _) b c H ?_ hne hb hc hk;refine⟨rfl,fun i x y hx hy=>?_⟩;match i with
 |0=>cases hx;cases hy;exact .same (.str _)
 |1=>cases hx;cases hy;exact .same (.int _ _)
 |2=>cases hx;cases hy;exact .same (.str _)
 |3=>cases hx;cases hy;exact .ptr (π:=fun i=>[b,c].getD i 0) (b:=1) (Nat.lt_succ_self _)
 |i+4=>simp at hx
theorem zuW {b c:Nat}{s:Run}{u:Str}{j:Int}{q:Str}{bs:List (Nat×Blk)}{n:Nat}(hne:b≠c)(hb:zaF bs b=some (.cells (runC s)))(hc:zaF bs c=some (.cells [.ptr b 0]))(hk:((keysB bs).all fun b=>decide (b<n))=true)
 (l1:u.length≤1000000000) (l2:q.length≤1000000000):
 conD zAu [.str u,.int .i64 j,.str q,.ptr c 0] ⟨bs,n⟩=some ⟨True,.str (tm s.f u q).1,(⟨bs,n⟩:Hp).put b (.cells (runC ⟨s.m,s.cs,(tm s.f u q).2⟩)),[b,c],[b]⟩:=by
 refine zaT ⟨c,b,s,u,j,q,rfl,hne,by rw [zbh];exact hb,by rw [zbh];exact hc,zbN hk,⟨l1,l2⟩,rfl⟩ fun r' ⟨c',b',s',u',j',q',e1,_,e2,e3,_,_,e4⟩=>?_
 simp only [List.cons.injEq,V.ptr.injEq,V.int.injEq,V.str.injEq,and_true,true_and]at e1
 obtain⟨rfl,rfl,rfl,rfl⟩:=e1
 rw [zbh,hc]at e3
 simp only [Option.some.injEq,Blk.cells.injEq,List.cons.injEq,V.ptr.injEq,and_true]at e3
 subst e3
 rw [zbh,hb]at e2
 simp only [Option.some.injEq,Blk.cells.injEq]at e2
 have:=zec e2
 subst this
 exact e4
noncomputable def ΔP:FuncId→List V→Hp→Option AR:=zcD 34 (conD (MethR mEnds)) (zcD 36 (conD (zui ziY)) (zcD 43 (conD (zui mPlus)) (zcD 42 (conD zAu) noΔ)))
theorem zeL:za4 Tryz.prog ΔP:=zau (zaS (methR_ok mEnds fun _ r h=>ends_N r h)) (zau (zaS (zgy ziY fun x r h=>zuH r x.1 x.2 h.1 h.2)) (zau (zaS (zgy mPlus fun x r h=>plus_N r x.1 x.2 h.1 h.2)) (zau (zaS zuV) zg)))
theorem ΔP_ends(b:Nat)(r:Run)(bs:List (Nat×Blk))(n:Nat)(h:r.m.tags.length≤1000000)(hb:zaF bs b=some (.cells (runC r)))(hk:((keysB bs).all fun b=>decide (b<n))=true):
 ΔP 34 [.ptr b 0] ⟨bs,n⟩=some ⟨True,.int .i64 r.m.tags.length,⟨bs,n⟩,[b],[]⟩:=methR_eq mEnds (x:=()) (s:=r) h hb hk
theorem zun(b:Nat)(r:Run)(p q:Str)(bs:List (Nat×Blk))(n:Nat)(lp:p.length≤1000000000)(lq:q.length≤1000000000)(hb:zaF bs b=some (.cells (runC r)))(hk:((keysB bs).all fun b=>decide (b<n))=true):
 ΔP 36 [.ptr b 0,.str p,.str q] ⟨bs,n⟩=some ⟨True,.str (tm r.f p q).1,(⟨bs,n⟩:Hp).put b (.cells (runC ⟨r.m,r.cs,(tm r.f p q).2⟩)),[b],[b]⟩:=zgz ziY (x:=(p,q)) (s:=r) ⟨lp,lq⟩ hb hk
theorem zpA(b:Nat)(r:Run)(p q:Str)(bs:List (Nat×Blk))(n:Nat)(lp:p.length≤1000000000)(lq:q.length≤1000000000)(hb:zaF bs b=some (.cells (runC r)))(hk:((keysB bs).all fun b=>decide (b<n))=true):
 ΔP 43 [.ptr b 0,.str p,.str q] ⟨bs,n⟩=some ⟨True,.str (ps r.f p q).1,(⟨bs,n⟩:Hp).put b (.cells (runC ⟨r.m,r.cs,(ps r.f p q).2⟩)),[b],[b]⟩:=zgz mPlus (x:=(p,q)) (s:=r) ⟨lp,lq⟩ hb hk
theorem zpz {b c:Nat}{s:Run}{u:Str}{j:Int}{q:Str}{bs:List (Nat×Blk)}{n:Nat}(hne:b≠c)(hb:zaF bs b=some (.cells (runC s)))(hc:zaF bs c=some (.cells [.ptr b 0]))(hk:((keysB bs).all fun b=>decide (b<n))=true)
 (l1:u.length≤1000000000) (l2:q.length≤1000000000):
 ΔP 42 [.str u,.int .i64 j,.str q,.ptr c 0] ⟨bs,n⟩=some ⟨True,.str (tm s.f u q).1,(⟨bs,n⟩:Hp).put b (.cells (runC ⟨s.m,s.cs,(tm s.f u q).2⟩)),[b,c],[b]⟩:=zuW hne hb hc hk l1 l2
theorem zg7 {m:Mdl}{bef:Nat→Option Str}(j c:Nat)(f:Int):∀ k,(row1 stS plS m [48] bef j c f k).1.length≤1000
 |0=>by simp [row1]
 |k+1=>by
  have ih:=zg7 (m:=m) (bef:=bef) j c f k;rw [row1];cases h:bef k with
  |none=>exact ih
  |some u=>dsimp only;rw [zkb];exact ps_len _ _ _
theorem zlB {m:Mdl}{bef:Nat→Option Str}(c:Nat)(f:Int):∀ k,∀ x∈(rowK stS plS m [48] bef c f k).1,x.length≤1000
 |0,x,h=>by simp [rowK]at h
 |k+1,x,h=>by
  rw [rowK]at h;rcases List.mem_append.1 h with h|h
  ·exact zlB c f k x h
  ·rw [List.mem_singleton.1 h];exact zg7 _ _ _ _
theorem znf {m:Mdl}{t:Nat}{l:List Str}(h:∀ x∈l,x.length≤1000):∀ i u,befT m [49] t l i=some u→u.length≤1000:=by
 intro i u e;unfold befT at e;split at e
 ·split at e
  ·cases e;simp
  ·cases e
 ·exact h u (List.mem_of_getElem? e)
theorem zmt(m:Mdl)(cs:List Nat):∀ t,∀ x∈(fwdT stS plS m [48] [49] cs t).1,x.length≤1000
 |0,x,h=>by simp [fwdT]at h
 |t+1,x,h=>zlB _ _ _ x h
theorem zmw {m:Mdl}{bef:Nat→Option Str}(f:Int):∀ k,(fin1 stS plS m [48] bef f k).1.length≤1000
 |0=>by simp [fin1]
 |k+1=>by
  have ih:=zmw (m:=m) (bef:=bef) f k;rw [fin1];cases h:bef k with
  |none=>exact ih
  |some u=>dsimp only;rw [ze2];exact ps_len _ _ _
theorem zng {m:Mdl}{t:Nat}{l:List Str}{i:Nat}(fst:Str){o:Option Str}(h:befT m fst t l i=o):∃ k,zdp (.int .i64 i) (befE m.tags.length t (.str fst) (l.map V.str)) 0=some (match o with|some u=>some (k,.str u)|none=>none):=by
 unfold befT at h;unfold befE;by_cases ht:t=0
 ·rw [if_pos ht]at h ⊢;rw [zdp,zwY];by_cases hi:i=m.tags.length
  ·rw [if_pos hi]at h;subst h;rw [decide_eq_true (by omega)];exact⟨0,rfl⟩
  ·rw [if_neg hi]at h;subst h;rw [decide_eq_false (by omega)];exact⟨0,rfl⟩
 ·rw [if_neg ht]at h ⊢;rw [zhz i 0 _ 0 (Nat.zero_le _),Nat.sub_zero,List.getElem?_map,h];cases o with
  |none=>exact⟨0,rfl⟩
  |some u=>exact⟨0+i,rfl⟩
theorem zcp(l:List Str):∀ x∈l.map V.str,Pure x:=fun x h=>by obtain⟨y,_,rfl⟩:=List.mem_map.1 h;exact .str y
end Go.Proofs

namespace Go.Proofs
open Go.Ab Go.Cnt Go.Pl Go.Tg
abbrev fwS(m:Mdl)(cs:List Nat)(t:Nat):List Str×Int:=fwdT stS plS m [48] [49] cs t
set_option maxHeartbeats 16000000 in
set_option maxRecDepth 100000 in
theorem fwdS_N(m:Mdl)(cs:List Nat)(hv:vmB m=true)(hf:Fit m)(hcl:cs.length≤1000)(hc:∀ i,i<cs.length→cs.getD i 0≤m.words.length)(hl:∀ i j,(nx m i j).length≤1000000000∧(em m i j).length≤1000000000):
 NCall Tryz.prog 41 [.ptr 0 0,.str [49],.str [48],.fn 42 [.ptr 1 0],.bnd 43 [.ptr 0 0]] [.cells (runC ⟨m,cs,0⟩),.cells [.ptr 0 0]] [0]
  (.str (finT stS plS m [48] [49] cs).1) ⟨[(0,.cells (runC ⟨m,cs,(finT stS plS m [48] [49] cs).2⟩)),(1,.cells [.ptr 0 0])],2⟩:=by
 obtain⟨v1,v2,v3,v4,v5,v6⟩:=zpC hv
 have htl:=hf.tl
 have hn:∀ i j,nx m i j=(nthR m.next i).getD j []:=fun i j=>rfl
 have he:∀ i j,em m i j=(nthR m.emit i).getD j []:=fun i j=>rfl
 obtain⟨R,hR⟩:∃ R,R=finT stS plS m [48] [49] cs:=⟨_,rfl⟩
 rw [←hR]
 obtain⟨M,hM⟩:∃ M,M=m:=⟨_,rfl⟩
 rw [←hM]at hR hn he hl
 obtain⟨T,W,N,E⟩:=m
 unfold runC
 dsimp only at v1 v2 v3 v4 hc htl ⊢
 have hMt:M.tags=T:=by rw [hM]
 have hMn:M.next=N:=by rw [hM]
 have hMe:M.emit=E:=by rw [hM]
 rw [hMn]at hn
 rw [hMe]at he
 have hM':=hM
 clear hM
 have qe:∀(bs:List (Nat×Blk)) (n:Nat) (f:Int),zaF bs 0=some (.cells [.fs (strs T) T.length,.fs (strs W) W.length,.fs (zJ N) N.length,.fs (zJ E) E.length,.fs (nats .i64 cs) cs.length,.int .i64 f])→((keysB bs).all fun b=>decide (b<n))=true→ΔP 34 [.ptr 0 0] ⟨bs,n⟩=some ⟨True,.int .i64 T.length,⟨bs,n⟩,[0],[]⟩:=fun bs n f h k=>ΔP_ends 0 ⟨⟨T,W,N,E⟩,cs,f⟩ bs n (by dsimp only;omega) h k
 refine NCall.walkW (rs:=[.tmp 10]) [0,1,2,3,4,10,11,13,14,15,16,17,18,19,20,21,22,23,32,33,34,35,44,45,46,51,52,53,61,103,104,105,113] [] 2 [0] mixed (zh) (zeL) call41 Tryz.func41 rfl Tryz.ntmps41 rfl (by kernel_rfl) (by simp) (by simp) (by simp) (by simp) ?_
 have q1:=qe [(2,.mp [] 0),(0,.cells [.fs (strs T) T.length,.fs (strs W) W.length,.fs (zJ N) N.length,.fs (zJ E) E.length,.fs (nats .i64 cs) cs.length,.int .i64 0]),(1,.cells [.ptr 0 0])] 3 0 rfl rfl
 simp (disch:=first|assumption|(push_cast<;>omega)|omega) only [go_sem,q1,zs9,List.nil_append]
 refine AXs.loop mixed (zh) (zeL) (fun t:Nat=>[(0,.ptr 0 0),(2,.str [48]),(3,.fn 42 [.ptr 1 0]),(4,.bnd 43 [.ptr 0 0]),(11,.map 2),(32,.fs (nats .i64 cs) cs.length),(33,.int .i64 cs.length),(34,.int .i64 t)])
  (fun t=>⟨[(2,.mp (befE T.length t (.str [49]) ((fwS M cs t).1.map V.str)) (befC t ((fwS M cs t).1.map V.str))),(0,.cells [.fs (strs T) T.length,.fs (strs W) W.length,.fs (zJ N) N.length,.fs (zJ E) E.length,.fs (nats .i64 cs) cs.length,.int .i64 (fwS M cs t).2]),(1,.cells [.ptr 0 0])],3⟩) (fun t=>t≤cs.length) (fun t=>cs.length - t) 0 (by kernel_rfl) (Nat.zero_le _) (Sub.of [] rfl ?_ ?_ (by decide) (fun b hb hw=>by rcases b with _|_|b<;>first|rfl|exact absurd (List.mem_singleton.2 rfl) hw|exact absurd hb (by simp))) ?_
 ·simp only [go_sem]
 ·simp only [go_sem,zzG,zzI]
  exact⟨zev 1 (zhR (n:=T.length) (t:=0) (v:=.str [49]) (l:=[]) (.str _) (fun x h=>by cases h)),rfl⟩
 intro t h1
 simp (disch:=first|assumption|(push_cast<;>omega)|omega) only [go_sem]
 refine AXc.introP (fun h2=>?_) (fun h2=>?_)
 ·have ht:t<cs.length:=by omega
  have hct:=hc t ht
  have ef:fwS M cs (t+1)=rowK stS plS M [48] (befT M [49] t (fwS M cs t).1) (cs.getD t 0) (fwS M cs t).2 M.tags.length:=rfl
  have hbo:∀ i u,befT M [49] t (fwS M cs t).1 i=some u→u.length≤1000:=znf (m:=M) (t:=t) (zmt M cs t)
  have hfind:=fun i=>zng (m:=M) (t:=t) (l:=(fwS M cs t).1) (i:=i) [49] rfl
  rw [hMt]at ef hfind
  have hpe:zAz (befE T.length t (.str [49]) ((fwS M cs t).1.map V.str)):=zhR (.str _) (zcp _)
  generalize hes:befE T.length t (.str [49]) ((fwS M cs t).1.map V.str)=es at hfind hpe ⊢
  generalize hec:befC t ((fwS M cs t).1.map V.str)=ec
  generalize hbf:befT M [49] t (fwS M cs t).1=bf at ef hbo hfind
  generalize (fwS M cs t).2=f0 at ef ⊢
  generalize hcc:cs.getD t 0=c at hct ef ⊢
  simp (disch:=first|assumption|(push_cast<;>omega)|omega) only [go_sem,hcc]
  (repeat refine sdC ?_)
  refine AXs.loop mixed (zh) (zeL) (fun j:Nat=>[(0,.ptr 0 0),(2,.str [48]),(3,.fn 42 [.ptr 1 0]),(4,.bnd 43 [.ptr 0 0]),(11,.map 2),(32,.fs (nats .i64 cs) cs.length),(33,.int .i64 cs.length),(34,.int .i64 t),(13,.int .i64 c),(14,.map 3),(44,.int .i64 T.length),(45,.int .i64 j)])
   (fun j=>⟨[(3,.mp (mpI 0 ((rowK stS plS M [48] bf c f0 j).1.map V.str)) j),(2,.mp es ec),(0,.cells [.fs (strs T) T.length,.fs (strs W) W.length,.fs (zJ N) N.length,.fs (zJ E) E.length,.fs (nats .i64 cs) cs.length,.int .i64 (rowK stS plS M [48] bf c f0 j).2]),(1,.cells [.ptr 0 0])],4⟩) (fun j=>j≤T.length) (fun j=>T.length - j) 0 (by kernel_rfl) (Nat.zero_le _) (Sub.of [] rfl ?_ ?_ (by decide) (fun b hb hw=>by rcases b with _|_|b<;>first|rfl|exact absurd (List.mem_singleton.2 rfl) hw|exact absurd hb (by simp))) ?_
  ·simp only [go_sem]
  ·simp only [go_sem]
   exact⟨zev 0 (fun e h=>by cases h),zev ec hpe,rfl⟩
  intro j h3
  simp (disch:=first|assumption|(push_cast<;>omega)|omega) only [go_sem]
  refine AXc.introP (fun h4=>?_) (fun h4=>?_)
  ·have hj:j<T.length:=by omega
   have er:rowK stS plS M [48] bf c f0 (j+1)=((rowK stS plS M [48] bf c f0 j).1++[(row1 stS plS M [48] bf j c (rowK stS plS M [48] bf c f0 j).2 (T.length+1)).1],(row1 stS plS M [48] bf j c (rowK stS plS M [48] bf c f0 j).2 (T.length+1)).2):=by rw [←hMt];rfl
   have erl:=zeW stS plS M [48] bf c f0 j
   generalize rowK stS plS M [48] bf c f0 j=rk at er erl ⊢
   obtain⟨rl,f1⟩:=rk
   dsimp only at er erl ⊢
   have q2:=qe [(3,.mp (mpI 0 (rl.map V.str)) j),(2,.mp es ec),(0,.cells [.fs (strs T) T.length,.fs (strs W) W.length,.fs (zJ N) N.length,.fs (zJ E) E.length,.fs (nats .i64 cs) cs.length,.int .i64 f1]),(1,.cells [.ptr 0 0])] 4 f1 rfl rfl
   simp (disch:=first|assumption|(push_cast<;>omega)|omega) only [go_sem,q2]
   refine AXs.loop mixed (zh) (zeL) (fun i:Nat=>[(0,.ptr 0 0),(2,.str [48]),(3,.fn 42 [.ptr 1 0]),(4,.bnd 43 [.ptr 0 0]),(11,.map 2),(32,.fs (nats .i64 cs) cs.length),(33,.int .i64 cs.length),(34,.int .i64 t),(13,.int .i64 c),(14,.map 3),(44,.int .i64 T.length),(45,.int .i64 j),(15,.int .i64 j),(16,.str (row1 stS plS M [48] bf j c f1 i).1),(51,.int .i64 ((T.length:Int)+1)),(52,.int .i64 i)])
    (fun i=>⟨[(3,.mp (mpI 0 (rl.map V.str)) j),(2,.mp es ec),(0,.cells [.fs (strs T) T.length,.fs (strs W) W.length,.fs (zJ N) N.length,.fs (zJ E) E.length,.fs (nats .i64 cs) cs.length,.int .i64 (row1 stS plS M [48] bf j c f1 i).2]),(1,.cells [.ptr 0 0])],4⟩) (fun i=>i≤T.length+1) (fun i=>T.length+1 - i) 0 (by kernel_rfl) (Nat.zero_le _) (Sub.of [] rfl ?_ ?_ (by decide) (fun b hb hw=>by rcases b with _|_|b<;>first|rfl|exact absurd (List.mem_singleton.2 rfl) hw|exact absurd hb (by simp))) ?_
   ·simp only [go_sem]
    rfl
   ·simp only [go_sem]
    exact⟨zev j (zdk 0 _ (zcp _)),zev ec hpe,rfl⟩
   intro i h5
   simp (disch:=first|assumption|(push_cast<;>omega)|omega) only [go_sem]
   refine AXc.introP (fun h6=>?_) (fun h6=>?_)
   ·have hi:i<T.length+1:=by omega
    have erN:bf i=none→row1 stS plS M [48] bf j c f1 (i+1)=row1 stS plS M [48] bf j c f1 i:=fun h=>by rw [row1,h]
    have erS:∀ u,bf i=some u→row1 stS plS M [48] bf j c f1 (i+1)=one stS plS (row1 stS plS M [48] bf j c f1 i).2 (row1 stS plS M [48] bf j c f1 i).1 u [j] (nx M i j) (em M j c):=fun u h=>by rw [row1,h]
    have okv:(row1 stS plS M [48] bf j c f1 i).1.length≤1000:=zg7 (m:=M) (bef:=bf) j c f1 i
    obtain⟨kk,hk⟩:=hfind i
    generalize row1 stS plS M [48] bf j c f1 i=vf at erN erS okv ⊢
    obtain⟨w,f⟩:=vf
    dsimp only at erN erS okv ⊢
    cases hb:bf i with
    |none=>
     have er1:=erN hb
     rw [hb]at hk
     dsimp only at hk
     simp (disch:=first|assumption|(push_cast<;>omega)|omega) only [go_sem,hk]
     refine zk (i+1) (by omega) (by omega) ?_
     rw [er1]
     refine Sub.of [] rfl ?_ ?_ (by decide) (fun b hb hw=>by rcases b with _|_|b<;>first|rfl|exact absurd (List.mem_singleton.2 rfl) hw|exact absurd hb (by simp))
     ·simp only [go_sem]
      simp
     ·simp only [go_sem]
      exact⟨zev j (zdk 0 _ (zcp _)),zev ec hpe⟩
    |some u=>
     have er1:=erS u hb
     rw [hb]at hk
     have oku:=hbo i u hb
     dsimp only at hk
     have n1:=zcF N i (by omega)
     have n2:=v2 i (by omega)
     have n3:=zcF E j (by omega)
     have n4:=v4 j hj
     have l1:=(hl i j).1
     have l2:=(hl j c).2
     rw [hn]at l1 er1
     rw [he]at l2 er1
     generalize hA:(nthR N i).getD j []=A at l1 er1
     generalize hB:(nthR E j).getD c []=B at l2 er1
     rw [zkb]at er1
     have t1:ΔP 36 [.ptr 0 0,.str A,.str B] ⟨[(3,.mp (mpI 0 (rl.map V.str)) j),(2,.mp es ec),(0,.cells [.fs (strs T) T.length,.fs (strs W) W.length,.fs (zJ N) N.length,.fs (zJ E) E.length,.fs (nats .i64 cs) cs.length,.int .i64 f]),(1,.cells [.ptr 0 0])],4⟩=some ⟨True,.str (tm f A B).1,⟨[(3,.mp (mpI 0 (rl.map V.str)) j),(2,.mp es ec),(0,.cells [.fs (strs T) T.length,.fs (strs W) W.length,.fs (zJ N) N.length,.fs (zJ E) E.length,.fs (nats .i64 cs) cs.length,.int .i64 (tm f A B).2]),(1,.cells [.ptr 0 0])],4⟩,[0],[0]⟩:=
      zun 0 ⟨⟨T,W,N,E⟩,cs,f⟩ A B _ 4 l1 l2 rfl rfl
     have lx:=zuE f A B
     generalize tm f A B=x at t1 lx er1
     obtain⟨x1,x2⟩:=x
     dsimp only at t1 lx er1
     have t2:ΔP 42 [.str u,.int .i64 (j:Nat),.str x1,.ptr 1 0] ⟨[(3,.mp (mpI 0 (rl.map V.str)) j),(2,.mp es ec),(0,.cells [.fs (strs T) T.length,.fs (strs W) W.length,.fs (zJ N) N.length,.fs (zJ E) E.length,.fs (nats .i64 cs) cs.length,.int .i64 x2]),(1,.cells [.ptr 0 0])],4⟩=some ⟨True,.str (tm x2 u x1).1,⟨[(3,.mp (mpI 0 (rl.map V.str)) j),(2,.mp es ec),(0,.cells [.fs (strs T) T.length,.fs (strs W) W.length,.fs (zJ N) N.length,.fs (zJ E) E.length,.fs (nats .i64 cs) cs.length,.int .i64 (tm x2 u x1).2]),(1,.cells [.ptr 0 0])],4⟩,[0,1],[0]⟩:=
      zpz (b:=0) (c:=1) (s:=⟨⟨T,W,N,E⟩,cs,x2⟩) (u:=u) (q:=x1) (n:=4) (by decide) rfl rfl rfl (by omega) (by omega)
     have ly:=zuE x2 u x1
     generalize tm x2 u x1=y at t2 ly er1
     obtain⟨y1,y2⟩:=y
     dsimp only at t2 ly er1
     have t3:ΔP 43 [.ptr 0 0,.str w,.str y1] ⟨[(3,.mp (mpI 0 (rl.map V.str)) j),(2,.mp es ec),(0,.cells [.fs (strs T) T.length,.fs (strs W) W.length,.fs (zJ N) N.length,.fs (zJ E) E.length,.fs (nats .i64 cs) cs.length,.int .i64 y2]),(1,.cells [.ptr 0 0])],4⟩=some ⟨True,.str (ps y2 w y1).1,⟨[(3,.mp (mpI 0 (rl.map V.str)) j),(2,.mp es ec),(0,.cells [.fs (strs T) T.length,.fs (strs W) W.length,.fs (zJ N) N.length,.fs (zJ E) E.length,.fs (nats .i64 cs) cs.length,.int .i64 (ps y2 w y1).2]),(1,.cells [.ptr 0 0])],4⟩,[0],[0]⟩:=
      zpA 0 ⟨⟨T,W,N,E⟩,cs,y2⟩ w y1 _ 4 (by omega) (by omega) rfl rfl
     generalize ps y2 w y1=g at t3 er1
     obtain⟨g1,g2⟩:=g
     dsimp only at t3 er1
     simp (disch:=first|assumption|(push_cast<;>omega)|omega) only [go_sem,hk,n1,n3,hA,hB,t1,t2,t3]
     refine⟨⟨by omega,by omega⟩,by omega,⟨by omega,by omega⟩,by omega,⟨by omega,by omega⟩,by omega,⟨by omega,by omega⟩,by omega,rfl,rfl,rfl,?_⟩
     refine AXk.intro (by kernel_rfl) ?_
     simp (disch:=first|assumption|(push_cast<;>omega)|omega) only [go_sem]
     refine zk (i+1) (by omega) (by omega) ?_
     rw [er1]
     refine Sub.of [] rfl ?_ ?_ (by decide) (fun b hb hw=>by rcases b with _|_|b<;>first|rfl|exact absurd (List.mem_singleton.2 rfl) hw|exact absurd hb (by simp))
     ·simp only [go_sem]
      simp
     ·simp only [go_sem]
      exact⟨zev j (zdk 0 _ (zcp _)),zev ec hpe⟩
   ·obtain rfl:i=T.length+1:=by omega
    have hnew:zdp (.int .i64 j) (mpI 0 (rl.map V.str)) 0=some none:=by rw [zhz j 0 _ 0 (Nat.zero_le _),Nat.sub_zero,List.getElem?_eq_none (by rw [List.length_map];omega)]
    have happ:=ziW 0 (rl.map V.str) (.str (row1 stS plS M [48] bf j c f1 (T.length+1)).1)
    rw [Nat.zero_add,List.length_map,erl]at happ
    generalize row1 stS plS M [48] bf j c f1 (T.length+1)=vf at happ er ⊢
    obtain⟨w,f⟩:=vf
    dsimp only at happ er ⊢
    have happ':mpI 0 (rl.map V.str)++[(j,.int .i64 (j:Nat),.str w)]=mpI 0 ((rl++[w]).map V.str):=by rw [List.map_append];exact happ
    simp only [go_sem]
    refine AXa.go mixed (zh) (zeL) (by kernel_rfl) ?_
    simp (disch:=first|assumption|(push_cast<;>omega)|omega) only [go_sem,hnew,happ']
    refine zk (j+1) (by omega) (by omega) ?_
    rw [er]
    refine Sub.of [] rfl ?_ ?_ (by decide) (fun b hb hw=>by rcases b with _|_|b<;>first|rfl|exact absurd (List.mem_singleton.2 rfl) hw|exact absurd hb (by simp))
    ·simp only [go_sem]
     simp
    ·simp only [go_sem]
     exact⟨zev (j+1) (zdk 0 _ (zcp _)),zev ec hpe⟩
  ·obtain rfl:j=T.length:=by omega
   have erl:=zeW stS plS M [48] bf c f0 T.length
   simp only [go_sem]
   refine AXa.go mixed (zh) (zeL) (by kernel_rfl) ?_
   simp (disch:=first|assumption|(push_cast<;>omega)|omega) only [go_sem]
   refine zk (t+1) (by omega) (by omega) ?_
   rw [ef]
   generalize rowK stS plS M [48] bf c f0 T.length=rk at erl ⊢
   obtain⟨rl,f1⟩:=rk
   dsimp only at erl ⊢
   rw [zzH,zzJ,List.length_map,erl]
   refine Sub.of [(2,3)] rfl ?_ ?_ (by decide) (fun b hb hw=>by rcases b with _|_|b<;>first|rfl|exact absurd (List.mem_singleton.2 rfl) hw|exact absurd hb (by simp))
   ·simp only [go_sem]
    simp
   ·simp only [go_sem]
    exact zev T.length (zdk 0 _ (zcp _))
 ·obtain rfl:t=cs.length:=by omega
  have ef:finT stS plS M [48] [49] cs=fin1 stS plS M [48] (befT M [49] cs.length (fwS M cs cs.length).1) (fwS M cs cs.length).2 (M.tags.length+1):=rfl
  have hbo:∀ i u,befT M [49] cs.length (fwS M cs cs.length).1 i=some u→u.length≤1000:=znf (m:=M) (t:=cs.length) (zmt M cs cs.length)
  have hfind:=fun i=>zng (m:=M) (t:=cs.length) (l:=(fwS M cs cs.length).1) (i:=i) [49] rfl
  have hpe:zAz (befE T.length cs.length (.str [49]) ((fwS M cs cs.length).1.map V.str)):=zhR (.str _) (zcp _)
  rw [hMt]at ef hfind
  rw [ef]at hR
  clear ef
  generalize hes:befE T.length cs.length (.str [49]) ((fwS M cs cs.length).1.map V.str)=es at hfind hpe ⊢
  generalize hec:befC cs.length ((fwS M cs cs.length).1.map V.str)=ec
  generalize hbf:befT M [49] cs.length (fwS M cs cs.length).1=bf at hR hbo hfind
  generalize (fwS M cs cs.length).2=f0 at hR ⊢
  have q2:=qe [(2,.mp es ec),(0,.cells [.fs (strs T) T.length,.fs (strs W) W.length,.fs (zJ N) N.length,.fs (zJ E) E.length,.fs (nats .i64 cs) cs.length,.int .i64 f0]),(1,.cells [.ptr 0 0])] 3 f0 rfl rfl
  simp only [go_sem]
  refine AXa.go mixed (zh) (zeL) (by kernel_rfl) ?_
  simp (disch:=first|assumption|(push_cast<;>omega)|omega) only [go_sem,q2]
  refine AXs.loop mixed (zh) (zeL) (fun i:Nat=>[(0,.ptr 0 0),(3,.fn 42 [.ptr 1 0]),(4,.bnd 43 [.ptr 0 0]),(11,.map 2),(20,.str (fin1 stS plS M [48] bf f0 i).1),(103,.int .i64 ((T.length:Int)+1)),(104,.int .i64 i)])
   (fun i=>⟨[(2,.mp es ec),(0,.cells [.fs (strs T) T.length,.fs (strs W) W.length,.fs (zJ N) N.length,.fs (zJ E) E.length,.fs (nats .i64 cs) cs.length,.int .i64 (fin1 stS plS M [48] bf f0 i).2]),(1,.cells [.ptr 0 0])],3⟩) (fun i=>i≤T.length+1) (fun i=>T.length+1 - i) 0 (by kernel_rfl) (Nat.zero_le _) (Sub.of [] rfl ?_ ?_ (by decide) (fun b hb hw=>by rcases b with _|_|b<;>first|rfl|exact absurd (List.mem_singleton.2 rfl) hw|exact absurd hb (by simp))) ?_
  ·simp only [go_sem]
   rfl
  ·simp only [go_sem]
   exact⟨zev ec hpe,rfl⟩
  intro i h5
  simp (disch:=first|assumption|(push_cast<;>omega)|omega) only [go_sem]
  refine AXc.introP (fun h6=>?_) (fun h6=>?_)
  ·have hi:i<T.length+1:=by omega
   have erN:bf i=none→fin1 stS plS M [48] bf f0 (i+1)=fin1 stS plS M [48] bf f0 i:=fun h=>by rw [fin1,h]
   have erS:∀ u,bf i=some u→fin1 stS plS M [48] bf f0 (i+1)=one' stS plS (fin1 stS plS M [48] bf f0 i).2 (fin1 stS plS M [48] bf f0 i).1 u (nx M i T.length):=fun u h=>by rw [fin1,h,hMt]
   have okv:(fin1 stS plS M [48] bf f0 i).1.length≤1000:=zmw (m:=M) (bef:=bf) f0 i
   obtain⟨kk,hk⟩:=hfind i
   generalize fin1 stS plS M [48] bf f0 i=vf at erN erS okv ⊢
   obtain⟨w,f⟩:=vf
   dsimp only at erN erS okv ⊢
   cases hb:bf i with
   |none=>
    have er1:=erN hb
    rw [hb]at hk
    dsimp only at hk
    simp (disch:=first|assumption|(push_cast<;>omega)|omega) only [go_sem,hk]
    refine zk (i+1) (by omega) (by omega) ?_
    rw [er1]
    refine Sub.of [] rfl ?_ ?_ (by decide) (fun b hb hw=>by rcases b with _|_|b<;>first|rfl|exact absurd (List.mem_singleton.2 rfl) hw|exact absurd hb (by simp))
    ·simp only [go_sem]
     simp
    ·simp only [go_sem]
     exact zev ec hpe
   |some u=>
    have er1:=erS u hb
    rw [hb]at hk
    have oku:=hbo i u hb
    dsimp only at hk
    have n1:=zcF N i (by omega)
    have n2:=v2 i (by omega)
    have l1:=(hl i T.length).1
    rw [hn]at l1 er1
    generalize hA:(nthR N i).getD T.length []=A at l1 er1
    rw [ze2]at er1
    have q3:=qe [(2,.mp es ec),(0,.cells [.fs (strs T) T.length,.fs (strs W) W.length,.fs (zJ N) N.length,.fs (zJ E) E.length,.fs (nats .i64 cs) cs.length,.int .i64 f]),(1,.cells [.ptr 0 0])] 3 f rfl rfl
    have t2:ΔP 42 [.str u,.int .i64 (-1),.str A,.ptr 1 0] ⟨[(2,.mp es ec),(0,.cells [.fs (strs T) T.length,.fs (strs W) W.length,.fs (zJ N) N.length,.fs (zJ E) E.length,.fs (nats .i64 cs) cs.length,.int .i64 f]),(1,.cells [.ptr 0 0])],3⟩=some ⟨True,.str (tm f u A).1,⟨[(2,.mp es ec),(0,.cells [.fs (strs T) T.length,.fs (strs W) W.length,.fs (zJ N) N.length,.fs (zJ E) E.length,.fs (nats .i64 cs) cs.length,.int .i64 (tm f u A).2]),(1,.cells [.ptr 0 0])],3⟩,[0,1],[0]⟩:=
     zpz (b:=0) (c:=1) (s:=⟨⟨T,W,N,E⟩,cs,f⟩) (u:=u) (q:=A) (n:=3) (by decide) rfl rfl rfl (by omega) (by omega)
    have ly:=zuE f u A
    generalize tm f u A=y at t2 ly er1
    obtain⟨y1,y2⟩:=y
    dsimp only at t2 ly er1
    have t3:ΔP 43 [.ptr 0 0,.str w,.str y1] ⟨[(2,.mp es ec),(0,.cells [.fs (strs T) T.length,.fs (strs W) W.length,.fs (zJ N) N.length,.fs (zJ E) E.length,.fs (nats .i64 cs) cs.length,.int .i64 y2]),(1,.cells [.ptr 0 0])],3⟩=some ⟨True,.str (ps y2 w y1).1,⟨[(2,.mp es ec),(0,.cells [.fs (strs T) T.length,.fs (strs W) W.length,.fs (zJ N) N.length,.fs (zJ E) E.length,.fs (nats .i64 cs) cs.length,.int .i64 (ps y2 w y1).2]),(1,.cells [.ptr 0 0])],3⟩,[0],[0]⟩:=
     zpA 0 ⟨⟨T,W,N,E⟩,cs,y2⟩ w y1 _ 3 (by omega) (by omega) rfl rfl
    generalize ps y2 w y1=g at t3 er1
    obtain⟨g1,g2⟩:=g
    dsimp only at t3 er1
    simp (disch:=first|assumption|(push_cast<;>omega)|omega) only [go_sem,hk,n1,hA,q3,t2,t3]
    (repeat refine sdC ?_)
    simp (disch:=first|assumption|(push_cast<;>omega)|omega) only [go_sem]
    refine zk (i+1) (by omega) (by omega) ?_
    rw [er1]
    refine Sub.of [] rfl ?_ ?_ (by decide) (fun b hb hw=>by rcases b with _|_|b<;>first|rfl|exact absurd (List.mem_singleton.2 rfl) hw|exact absurd hb (by simp))
    ·simp only [go_sem]
     simp
    ·simp only [go_sem]
     exact zev ec hpe
  ·obtain rfl:i=T.length+1:=by omega
   rw [←hR]
   obtain⟨r1,r3⟩:=R
   dsimp only
   simp only [go_sem]
   refine AXa.go mixed (zh) (zeL) (by kernel_rfl) ?_
   simp (disch:=first|assumption|(push_cast<;>omega)|omega) only [go_sem]
   refine⟨[(10,.str r1)],Sub.of [] rfl ?_ ?_ (by decide) (fun b hb hw=>by rcases b with _|_|b<;>first|rfl|exact absurd (List.mem_singleton.2 rfl) hw|exact absurd hb (by simp)),?_⟩
   ·simp only [go_sem]
   ·simp only [go_sem]
   ·rfl
end Go.Proofs
