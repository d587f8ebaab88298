/- The statement's own function: Score. -/
import Derived.Test.YthbimeikbkjnkaaGreatDoorT6
import Derived.Test.YthbimeikbkjnkaaGreatDoorCards
import Derived.Test.YthbimeikbkjnkaaGreatDoorTie
import Derived.Test.YthbimeikbkjnkaaGreatDoorS0Types
import Derived.ProofKit
import Derived.LaidMore
import Derived.OpenShut
import Derived.Stop.Joined
import Derived.Stop.LaidErr
import Derived.SevenTiedAt
import Derived.Lib.LaidTab
import Derived.Carry
set_option linter.all false
namespace Go.Proofs
open Go.Ab Go.Cnt Go.Pl Go.Tg
noncomputable def cShort:List V→Option PR:=zu (fun M:List (List Str)=>[.fs (zI M) M.length]) (fun M=>M.length≤1000000∧(∀ r∈M,r.length≤1000000)∧∀ r∈M,∀ s∈r,s.length≤1000000) fun M=>.ret (.bool (zfx M))
theorem zlU(M:List (List Str))(h1:M.length≤1000000)(h2:∀ r∈M,r.length≤1000000)(h3:∀ r∈M,∀ s∈r,s.length≤1000000):cShort [.fs (zI M) M.length]=some (.ret (.bool (zfx M))):=
 zn (pat:=fun M:List (List Str)=>[.fs (zI M) M.length]) (fun x y h=>by simp at h;exact zbT h.1) M ⟨h1,h2,h3⟩
theorem zwF:∀ args r,cShort args=some r→PCall Tryz.prog 49 args r:=zk fun M h=>short_ok M h.1 h.2.1 h.2.2
set_option maxHeartbeats 4000000 in
theorem zqa(m:Mdl)(ws:List Str)(hf:Fit m)(hw:ws.length≤1000000):PCall Tryz.prog 25 [mdlV m,.fs (strs ws) ws.length] (.ret (.bool (zgx m ws))):=by
 have e1:=zlU m.next (Nat.le_trans hf.nl (by omega)) hf.nr hf.ns;have e2:=zlU m.emit (Nat.le_trans hf.el (by omega)) hf.er hf.es;have hb:(decide (3<(m.tags.length:Int))||decide (4<(ws.length:Int)))= !(decide (m.tags.length≤3)&&decide (ws.length≤4)):=by rw [Bool.eq_iff_iff];simp only [Bool.or_eq_true,Bool.not_eq_true',decide_eq_true_eq,Bool.and_eq_false_iff,decide_eq_false_iff_not];omega
 obtain⟨R,hR⟩:∃ R,R=zgx m ws:=⟨_,rfl⟩;rw [←hR];unfold zgx at hR;refine PCall.walk (rs:=[.tmp 4]) [0,1,2,4,13] [25] mixed (zf zwF zh) (zg) call25 Tryz.func25 rfl Tryz.ntmps25 rfl (by kernel_rfl) (by simp) (by simp [push_cast,zbQ]) ?_;obtain⟨T,W,N,E⟩:=m;dsimp only at e1 e2 hb hR;simp (disch:=first|assumption|(push_cast<;>omega)|omega) only [go_sem,mdlV];rw [hb];cases hc:(decide (T.length≤3)&&decide (ws.length≤4))with
 |false=>
  rw [hc,Bool.false_and]at hR;rw [hR];simp (disch:=first|assumption|(push_cast<;>omega)|omega) only [go_sem]
 |true=>
  rw [hc,Bool.true_and]at hR;rw [hR];simp (disch:=first|assumption|(push_cast<;>omega)|omega) only [go_sem,e1,e2]
noncomputable def zpl:List V→Option PR:=zu (fun p:Mdl×List Str=>[mdlV p.1,.fs (strs p.2) p.2.length]) (fun p=>Fit p.1∧p.2.length≤1000000) fun p=>.ret (.bool (zgx p.1 p.2))
theorem mw_inj(x y:Mdl×List Str)(h:[mdlV x.1,V.fs (strs x.2) x.2.length]=[mdlV y.1,V.fs (strs y.2) y.2.length]):x=y:=by simp only [List.cons.injEq,V.fs.injEq,and_true]at h;exact Prod.ext (zc6 h.1) (zao h.2.1)
theorem znW(m:Mdl)(ws:List Str)(hf:Fit m)(hw:ws.length≤1000000):zpl [mdlV m,.fs (strs ws) ws.length]=some (.ret (.bool (zgx m ws))):=
 zn (pat:=fun p:Mdl×List Str=>[mdlV p.1,.fs (strs p.2) p.2.length]) mw_inj (m,ws) ⟨hf,hw⟩
theorem znV:∀ args r,zpl args=some r→PCall Tryz.prog 25 args r:=zk fun p h=>zqa p.1 p.2 h.1 h.2
def zqT(e f:Int)(m:Mdl)(ws:List Str):Bool:=(decide (e=2)||decide (f=2))&& !zgx m ws
set_option maxHeartbeats 4000000 in
theorem zuY(e f:Int)(m:Mdl)(ws:List Str)(hf:Fit m)(hw:ws.length≤1000000):PCall Tryz.prog 18 [.int .i64 e,.int .i64 f,mdlV m,.fs (strs ws) ws.length] (.ret (.bool (zqT e f m ws))):=by
 have e1:=znW m ws hf hw;obtain⟨R,hR⟩:∃ R,R=zqT e f m ws:=⟨_,rfl⟩;rw [←hR];unfold zqT at hR;rw [hR];refine PCall.walk (rs:=[.tmp 8]) [0,1,2,3,6,8] [25] mixed (zf znV zh) (zg) call18 Tryz.func18 rfl Tryz.ntmps18 rfl (by kernel_rfl) (by simp) (by simp [push_cast,zbQ]) ?_;generalize zgx m ws=sb at e1;obtain⟨T,W,N,E⟩:=m;unfold mdlV at e1 ⊢;dsimp only at e1 ⊢;simp (disch:=first|assumption|(push_cast<;>omega)|omega) only [go_sem,e1]
noncomputable def zxo:List V→Option PR:=zu (fun p:Int×Int×Mdl×List Str=>[.int .i64 p.1,.int .i64 p.2.1,mdlV p.2.2.1,.fs (strs p.2.2.2) p.2.2.2.length]) (fun p=>Fit p.2.2.1∧p.2.2.2.length≤1000000) fun p=>.ret (.bool (zqT p.1 p.2.1 p.2.2.1 p.2.2.2))
theorem zsv(e f:Int)(m:Mdl)(ws:List Str)(hf:Fit m)(hw:ws.length≤1000000):zxo [.int .i64 e,.int .i64 f,mdlV m,.fs (strs ws) ws.length]=some (.ret (.bool (zqT e f m ws))):=
 zn (pat:=fun p:Int×Int×Mdl×List Str=>[.int .i64 p.1,.int .i64 p.2.1,mdlV p.2.2.1,.fs (strs p.2.2.2) p.2.2.2.length]) (fun x y h=>by simp only [List.cons.injEq,V.fs.injEq,V.int.injEq,and_true,true_and]at h;exact Prod.ext h.1 (Prod.ext h.2.1 (Prod.ext (zc6 h.2.2.1) (zao h.2.2.2.1)))) (e,f,m,ws) ⟨hf,hw⟩
theorem zsu:∀ args r,zxo args=some r→PCall Tryz.prog 18 args r:=zk fun p h=>zuY p.1 p.2.1 p.2.2.1 p.2.2.2 h.1 h.2
structure InM(m:Mdl)(u:List Str):Prop where
 tl:m.tags.length≤1000000000000000
 wl:m.words.length≤1000000000000000
 nl:m.next.length≤1000000000000000
 el:m.emit.length≤1000000000000000
 ts:∀ s∈m.tags,s.length≤1000000000000000
 ws:∀ s∈m.words,s.length≤1000000000000000
 l:u.length≤1000000000000000
 s:∀ s∈u,s.length≤1000000000000000
theorem zo2 {M:List (List Str)}(h:∀ r∈M,∀ s∈r,s.length≤12)(i j:Nat):((nthR M i).getD j []).length≤1000000000:=by
 by_cases hi:i<M.length
 ·by_cases hj:j<(nthR M i).length
  ·exact Nat.le_trans (h _ (rowR.nth_mem hi) _ (zcx hj)) (by omega)
  ·rw [List.getD_eq_getElem?_getD,List.getElem?_eq_none (by omega)];simp
 ·have:nthR M i=[]:=by
   show M.getD i []=[]
   rw [List.getD_eq_getElem?_getD,List.getElem?_eq_none (by omega)];rfl
  rw [this];simp
theorem fitB_fit {m:Mdl}{ws:List Str}(hi:InM m ws)(h:fitB m ws=true):Fit m∧ws.length≤4∧∀ i j,(nx m i j).length≤1000000000∧(em m i j).length≤1000000000:=by
 unfold fitB at h;simp only [Bool.and_eq_true,decide_eq_true_eq,List.all_cons,List.all_nil,and_true]at h;obtain⟨hsz,hn,he⟩:=h;unfold zh4 at hsz;obtain⟨s1,s2,s3,s4,s5⟩:=hsz;have key:∀ {M:List (List Str)},mat8 M=true→(∀ r∈M,r.length≤8)∧∀ r∈M,∀ s∈r,s.length≤12:=fun {M} h=>by unfold mat8 row8 at h;simp only [List.all_eq_true,Bool.and_eq_true,decide_eq_true_eq]at h;refine⟨fun r hr=>(h r hr).1,fun r hr s hs=>?_⟩;have:=(h r hr).2 s hs;unfold ztm at this;exact of_decide_eq_true this
 obtain⟨n1,n2⟩:=key hn;obtain⟨e1,e2⟩:=key he;refine⟨⟨by omega,by omega,by omega,by omega,hi.ts,hi.ws,fun r hr=>Nat.le_trans (n1 r hr) (by omega),fun r hr=>Nat.le_trans (e1 r hr) (by omega),fun r hr s hs=>Nat.le_trans (n2 r hr s hs) (by omega),fun r hr s hs=>Nat.le_trans (e2 r hr s hs) (by omega)⟩,s5,fun i j=>⟨zo2 n2 i j,zo2 e2 i j⟩⟩
theorem kn_f {f:Int}(hf:f≠0)(r:Str×Int):(kn f r).2=f:=by
 unfold kn;by_cases h:r.2≠0
 ·rw [if_pos h];exact if_neg hf
 ·rw [if_neg h]
theorem kn_0(r:Str×Int):(kn 0 r).2=r.2∧(r.2=0→(kn 0 r).1=r.1):=by
 unfold kn;split
 ·rename_i h;exact⟨rfl,fun k=>absurd k h⟩
 ·rename_i h;have h':r.2=0:=Classical.not_not.1 h;exact⟨h'.symm,fun _=>rfl⟩
theorem sc_pr(m:Mdl)(cs js:List Nat):∀ k,(scP m cs js k).2=(prR m cs js k).2∧((prR m cs js k).2=0→(scP m cs js k).1=(prR m cs js k).1)
 |0=>⟨rfl,fun _=>rfl⟩
 |k+1=>by
  obtain⟨h1,h2⟩:=sc_pr m cs js k;rw [scP,prR];have hq:zkT m cs js k=pmul (scA m js k) (scB m cs js k):=rfl;rw [hq];generalize scA m js k=a;generalize scB m cs js k=b;unfold tm;by_cases h0:(prR m cs js k).2=0
  ·rw [h1,if_neg (by simp [h0]),h2 h0,h0];obtain⟨k1,k2⟩:=kn_0 (pmul a b);rw [k1];by_cases h3:(pmul a b).2=0
   ·rw [if_neg (by simp [h3]),h3,k2 h3];exact kn_0 _
   ·rw [if_pos h3];exact⟨kn_f h3 _,fun h=>absurd h h3⟩
  ·rw [if_pos h0,h1,kn_f h0,kn_f h0];exact⟨rfl,fun h=>absurd h h0⟩
theorem zqe(m:Mdl)(ws tgs:List Str):zdx m ws tgs=zcH m ws tgs:=by
 unfold zdx zcH;split
 ·rfl
 ·rename_i h1;have hlen:tgs.length=ws.length:=Classical.not_not.1 fun h=>h1 (.inr h);split
  ·rfl
  ·have hl:(zaH m tgs).length=(zH m ws).length:=by simp [zaH,zH,hlen]
   obtain⟨k1,k2⟩:=sc_pr m (zH m ws) (zaH m tgs) (zH m ws).length;unfold scF prob;rw [hl,k1];generalize nx m (lastOf m.tags.length (zaH m tgs) (zH m ws).length) m.tags.length=a;unfold tm;by_cases h0:(prR m (zH m ws) (zaH m tgs) (zH m ws).length).2=0
   ·rw [k2 h0,h0];obtain⟨k3,k4⟩:=kn_0 (pmul (prR m (zH m ws) (zaH m tgs) (zH m ws).length).1 a);rw [k3];by_cases h3:(pmul (prR m (zH m ws) (zaH m tgs) (zH m ws).length).1 a).2=0
    ·rw [if_neg (by simp [h3]),if_neg (by simp),k4 h3];exact Prod.ext rfl h3.symm
    ·rw [if_pos h3,if_neg (by simp)];exact Prod.ext (pmul_err h3).symm rfl
   ·rw [kn_f h0,if_pos h0,if_pos h0]
noncomputable def zwE:List V→Option PR:=zu (fun p:Mdl×List Str=>[mdlV p.1,.fs (strs p.2) p.2.length]) (fun p=>InM p.1 p.2) fun p=>.ret (.bool (!fitB p.1 p.2))
theorem zsh(m:Mdl)(ws:List Str)(h:InM m ws):zwE [mdlV m,.fs (strs ws) ws.length]=some (.ret (.bool (!fitB m ws))):=
 zn (pat:=fun p:Mdl×List Str=>[mdlV p.1,.fs (strs p.2) p.2.length]) mw_inj (m,ws) h
theorem zsg:∀ args r,zwE args=some r→PCall Tryz.prog 16 args r:=zk fun p h=>ztb p.1 p.2 h.tl h.wl h.nl h.el h.l
noncomputable def cTAwk:List V→Option PR:=zu (fun _:Unit=>[]) (fun _=>True) fun _=>.ret (.bool true)
@[go_sem] theorem cTAwk_eq:cTAwk []=some (.ret (.bool true)):=zn (pat:=fun _:Unit=>([]:List V)) (fun _ _ _=>rfl) () trivial
theorem cTAwk_ok:∀ args r,cTAwk args=some r→PCall Tryz.prog 15 args r:=zk fun _ _=>zsG
def ScOK(p:Mdl×List Str×List Str):Prop:=Fit p.1∧p.2.1.length≤1000000∧(∀ s∈p.2.1,s.length≤1000000000000000)∧p.2.2.length≤1000000∧∀ i j,(nx p.1 i j).length≤1000000000∧(em p.1 i j).length≤1000000000
theorem zuK(x y:Mdl×List Str×List Str)(h:[mdlV x.1,V.fs (strs x.2.1) x.2.1.length,V.fs (strs x.2.2) x.2.2.length]=[mdlV y.1,V.fs (strs y.2.1) y.2.1.length,V.fs (strs y.2.2) y.2.2.length]):x=y:=by simp only [List.cons.injEq,V.fs.injEq,and_true]at h;exact Prod.ext (zc6 h.1) (Prod.ext (zao h.2.1.1) (zao h.2.2.1))
noncomputable def zwD:List V→Option PR:=zu (fun p:Mdl×List Str×List Str=>[mdlV p.1,.fs (strs p.2.1) p.2.1.length,.fs (strs p.2.2) p.2.2.length]) ScOK fun p=>.ret (.tup [.str (zdx p.1 p.2.1 p.2.2).1,.int .i64 (zdx p.1 p.2.1 p.2.2).2])
theorem zsf(m:Mdl)(ws tgs:List Str)(h:ScOK (m,ws,tgs)):zwD [mdlV m,.fs (strs ws) ws.length,.fs (strs tgs) tgs.length]=some (.ret (.tup [.str (zdx m ws tgs).1,.int .i64 (zdx m ws tgs).2])):=
 zn (pat:=fun p:Mdl×List Str×List Str=>[mdlV p.1,.fs (strs p.2.1) p.2.1.length,.fs (strs p.2.2) p.2.2.length]) zuK (m,ws,tgs) h
theorem zse:∀ args r,zwD args=some r→PCall Tryz.prog 12 args r:=zk fun p h=>score_ok p.1 p.2.1 p.2.2 h.1 h.2.1 h.2.2.2.1 h.2.2.2.2
noncomputable def zpk:List V→Option PR:=zu (fun p:Mdl×List Str×List Str=>[mdlV p.1,.fs (strs p.2.1) p.2.1.length,.fs (strs p.2.2) p.2.2.length]) ScOK fun p=>.ret (.tup [.str (zcH p.1 p.2.1 p.2.2).1,.int .i64 (zcH p.1 p.2.1 p.2.2).2])
theorem znU(m:Mdl)(ws tgs:List Str)(h:ScOK (m,ws,tgs)):zpk [mdlV m,.fs (strs ws) ws.length,.fs (strs tgs) tgs.length]=some (.ret (.tup [.str (zcH m ws tgs).1,.int .i64 (zcH m ws tgs).2])):=
 zn (pat:=fun p:Mdl×List Str×List Str=>[mdlV p.1,.fs (strs p.2.1) p.2.1.length,.fs (strs p.2.2) p.2.2.length]) zuK (m,ws,tgs) h
theorem znT:∀ args r,zpk args=some r→PCall Tryz.prog 17 args r:=zk fun p h=>ztF p.1 p.2.1 p.2.2 h.1 h.2.1 h.2.2.1 h.2.2.2.1 h.2.2.2.2
set_option maxHeartbeats 8000000 in
set_option maxRecDepth 100000 in
theorem zqd(m:Mdl)(ws tgs:List Str)(hi:InM m ws)(ht:tgs.length≤1000000000000000):PCall Tryz.prog 4 [mdlV m,.fs (strs ws) ws.length,.fs (strs tgs) tgs.length] (.ret (.bool true)):=by
 have hΓ:=zf zsg (zf cTAwk_ok (zf zse (zf znT (zf zsu zh))));have e1:=zsh m ws hi;have hfit:=fitB_fit hi;refine PCall.walk (rs:=[.tmp 6]) [0,1,2,3,6,7,8,9,10,18] [25] mixed (hΓ) (zg) call4 Tryz.func4 rfl Tryz.ntmps4 rfl (by kernel_rfl) (by simp) (by simp [push_cast,zbQ]) ?_;cases hb:(!fitB m ws||decide (6<(tgs.length:Int)))with
 |true=>
  generalize fitB m ws=fb at e1 hb;clear hfit;obtain⟨T,W,N,E⟩:=m;unfold mdlV at e1 ⊢;dsimp only at e1 ⊢;simp (disch:=first|assumption|(push_cast<;>omega)|omega) only [go_sem,e1];rw [hb];simp (disch:=first|assumption|(push_cast<;>omega)|omega) only [go_sem]
 |false=>
  have hb':fitB m ws=true∧tgs.length≤6:=by simp only [Bool.or_eq_false_iff,Bool.not_eq_false',decide_eq_false_iff_not]at hb;exact⟨hb.1,by omega⟩
  obtain⟨hf,h4,hl⟩:=hfit hb'.1;have e2:=zsf m ws tgs ⟨hf,show ws.length≤1000000 by omega,hi.s,show tgs.length≤1000000 by omega,hl⟩;have e3:=znU m ws tgs ⟨hf,show ws.length≤1000000 by omega,hi.s,show tgs.length≤1000000 by omega,hl⟩;rw [←zqe]at e3;generalize zdx m ws tgs=z at e2 e3;have e4:=zsv z.2 z.2 m ws hf (by omega);generalize zqT z.2 z.2 m ws=lb at e4;generalize fitB m ws=fb at e1 hb;obtain⟨T,W,N,E⟩:=m;unfold mdlV at e1 e2 e3 e4 ⊢;dsimp only at e1 e2 e3 e4 ⊢;simp (disch:=first|assumption|(push_cast<;>omega)|omega) only [go_sem,e1];rw [hb];simp (disch:=first|assumption|(push_cast<;>omega)|omega) only [go_sem,e2,e3,e4]
end Go.Proofs

namespace Go.Proofs
open Go.Ab Go.Cnt Go.Pl
theorem dStr:Dec Tryz.prog 9 strR (fun s=>s.length≤reachBytes):=Dec.str Tryz.underlying9 (by kernel_rfl)
def okS(l:List Str):Prop:=l.length≤reachBytes∧∀ s∈l,s.length≤reachBytes
theorem dStrs:Dec Tryz.prog 22 (slR strR) okS:=dStr.slice Tryz.underlying22 (by kernel_rfl) (of_decide_eq_true (by kernel_rfl))
theorem dRows:Dec Tryz.prog 23 (slR (slR strR)) (fun l=>l.length≤reachBytes):=(dStrs.slice Tryz.underlying23 (by kernel_rfl) (of_decide_eq_true (by kernel_rfl))).cast (fun a=>a) rfl (fun _=>rfl) fun _ h=>h.1
abbrev MdlT:=((List Str×List Str)×List (List Str))×List (List Str)
def okM(p:MdlT):Prop:=((okS p.1.1.1∧okS p.1.1.2)∧p.1.2.length≤reachBytes)∧p.2.length≤reachBytes
abbrev mdlR:=zjn (zjn (zjn (slR strR) (slR strR)) (slR (slR strR))) (slR (slR strR))
theorem dMdl:Dec Tryz.prog 25 mdlR okM:=Dec.four Tryz.underlying25 dStrs dStrs dRows dRows rfl rfl rfl rfl (by kernel_rfl)
theorem zb2 {n:Nat}(h:n≤reachBytes):n≤1000000000000000:=Nat.le_trans h (by unfold reachBytes;omega)
def mdlOf(p:MdlT):Mdl:=⟨p.1.1.1,p.1.1.2,p.1.2,p.2⟩
theorem mdl_enc(p:MdlT):V.agg (mdlR.enc p)=mdlV (mdlOf p):=by obtain⟨⟨⟨T,W⟩,N⟩,E⟩:=p;show V.agg ((([V.fs (strR.cells T) T.length]++[V.fs (strR.cells W) W.length])++[V.fs ((slR strR).cells N) N.length])++[V.fs ((slR strR).cells E) E.length])=_;rw [zcJ,zcJ,ztG,ztG];rfl
theorem inM_of {p:MdlT}{w:List Str}(h:okM p)(hw:okS w):InM (mdlOf p) w:=
 ⟨zb2 h.1.1.1.1,zb2 h.1.1.2.1,zb2 h.1.2,zb2 h.2,fun s hs=>zb2 (h.1.1.1.2 s hs),fun s hs=>zb2 (h.1.1.2.2 s hs),zb2 hw.1,fun s hs=>zb2 (hw.2 s hs)⟩
theorem scores_in(p:MdlT)(w t:List Str)(h:okM p)(hw:okS w)(ht:okS t):
 PCall Tryz.prog 4 [.agg (mdlR.enc p),.fs (strR.cells w) w.length,.fs (strR.cells t) t.length] (.ret (.bool true)):=by
 rw [mdl_enc,zcJ,zcJ]
 exact zqd _ w t (inM_of h hw) (zb2 ht.1)
end Go.Proofs

namespace Go.Proofs.YthbimeikbkjnkaaGreatDoor
open Go.ChangeShapes Go.WideShapes Go.ChangeAt Go.WideMaps Go.WideElems Go.RowKit
theorem ownK:ownKnob Tryz.prog.godebug=none:=by kernel_rfl
theorem zjM:laidOutB Tryz.prog=true:=by kernel_rfl
abbrev znj:List (String×DataW Unit):=[("math/bits.deBruijn32tab",Rows.laid_math_bits_deBruijn32tab),("math/bits.deBruijn64tab",Rows.laid_math_bits_deBruijn64tab),("internal/strconv.uint64pow10",Rows.laid_internal_strconv_uint64pow10)]
theorem door_met(os:Os):laidMetH Tryz.prog znj ((World.doorLaid Tryz.prog 400 os).forCall (fun _ _=>0) ⟨#[],#[.agg #[.slice none 0 0,.slice none 0 0,.slice none 0 0,.slice none 0 0],.slice none 0 0,.slice none 0 0],[]⟩).memory:=
 laidMetH_of_parts3 (fuel:=8) (laidMet_of_run' 8 (by kernel_rfl) (by kernel_rfl)) (by kernel_rfl) (by kernel_rfl)
def tens:List Int:=(List.range 20).map fun i=>((10 ^ i:Nat):Int)
theorem zp0:(Rows.laid_internal_strconv_uint64pow10:DataW Unit)=Lib.tabData .u64 tens:=by kernel_rfl
theorem gTab:Tryz.prog.globalNamed "internal/strconv.uint64pow10" =some 1:=by kernel_rfl
theorem gTabT:(Tryz.prog.globals[1]?).map (·.type)=some 262:=by kernel_rfl
theorem underA:Tryz.prog.underlying 262=some (.array 20 185):=by kernel_rfl
theorem underU:Tryz.prog.underlying 185=some (.int .u64):=by kernel_rfl
theorem cellsU:Tryz.prog.cellsOf 185=1:=by kernel_rfl
theorem cellsA:Tryz.prog.cellsOf 262=20:=by kernel_rfl
theorem tab_of {W:World}(h:laidMetH Tryz.prog znj W):∃ t fr,W.heap[1]? =some (.cells (tens.map fun z=>Value.int .u64 z).toArray t fr):=by
 rw [MakeChecks.laidMetH_plain _ _ _ (by kernel_rfl)]at h;have h2:=h.tail.tail;rw [zp0]at h2;have h3:W.var? Tryz.prog "internal/strconv.uint64pow10" =some (tens.map fun z=>Value.int .u64 z).toArray:=Lib.tabIs_of_head gTab gTabT underA underU cellsU cellsA h2;unfold World.var? at h3;rw [gTab]at h3;simp only [Option.bind_some]at h3;cases hb:W.heap[1]? with
 |none=>rw [hb]at h3;cases h3
 |some o=>
  rw [hb]at h3;cases o<;>first|(cases h3;exact⟨_,_,rfl⟩)|cases h3
theorem gok_of {W:World}(h:laidMetH Tryz.prog znj W):Go.Ab.GOK (Go.Ab.gW W):=by
 obtain⟨t,fr,hb⟩:=tab_of h;have hphi:=Go.Ab.gW_of hb;intro k cs e;have e':(if k=1 then some Go.Ab.pow10V else none)=some cs:=e;split at e';rotate_left;·cases e'
 rename_i hk;cases e';subst hk;have hsz:(tens.map fun z=>Value.int .u64 z).toArray.size=Go.Ab.pow10V.length:=by kernel_rfl
 refine⟨Go.Ab.VRel.mk_fp hphi ?_,_,hphi,hsz⟩;intro i x hx;have hi:i<20:=(List.getElem?_eq_some_iff.1 hx).1;refine⟨.int .u64 ((10 ^ i:Nat):Int),?_,?_⟩
 ·show (tens.map fun z=>Value.int .u64 z).toArray[0+i]? =_;rw [Nat.zero_add];simp [tens,hi]
 ·have:Go.Ab.pow10V[i]? =some (.int .u64 ((10 ^ i:Nat):Int)):=by simp [Go.Ab.pow10V,hi]
  rw [this]at hx;cases hx;exact .int _ _
theorem call_of {W:World}(h:laidMetH Tryz.prog znj W){args:Array Value}{vs:List Go.Ab.V}(hc:Go.Ab.PCall Tryz.prog 4 vs (.ret (.bool true)))(hs:args.size=vs.length)(hp:Go.Ab.PW (Go.Ab.gW W) vs (fun i=>args[i]?)):
 Calls Tryz.prog 4 args W fun e W'=>e=.returned (.bool true)∧Below W.heap.size W W':=by
 have hc':=hc (Go.Ab.gW W) W args (gok_of h) Go.Ab.gW_frz hs hp
 refine(zdU (Go.Ab.canB_ok (by kernel_rfl)) hc').mono fun e W' q=>?_
 obtain⟨phi',vc,_,hbel,rfl,hv⟩:=q
 rw [hv.inv_bool]
 exact⟨rfl,hbel.os,hbel.tape.eq,hbel.output,hbel.size,hbel.block⟩
theorem zuj:Tryz.f4.params.toList=[25,22,22]:=by kernel_rfl
theorem ztx:Tryz.pinned.checked.prog.wantsStandIn (22:Nat)=false:=by kernel_rfl
theorem stand25:Tryz.pinned.checked.prog.wantsStandIn (25:Nat)=false:=by kernel_rfl
set_option maxRecDepth 100000 in
theorem lifted(os:Os)(started:os.Started)(H:Type)(enc:TypeId×Value→H):
 ReturnsInHanded {} Tryz.checked os 4 .any (fun w args=>(Rows.taggerScoresSpec.pre enc Tryz.prog Tryz.f4 [] false w args∧laidMetH Tryz.prog znj w)∧sizedMet enc Tryz.prog Tryz.f4 (OpenSpec.ofChange Rows.taggerScoresSpec) false w args)
  (Rows.taggerScoresSpec.post enc Tryz.prog Tryz.f4 false true false false):=by
 refine returnsInHanded_of_change_and (C:=Tryz.checked) (X:=fun w _=>laidMetH Tryz.prog znj w) (fun _ _ _ hh h=>h.of_heap hh) ownK started (by kernel_rfl) Tryz.func4
  (ChangeSpec.witness_shaped (enc:=enc) (C:=Tryz.checked) (os:=os) (X:=fun w _=>laidMetH Tryz.prog znj w) false (World.doorLaid Tryz.prog 400 os) #[.agg #[.slice none 0 0,.slice none 0 0,.slice none 0 0,.slice none 0 0],.slice none 0 0,.slice none 0 0] 8 rfl (World.shaped_of_RefB (by kernel_rfl) (by kernel_rfl)) (by kernel_rfl) (by kernel_rfl) (by kernel_rfl) (door_met os)) ?_
 intro W base args ds gs before hval0 hW _ hwt hL _
 have hW':=hW
 obtain⟨p,q,hA0,hV,rfl,hfz,hnd⟩:=hW
 have hA:DataW.TrodAll enc Tryz.prog W 0 (fun _=>true) true Tryz.f4.params.toList args.toList ds p:=hA0
 rw [zuj]at hA
 obtain⟨v0,v1,v2,d0,d1,d2,p0,p1,p2,rfl,rfl,rfl,h0,h1,h2⟩:=trodAll_three hA
 obtain⟨rfl,rfl⟩:=trodVars_none hV
 have hlt:=DataW.TrodAll.lt hA
 have hwt':∀ n∈DataW.weightsEach Tryz.prog [25,22,22] [d0,d1,d2],n≤reachBytes:=fun n hn=>by have:=List.all_eq_true.1 hwt n (by rw [zuj,show Rows.taggerScoresSpec.plain.varTypes Tryz.checked.prog=[]from rfl,List.append_nil,List.append_nil];exact hn);simpa using this
 simp only [Go.Ab.weightsEach_cons]at hwt'
 have w0:∀ n∈d0.weights Tryz.prog 25,n≤reachBytes:=fun n hn=>hwt' n (List.mem_append_left _ hn)
 have w1:∀ n∈d1.weights Tryz.prog 22,n≤reachBytes:=fun n hn=>hwt' n (List.mem_append_right _ (List.mem_append_left _ hn))
 have w2:∀ n∈d2.weights Tryz.prog 22,n≤reachBytes:=fun n hn=>hwt' n (List.mem_append_right _ (List.mem_append_right _ (List.mem_append_left _ hn)))
 have hv0:Value.okWide Tryz.prog W .any base 25 v0:=hval0 0 25 v0 rfl rfl
 have c0:∃ cs,v0=.agg cs:=by obtain⟨cs,e,_⟩:=okWide_struct Tryz.underlying25 hv0;exact⟨cs,e⟩
 obtain⟨a0,o0,r0⟩:=Go.Proofs.dMdl.argS h0 c0 w0
 have hv1:Value.okWide Tryz.prog W .any base 22 v1:=hval0 1 22 v1 rfl rfl
 have c1:v1.cells=#[v1]:=by obtain⟨_,_,_,e⟩:=okWide_slice Tryz.underlying22 hv1;rw [e];rfl
 obtain⟨a1,o1,r1⟩:=Go.Proofs.dStrs.arg1 h1 c1 w1
 replace r1:=r1 _ rfl
 have hv2:Value.okWide Tryz.prog W .any base 22 v2:=hval0 2 22 v2 rfl rfl
 have c2:v2.cells=#[v2]:=by obtain⟨_,_,_,e⟩:=okWide_slice Tryz.underlying22 hv2;rw [e];rfl
 obtain⟨a2,o2,r2⟩:=Go.Proofs.dStrs.arg1 h2 c2 w2
 replace r2:=r2 _ rfl
 refine(call_of hL (Go.Proofs.scores_in a0 a1 a2 o0 o1 o2) rfl (fun i x hx=>by
  match i with
  |0=>cases hx;exact⟨v0,rfl,r0⟩
  |1=>cases hx;exact⟨v1,rfl,r1⟩
  |2=>cases hx;exact⟨v2,rfl,r2⟩
  |i+3=>simp at hx)).mono fun e W' ⟨he,bel⟩=>?_
 subst he
 have k0:=Below.trod zjM (by kernel_rfl) (of_decide_eq_true (by kernel_rfl)) h0 bel (fun x hx=>hlt x (List.mem_append_left _ (List.mem_append_left _ hx)))
 have k1:=Below.trod zjM (by kernel_rfl) (of_decide_eq_true (by kernel_rfl)) h1 bel (fun x hx=>hlt x (List.mem_append_left _ (List.mem_append_right _ hx)))
 have k2:=Below.trod zjM (by kernel_rfl) (of_decide_eq_true (by kernel_rfl)) h2 bel (fun x hx=>hlt x (List.mem_append_right _ hx))
 exact⟨_,rfl,_,_,_,[],_,[],hW',trodAll_mk1 (shut_bool Tryz.underlying4 _),trodAll_mk3 k0 k1 k2,rfl,bel.frame _,fun h=>by cases h⟩
theorem said:Rows.TaggerScoresSaid:=
 OpenClaim.holds_of_wide 4 Tryz.f4 rfl rfl rfl rfl rfl rfl rfl ⟨rfl,rfl,rfl,rfl,rfl⟩ rfl rfl rfl rfl rfl (by kernel_rfl) Tryz.func4 (by kernel_rfl)
  (of_decide_eq_true (by kernel_rfl)) (by unfold Func.isWrapper;first|(rw [if_pos (by decide+kernel)];kernel_rfl)|(rw [if_neg (by decide+kernel)];exact⟨rfl,rfl⟩))
  (fun os started H enc _=>lifted os started H enc)
theorem scores_holds:Rows.TaggerScoresCardSaid:=
 Claim7.holds_tied_plain_at .later [] [.data,.data,.data] true (true, "d3bf08ebd9ea1bcaa5cb35fb73af600287fdc0001c94dc43560aeefca0fab896") true
  said (fun _ h=>by cases h) (by kernel_rfl) (fun _ h=>by cases h) taggerScores_row_tie rfl ⟨rfl,rfl⟩ (by kernel_rfl) rfl
  (fun f fn hf hfn=>by
   obtain rfl:f=4:=Option.some.inj ((show Tryz.prog.funcNamed "abugida/abugidalaw36.TaggerScores" =some 4 by kernel_rfl).symm.trans hf) |>.symm
   obtain rfl:fn=Tryz.f4:=(Option.some.inj (Tryz.func4.symm.trans hfn)).symm;exact⟨by kernel_rfl,fun j t ht=>by
    rw [Tryz.params4]at ht;match j with
    |0=>exact(Option.some.inj ht:(25:Nat)=t)▸stand25
    |1=>exact(Option.some.inj ht:(22:Nat)=t)▸ztx
    |2=>exact(Option.some.inj ht:(22:Nat)=t)▸ztx
    |j+3=>simp at ht⟩)
  (by kernel_rfl)
#print axioms scores_holds
end Go.Proofs.YthbimeikbkjnkaaGreatDoor
