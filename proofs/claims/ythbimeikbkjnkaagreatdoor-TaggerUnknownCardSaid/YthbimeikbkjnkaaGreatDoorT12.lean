/- Unknown words: the statement's own function. -/
import Derived.Test.YthbimeikbkjnkaaGreatDoorT11
import Derived.Test.YthbimeikbkjnkaaGreatDoorTT1
import Derived.Test.YthbimeikbkjnkaaGreatDoorCards
import Derived.Test.YthbimeikbkjnkaaGreatDoorTie
import Derived.Test.YthbimeikbkjnkaaGreatDoorS0Types
import Derived.ProofKit
import Derived.LaidMore
import Derived.OpenShut
import Derived.Stop.Joined
import Derived.Stop.LaidErr
import Derived.SevenTiedAt
import Derived.Lib.LaidTab
import Derived.Carry
set_option linter.all false
namespace Go.Proofs
open Go.Ab Go.Cnt Go.Pl Go.Tg
set_option maxHeartbeats 4000000 in
theorem zsW(a b:List Str)(ha:a.length≤1000000)(hb:b.length≤1000000):PCall Tryz.prog 20 [.fs (strs a) a.length,.fs (strs b) b.length] (.ret (.bool (decide (a=b)))):=by
 obtain⟨R,hR⟩:∃ R,R=decide (a=b):=⟨_,rfl⟩;rw [←hR];refine PCall.walk (rs:=[.tmp 4]) [0,1,4,5,10,14,25] [] mixed (zh) (zf) call20 Tryz.func20 rfl Tryz.ntmps20 rfl (by kernel_rfl) (by simp) (by simp [push_cast]) ?_;simp (disch:=first|assumption|(push_cast<;>omega)|omega) only [go_sem];refine AXc.introN (fun h1=>?_) (fun h1=>?_)
 ·rw [hR,decide_eq_false (fun h=>h1 (by rw [h]))];simp (disch:=first|assumption|(push_cast<;>omega)|omega) only [go_sem]
 have hlen:a.length=b.length:=by omega
 simp (disch:=first|assumption|(push_cast<;>omega)|omega) only [go_sem];refine AXs.loop mixed (zh) (zf) (fun i:Nat=>[(0,.fs (strs a) a.length),(1,.fs (strs b) b.length),(5,.int .i64 i)]) (fun _=>⟨[],0⟩) (fun i=>i≤a.length∧∀ j,j<i→a.getD j []=b.getD j []) (fun i=>a.length - i) 0 (by kernel_rfl) ⟨Nat.zero_le _,fun j hj=>by omega⟩ (Sub.of0 [] rfl rfl ?_ ?_) ?_
 ·simp only [go_sem]
 ·simp only [go_sem]
 rintro i ⟨h2,h3⟩;simp (disch:=first|assumption|(push_cast<;>omega)|omega) only [go_sem];refine AXc.introP (fun h4=>?_) (fun h4=>?_)
 ·have hi:i<a.length:=by omega
  simp (disch:=first|assumption|(push_cast<;>omega)|omega) only [go_sem]
  (repeat refine sdC ?_);refine AXc.introN (fun h5=>?_) (fun h5=>?_)
  ·rw [hR,decide_eq_false (fun h=>h5 (by rw [h]))];simp (disch:=first|assumption|(push_cast<;>omega)|omega) only [go_sem]
  ·simp (disch:=first|assumption|(push_cast<;>omega)|omega) only [go_sem];refine zo (i+1) ⟨by omega,fun j hj=>?_⟩ (by omega) (Sub.of0 [] rfl rfl ?_ ?_)
   ·by_cases hji:j<i
    ·exact h3 j hji
    ·obtain rfl:j=i:=by omega
     exact h5
   ·simp only [go_sem];simp
   ·simp only [go_sem]
 ·obtain rfl:i=a.length:=by omega
  have he:a=b:=by refine List.ext_getElem hlen fun j h1 h2=>?_;have:=h3 j h1;rw [List.getD_eq_getElem?_getD,List.getElem?_eq_getElem h1,List.getD_eq_getElem?_getD,List.getElem?_eq_getElem h2]at this;exact this
  rw [hR,decide_eq_true he];simp (disch:=first|assumption|(push_cast<;>omega)|omega) only [go_sem];refine AXa.go mixed (zh) (zf) (by kernel_rfl) ?_;simp (disch:=first|assumption|(push_cast<;>omega)|omega) only [go_sem]
noncomputable def zv0:List V→Option PR:=zG (fun p:List Str×List Str=>[.fs (strs p.1) p.1.length,.fs (strs p.2) p.2.length]) (fun p=>p.1.length≤1000000∧p.2.length≤1000000) fun p=>.ret (.bool (decide (p.1=p.2)))
theorem zrH(a b:List Str)(ha:a.length≤1000000)(hb:b.length≤1000000):zv0 [.fs (strs a) a.length,.fs (strs b) b.length]=some (.ret (.bool (decide (a=b)))):=
 zn (pat:=fun p:List Str×List Str=>[.fs (strs p.1) p.1.length,.fs (strs p.2) p.2.length]) (fun x y h=>by simp only [List.cons.injEq,V.fs.injEq,and_true]at h;exact Prod.ext (zaB h.1.1) (zaB h.2.1)) (a,b) ⟨ha,hb⟩
theorem zrG:∀ args r,zv0 args=some r→PCall Tryz.prog 20 args r:=zk fun p h=>zsW p.1 p.2 h.1 h.2
def okN(n:Nat)(x:TL):Prop:=∀ t∈x.2,t<n
theorem zo4 {n:Nat}{x y:TL}(hx:okN n x)(hy:okN n y):okN n (betT x y):=by unfold betT;split<;>assumption
theorem zsP {n:Nat}{f:Int}{u:TL}{j:List Nat}{q:Str}(hu:okN n u)(hj:∀ t∈j,t<n):okN n (stL f u j q).1:=by
 unfold stL;split
 ·intro t h;cases h
 ·intro t h;rcases List.mem_append.1 h with h|h
  ·exact hu t h
  ·exact hj t h
theorem zn8 {m:Mdl}{bef:Nat→Option TL}(hb:∀ i u,bef i=some u→okN m.tags.length u){j:Nat}(hj:j<m.tags.length)(c:Nat)(f:Int):∀ k,okN m.tags.length (row1 stL plL m z48 bef j c f k).1
 |0=>fun t h=>by cases h
 |k+1=>by
  have ih:=zn8 (m:=m) hb hj c f k;rw [row1];cases h:bef k with
  |none=>exact ih
  |some u=>exact zo4 ih (zsP (hb k u h) (fun t ht=>by rw [List.mem_singleton.1 ht];exact hj))
theorem zn7 {m:Mdl}{bef:Nat→Option TL}(hb:∀ i u,bef i=some u→okN m.tags.length u)(c:Nat)(f:Int):∀ k,k≤m.tags.length→∀ x∈(rowK stL plL m z48 bef c f k).1,okN m.tags.length x
 |0,_,x,h=>by cases h
 |k+1,hk,x,h=>by
  rw [rowK]at h;rcases List.mem_append.1 h with h|h
  ·exact zn7 hb c f k (by omega) x h
  ·rw [List.mem_singleton.1 h];exact zn8 hb (by omega) _ _ _
theorem zo8 {m:Mdl}{t:Nat}{l:List TL}(h:∀ x∈l,okN m.tags.length x):∀ i u,befT m o49 t l i=some u→okN m.tags.length u:=by
 intro i u e;unfold befT at e;split at e
 ·split at e
  ·cases e;intro t h;cases h
  ·cases e
 ·exact h u (List.mem_of_getElem? e)
theorem zoB(m:Mdl)(cs:List Nat):∀ t,∀ x∈(fwdT stL plL m z48 o49 cs t).1,okN m.tags.length x
 |0,x,h=>by cases h
 |t+1,x,h=>zn7 (zo8 (zoB m cs t)) _ _ _ (Nat.le_refl _) x h
theorem zoD {m:Mdl}{bef:Nat→Option TL}(hb:∀ i u,bef i=some u→okN m.tags.length u)(f:Int):∀ k,okN m.tags.length (fin1 stL plL m z48 bef f k).1
 |0=>fun t h=>by cases h
 |k+1=>by
  have ih:=zoD (m:=m) hb f k;rw [fin1];cases h:bef k with
  |none=>exact ih
  |some u=>exact zo4 ih (zsP (hb k u h) (fun t ht=>by cases ht))
theorem finT_okN(m:Mdl)(cs:List Nat):okN m.tags.length (finT stL plL m z48 o49 cs).1:=zoD (zo8 (zoB m cs cs.length)) _ _
theorem finT_len(m:Mdl)(cs:List Nat):(finT stL plL m z48 o49 cs).1.2.length≤cs.length+1:=(zfy (m:=m) (zeC (m:=m) (t:=cs.length) (zes m cs cs.length)) _ _).2
def TagOK(p:Mdl×List Str):Prop:=Fit p.1∧p.2.length≤1000∧∀ i j,(nx p.1 i j).length≤1000000000∧(em p.1 i j).length≤1000000000
noncomputable def tagV(r:(List Str×Str)×Int):V:=.tup [.fs (strs r.1.1) r.1.1.length,.str r.1.2,.int .i64 r.2]
noncomputable def zoQ:List V→Option PR:=zG (fun p:Mdl×List Str=>[mdlV p.1,.fs (strs p.2) p.2.length]) TagOK fun p=>.ret (tagV (tagR p.1 p.2))
theorem zls(m:Mdl)(ws:List Str)(h:TagOK (m,ws)):zoQ [mdlV m,.fs (strs ws) ws.length]=some (.ret (tagV (tagR m ws))):=
 zn (pat:=fun p:Mdl×List Str=>[mdlV p.1,.fs (strs p.2) p.2.length]) mw_inj (m,ws) h
theorem zvW:∀ args r,zoQ args=some r→PCall Tryz.prog 13 args r:=zk fun p h=>tag_ok p.1 p.2 h.1 h.2.1 h.2.2 fun _=>finT_okN p.1 _
theorem tagR_len(m:Mdl)(ws:List Str)(hw:ws.length≤1000):(tagR m ws).1.1.length≤1001:=by
 unfold tagR;split
 ·simp
 ·split
  ·simp
  ·split
   ·simp
   ·have:=finT_len m (zad m ws);have e:(zad m ws).length=ws.length:=by simp [zad]
    rw [List.length_map];omega
def repW(m:Mdl)(o s:Str):Str:=if nameB s=true∧¬idxS m.words s<m.words.length then o else s
def repL(m:Mdl)(o:Str)(ws:List Str):List Str:=ws.map (repW m o)
theorem rep_same(m:Mdl)(o:Str)(ws:List Str)(ho:nameB o=true)(hx:¬idxS m.words o<m.words.length):tagR m (repL m o ws)=tagR m ws:=by
 have h1:∀ s,nameB (repW m o s)=nameB s:=fun s=>by
  unfold repW;split
  ·rename_i h;rw [ho,h.1]
  ·rfl
 have h2:∀ s,idxS m.words (repW m o s)=idxS m.words s:=fun s=>by
  unfold repW;split
  ·rename_i h;have a:=zgu m.words o;have b:=zgu m.words s;omega
  ·rfl
 have e1:zc8 (repL m o ws)=zc8 ws:=by unfold zc8 repL;rw [List.length_map,List.all_map];congr 1;congr 1;funext s;exact h1 s
 have e2:zad m (repL m o ws)=zad m ws:=by unfold zad repL;rw [List.map_map];exact List.map_congr_left fun s _=>h2 s
 unfold tagR;rw [e1,e2]
def wAt(m:Mdl)(o:Str)(ws:List Str)(i:Nat):List Str:=(ws.take i).map (repW m o)++ws.drop i
theorem wAt_len(m:Mdl)(o:Str)(ws:List Str)(i:Nat)(h:i≤ws.length):(wAt m o ws i).length=ws.length:=by simp [wAt];omega
theorem wAt_get(m:Mdl)(o:Str)(ws:List Str)(i:Nat)(h:i<ws.length):(wAt m o ws i).getD i []=ws.getD i []:=by
 unfold wAt;have hl:((ws.take i).map (repW m o)).length=i:=by simp;omega
 rw [List.getD_eq_getElem?_getD,List.getElem?_append_right (by omega),hl,Nat.sub_self,List.getElem?_drop,Nat.add_zero,List.getD_eq_getElem?_getD]
theorem wAt_step(m:Mdl)(o:Str)(ws:List Str)(i:Nat)(h:i<ws.length):wAt m o ws (i+1)=(wAt m o ws i).set i (repW m o (ws.getD i [])):=by
 unfold wAt;have hl:((ws.take i).map (repW m o)).length=i:=by simp;omega
 rw [List.set_append_right _ _ (by omega),hl,Nat.sub_self,List.take_add_one,List.getElem?_eq_getElem h,List.map_append,List.drop_eq_getElem_cons h,List.set_cons_zero,List.getD_eq_getElem?_getD,List.getElem?_eq_getElem h,List.append_assoc];rfl
theorem wAt_all(m:Mdl)(o:Str)(ws:List Str):wAt m o ws ws.length=repL m o ws:=by unfold wAt repL;rw [List.take_length,List.drop_length,List.append_nil]
set_option maxHeartbeats 8000000 in
set_option maxRecDepth 100000 in
theorem zl4(m:Mdl)(ws:List Str)(o:Str)(hi:InM m ws):PCall Tryz.prog 9 [mdlV m,.fs (strs ws) ws.length,.str o] (.ret (.bool true)):=by
 have hΓ:=zg zrE (zg cTAwk_ok (zg cRIx_ok (zg zvW (zg zrG zh))));have e1:=zrF m ws hi;have hfit:=fitB_fit hi;have hsz:fitB m ws=true→m.words.length≤6:=fun h=>by unfold fitB at h;simp only [Bool.and_eq_true,decide_eq_true_eq]at h;exact h.1.2.1
 refine PCall.walk (rs:=[.tmp 6]) [0,1,2,3,6,7,8,9,10,11,12,13,14,34,41,67] [25] mixed (hΓ) (zf) call9 Tryz.func9 rfl Tryz.ntmps9 rfl (by kernel_rfl) (by simp) (by simp [push_cast,zel]) ?_;cases hfb:fitB m ws with
 |false=>
  rw [hfb]at e1;clear hfit hsz;have hwl:=hi.wl;obtain⟨T,W,N,E⟩:=m;unfold mdlV at e1 ⊢;dsimp only at e1 hwl ⊢;simp (disch:=first|assumption|(push_cast<;>omega)|omega) only [go_sem,e1]
 |true=>
  rw [hfb]at e1;obtain⟨hf,h4,hl⟩:=hfit hfb;have h6:=hsz hfb;have hso:=fun h1 h2=>rep_same m o ws h1 h2;have e2:=zls m ws ⟨hf,show ws.length≤1000 by omega,hl⟩;have e3:=zls m (repL m o ws) ⟨hf,show (repL m o ws).length≤1000 by unfold repL;rw [List.length_map];omega,hl⟩;have hrl:(repL m o ws).length=ws.length:=by unfold repL;rw [List.length_map]
  have hlen:=tagR_len m ws (by omega);have wl:=wAt_len m o ws;have wg:=wAt_get m o ws;have wst:=wAt_step m o ws;have wa:=wAt_all m o ws;have w0:wAt m o ws 0=ws:=by unfold wAt;simp
  generalize wAt m o ws=wt at wl wg wst wa w0;unfold repW at wst;obtain⟨T,W,N,E⟩:=m;unfold mdlV at e1 e2 e3 ⊢;dsimp only at e1 e2 e3 h6 wst ⊢;have hg:(decide (0≤ixI W o)||decide ((o.length:Int)<1)||decide (40<(o.length:Int)))= !(decide (¬idxS W o<W.length)&&nameB o):=by
   have h1:decide (0≤ixI W o)=decide (idxS W o<W.length):=by
    by_cases h:idxS W o<W.length
    ·rw [ixI_f h,decide_eq_true h,decide_eq_true (by omega)]
    ·rw [ixI_n h,decide_eq_false h];rfl
   rw [h1,Bool.eq_iff_iff];unfold nameB;cases o with
   |nil=>simp
   |cons c t=>
    simp only [List.length_cons,Bool.or_eq_true,decide_eq_true_eq,Bool.not_eq_true',Bool.and_eq_false_iff,decide_eq_false_iff_not];by_cases k:idxS W (c::t)<W.length
    ·simp [k]
    ·simp [k];omega
  simp (disch:=first|assumption|(push_cast<;>omega)|omega) only [go_sem,e1];rw [hg];cases hgo:(decide (¬idxS W o<W.length)&&nameB o)with
  |false=>simp (disch:=first|assumption|(push_cast<;>omega)|omega) only [go_sem]
  |true=>
  have hgo':¬idxS W o<W.length∧nameB o=true:=by simpa using hgo
  have hs:=hso hgo'.2 hgo'.1;rw [hs]at e3;generalize tagR ⟨T,W,N,E⟩ ws=z at e2 e3 hlen;obtain⟨⟨z1,z2⟩,z3⟩:=z;unfold tagV at e2 e3;dsimp only at e2 e3 hlen;have e4:=zrH z1 z1 (by omega) (by omega);clear hs hso hgo hg hi;by_cases hz:ws=[]
  ·subst hz;have e2':zoQ [.agg [.fs (strs T) T.length,.fs (strs W) W.length,.fs (zJ N) N.length,.fs (zJ E) E.length],.fs [] 0]=some (.ret (.tup [.fs (strs z1) z1.length,.str z2,.int .i64 z3])):=e2;simp (disch:=first|assumption|(push_cast<;>omega)|omega) only [go_sem];refine AXs.rounds mixed hΓ zf [] (by kernel_rfl) ?_;simp (disch:=first|assumption|(push_cast<;>omega)|omega) only [go_sem];refine AXa.go mixed (hΓ) (zf) (by kernel_rfl) ?_;simp (disch:=first|assumption|(push_cast<;>omega)|omega) only [go_sem,e2',e4,decide_true]
  ·have hp:0<ws.length:=List.length_pos_iff.2 hz;have h0:(ws.length=0)=False:=eq_false (by omega);simp (disch:=first|assumption|(push_cast<;>omega)|omega) only [go_sem,h0,if_false];try (repeat refine sdC ?_)
   refine AXs.loop mixed (hΓ) (zf) (fun i:Nat=>[(1,.fs (strs ws) ws.length),(2,.str o),(3,.fp [.fs (strs T) T.length,.fs (strs W) W.length,.fs (zJ N) N.length,.fs (zJ E) E.length]),(7,.sl 0 0 ws.length 1 none),(8,.int .i64 i)]) (fun i=>⟨[(0,.cells (strs (wt i)))],1⟩) (fun i=>i≤ws.length) (fun i=>ws.length - i) 0 (by kernel_rfl) (Nat.zero_le _) (Sub.of0 [(0,0)] rfl rfl ?_ ?_) ?_
   ·simp only [go_sem]
   ·rw [w0];simp only [go_sem]
   intro i k1;have wli:=wl i k1;simp (disch:=first|assumption|(push_cast<;>omega)|omega) only [go_sem];refine AXc.introP (fun k2=>?_) (fun k2=>?_)
   ·have hil:i<ws.length:=by omega
    have wgi:=wg i hil;have wsi:=wst i hil;generalize ws.getD i []=s at wgi wsi;generalize wt i=cur at wgi wsi wli ⊢;simp (disch:=first|assumption|(push_cast<;>omega)|omega) only [go_sem,wgi];refine⟨⟨by omega,by omega⟩,by omega,fun h=>⟨h,by omega,by omega⟩,fun h=>⟨h,by omega⟩,fun h=>⟨h,by omega,by omega⟩,fun h=>⟨h,by omega⟩,?_⟩;refine AXk.intro (by kernel_rfl) ?_;simp (disch:=first|assumption|(push_cast<;>omega)|omega) only [go_sem];have hcd:(decide (0<(s.length:Int))&&decide ((s.length:Int)≤40)&&decide (ixI W s<0))=decide (nameB s=true∧¬idxS W s<W.length):=by
     have h1:decide (ixI W s<0)=decide (¬idxS W s<W.length):=by
      by_cases h:idxS W s<W.length
      ·rw [ixI_f h,decide_eq_false (by omega),decide_eq_false (fun k=>k h)]
      ·rw [ixI_n h,decide_eq_true h];rfl
     rw [h1,Bool.eq_iff_iff];unfold nameB;cases s with
     |nil=>simp
     |cons c t=>
      simp only [List.length_cons,Bool.and_eq_true,decide_eq_true_eq];by_cases k:idxS W (c::t)<W.length
      ·simp [k]
      ·simp [k];omega
    rw [hcd];refine AXc.introP (fun k3=>?_) (fun k3=>?_)
    ·rw [if_pos k3]at wsi;simp (disch:=first|assumption|(push_cast<;>omega)|omega) only [go_sem];try (repeat refine sdC ?_)
     refine zo (i+1) (by omega) (by omega) ?_;rw [wsi];refine Sub.of0 [(0,0)] rfl rfl ?_ ?_
     ·simp only [go_sem];simp
     ·simp only [go_sem];simp [strs,List.map_set]
    ·rw [if_neg k3]at wsi;have hset:cur.set i s=cur:=by
      refine List.ext_getElem? fun j=>?_;rw [List.getElem?_set];split
      ·rename_i hij;subst hij;rw [if_pos (by omega), ←wgi,List.getD_eq_getElem?_getD,List.getElem?_eq_getElem (by omega)];rfl
      ·rfl
     rw [hset]at wsi;simp (disch:=first|assumption|(push_cast<;>omega)|omega) only [go_sem];try (repeat refine sdC ?_)
     refine zo (i+1) (by omega) (by omega) ?_;rw [wsi];refine Sub.of0 [(0,0)] rfl rfl ?_ ?_
     ·simp only [go_sem];simp
     ·simp only [go_sem]
   ·obtain rfl:i=ws.length:=by omega
    rw [wa]at wli ⊢;generalize repL ⟨T,W,N,E⟩ o ws=L at e3 hrl ⊢;have e3':zoQ [.agg [.fs (strs T) T.length,.fs (strs W) W.length,.fs (zJ N) N.length,.fs (zJ E) E.length],.fs (strs L) ws.length]=some (.ret (.tup [.fs (strs z1) z1.length,.str z2,.int .i64 z3])):=by rw [←hrl];exact e3
    simp (disch:=first|assumption|(push_cast<;>omega)|omega) only [go_sem];refine AXa.fz [0] rfl rfl rfl (env':=[(1,.fs (strs ws) ws.length),(3,.fp [.fs (strs T) T.length,.fs (strs W) W.length,.fs (zJ N) N.length,.fs (zJ E) E.length]),(7,.fs (strs L) ws.length)]) (bs':=[]) (n':=1) ?_ ?_ ?_
    ·simp only [go_sem];right;exact FrzF.slp (by simp) rfl rfl (by simp [strs];omega) (by rw [List.drop_zero,Nat.mul_one];exact(List.take_of_length_le (by simp [strs];omega)).symm) (zT _)
    ·simp only [go_sem]
    refine AXa.go mixed (hΓ) (zf) (by kernel_rfl) ?_;simp (disch:=first|assumption|(push_cast<;>omega)|omega) only [go_sem,e2,e3',e4,decide_true]
end Go.Proofs

namespace Go.Proofs
open Go.Ab Go.Cnt Go.Pl
theorem unknown_in(p:MdlT)(w:List Str)(o:Str)(h:okM p)(hw:okS w):
 PCall Tryz.prog 9 [.agg (mdlR.enc p),.fs (strR.cells w) w.length,.str o] (.ret (.bool true)):=by
 rw [mdl_enc,zdy]
 exact zl4 _ w o (inM_of h hw)
end Go.Proofs

namespace Go.Proofs.YthbimeikbkjnkaaGreatDoor
open Go.ChangeShapes Go.WideShapes Go.ChangeAt Go.WideMaps Go.WideElems Go.RowKit
theorem ownK:ownKnob Tryz.prog.godebug=none:=by kernel_rfl
theorem zjg:laidOutB Tryz.prog=true:=by kernel_rfl
abbrev zmO:List (String×DataW Unit):=[("math/bits.deBruijn32tab",Rows.laid_math_bits_deBruijn32tab),("math/bits.deBruijn64tab",Rows.laid_math_bits_deBruijn64tab),("internal/strconv.uint64pow10",Rows.laid_internal_strconv_uint64pow10)]
theorem door_met(os:Os):laidMetH Tryz.prog zmO ((World.doorLaid Tryz.prog 400 os).forCall (fun _ _=>0) ⟨#[],#[.agg #[.slice none 0 0,.slice none 0 0,.slice none 0 0,.slice none 0 0],.slice none 0 0,.string ⟨#[]⟩],[]⟩).memory:=
 laidMetH_of_parts3 (fuel:=8) (laidMet_of_run' 8 (by kernel_rfl) (by kernel_rfl)) (by kernel_rfl) (by kernel_rfl)
def tens:List Int:=(List.range 20).map fun i=>((10 ^ i:Nat):Int)
theorem zpw:(Rows.laid_internal_strconv_uint64pow10:DataW Unit)=Lib.tabData .u64 tens:=by kernel_rfl
theorem gTab:Tryz.prog.globalNamed "internal/strconv.uint64pow10" =some 1:=by kernel_rfl
theorem gTabT:(Tryz.prog.globals[1]?).map (·.type)=some 262:=by kernel_rfl
theorem underA:Tryz.prog.underlying 262=some (.array 20 185):=by kernel_rfl
theorem underU:Tryz.prog.underlying 185=some (.int .u64):=by kernel_rfl
theorem cellsU:Tryz.prog.cellsOf 185=1:=by kernel_rfl
theorem cellsA:Tryz.prog.cellsOf 262=20:=by kernel_rfl
theorem tab_of {W:World}(h:laidMetH Tryz.prog zmO W):∃ t fr,W.heap[1]? =some (.cells (tens.map fun z=>Value.int .u64 z).toArray t fr):=by
 rw [MakeChecks.laidMetH_plain _ _ _ (by kernel_rfl)]at h;have h2:=h.tail.tail;rw [zpw]at h2;have h3:W.var? Tryz.prog "internal/strconv.uint64pow10" =some (tens.map fun z=>Value.int .u64 z).toArray:=Lib.tabIs_of_head gTab gTabT underA underU cellsU cellsA h2;unfold World.var? at h3;rw [gTab]at h3;simp only [Option.bind_some]at h3;cases hb:W.heap[1]? with
 |none=>rw [hb]at h3;cases h3
 |some o=>
  rw [hb]at h3;cases o<;>first|(cases h3;exact⟨_,_,rfl⟩)|cases h3
theorem gok_of {W:World}(h:laidMetH Tryz.prog zmO W):Go.Ab.GOK (Go.Ab.gW W):=by
 obtain⟨t,fr,hb⟩:=tab_of h;have hphi:=Go.Ab.gW_of hb;intro k cs e;have e':(if k=1 then some Go.Ab.pow10V else none)=some cs:=e;split at e';rotate_left;·cases e'
 rename_i hk;cases e';subst hk;have hsz:(tens.map fun z=>Value.int .u64 z).toArray.size=Go.Ab.pow10V.length:=by kernel_rfl
 refine⟨Go.Ab.VRel.mk_fp hphi ?_,_,hphi,hsz⟩;intro i x hx;have hi:i<20:=(List.getElem?_eq_some_iff.1 hx).1;refine⟨.int .u64 ((10 ^ i:Nat):Int),?_,?_⟩
 ·show (tens.map fun z=>Value.int .u64 z).toArray[0+i]? =_;rw [Nat.zero_add];simp [tens,hi]
 ·have:Go.Ab.pow10V[i]? =some (.int .u64 ((10 ^ i:Nat):Int)):=by simp [Go.Ab.pow10V,hi]
  rw [this]at hx;cases hx;exact .int _ _
theorem call_of {W:World}(h:laidMetH Tryz.prog zmO W){args:Array Value}{vs:List Go.Ab.V}(hc:Go.Ab.PCall Tryz.prog 9 vs (.ret (.bool true)))(hs:args.size=vs.length)(hp:Go.Ab.PW (Go.Ab.gW W) vs (fun i=>args[i]?)):
 Calls Tryz.prog 9 args W fun e W'=>e=.returned (.bool true)∧Below W.heap.size W W':=by
 have hc':=hc (Go.Ab.gW W) W args (gok_of h) Go.Ab.gW_frz hs hp
 refine(zdv (Go.Ab.canB_ok (by kernel_rfl)) hc').mono fun e W' q=>?_
 obtain⟨phi',vc,_,hbel,rfl,hv⟩:=q
 rw [hv.inv_bool]
 exact⟨rfl,hbel.os,hbel.tape.eq,hbel.output,hbel.size,hbel.block⟩
theorem zty:Tryz.f9.params.toList=[25,22,9]:=by kernel_rfl
theorem stand9:Tryz.pinned.checked.prog.wantsStandIn (9:Nat)=false:=by kernel_rfl
theorem stand22:Tryz.pinned.checked.prog.wantsStandIn (22:Nat)=false:=by kernel_rfl
theorem stand25:Tryz.pinned.checked.prog.wantsStandIn (25:Nat)=false:=by kernel_rfl
set_option maxRecDepth 100000 in
theorem lifted(os:Os)(started:os.Started)(H:Type)(enc:TypeId×Value→H):
 ReturnsInHanded {} Tryz.checked os 9 .any (fun w args=>(Rows.taggerUnknownSpec.pre enc Tryz.prog Tryz.f9 [] false w args∧laidMetH Tryz.prog zmO w)∧sizedMet enc Tryz.prog Tryz.f9 (OpenSpec.ofChange Rows.taggerUnknownSpec) false w args)
  (Rows.taggerUnknownSpec.post enc Tryz.prog Tryz.f9 false true false false):=by
 refine returnsInHanded_of_change_and (C:=Tryz.checked) (X:=fun w _=>laidMetH Tryz.prog zmO w) (fun _ _ _ hh h=>h.of_heap hh) ownK started (by kernel_rfl) Tryz.func9
  (ChangeSpec.witness_shaped (enc:=enc) (C:=Tryz.checked) (os:=os) (X:=fun w _=>laidMetH Tryz.prog zmO w) false (World.doorLaid Tryz.prog 400 os) #[.agg #[.slice none 0 0,.slice none 0 0,.slice none 0 0,.slice none 0 0],.slice none 0 0,.string ⟨#[]⟩] 8 rfl (World.shaped_of_RefB (by kernel_rfl) (by kernel_rfl)) (by kernel_rfl) (by kernel_rfl) (by kernel_rfl) (door_met os)) ?_
 intro W base args ds gs before hval0 hW _ hwt hL _
 have hW':=hW
 obtain⟨p,q,hA0,hV,rfl,hfz,hnd⟩:=hW
 have hA:DataW.TrodAll enc Tryz.prog W 0 (fun _=>true) true Tryz.f9.params.toList args.toList ds p:=hA0
 rw [zty]at hA
 obtain⟨v0,v1,v2,d0,d1,d2,p0,p1,p2,rfl,rfl,rfl,h0,h1,h2⟩:=trodAll_three hA
 obtain⟨rfl,rfl⟩:=trodVars_none hV
 have hlt:=DataW.TrodAll.lt hA
 have hwt':∀ n∈DataW.weightsEach Tryz.prog [25,22,9] [d0,d1,d2],n≤reachBytes:=fun n hn=>by have:=List.all_eq_true.1 hwt n (by rw [zty,show Rows.taggerUnknownSpec.plain.varTypes Tryz.checked.prog=[]from rfl,List.append_nil,List.append_nil];exact hn);simpa using this
 simp only [Go.Ab.weightsEach_cons]at hwt'
 have w0:∀ n∈d0.weights Tryz.prog 25,n≤reachBytes:=fun n hn=>hwt' n (List.mem_append_left _ hn)
 have w1:∀ n∈d1.weights Tryz.prog 22,n≤reachBytes:=fun n hn=>hwt' n (List.mem_append_right _ (List.mem_append_left _ hn))
 have w2:∀ n∈d2.weights Tryz.prog 9,n≤reachBytes:=fun n hn=>hwt' n (List.mem_append_right _ (List.mem_append_right _ (List.mem_append_left _ hn)))
 have hv0:Value.okWide Tryz.prog W .any base 25 v0:=hval0 0 25 v0 rfl rfl
 have c0:∃ cs,v0=.agg cs:=by obtain⟨cs,e,_⟩:=okWide_struct Tryz.underlying25 hv0;exact⟨cs,e⟩
 obtain⟨a0,o0,r0⟩:=Go.Proofs.dMdl.argS h0 c0 w0
 have hv1:Value.okWide Tryz.prog W .any base 22 v1:=hval0 1 22 v1 rfl rfl
 have c1:v1.cells=#[v1]:=by obtain⟨_,_,_,e⟩:=okWide_slice Tryz.underlying22 hv1;rw [e];rfl
 obtain⟨a1,o1,r1⟩:=Go.Proofs.dStrs.arg1 h1 c1 w1
 replace r1:=r1 _ rfl
 have hv2:Value.okWide Tryz.prog W .any base 9 v2:=hval0 2 9 v2 rfl rfl
 have c2:v2.cells=#[v2]:=by obtain⟨_,e⟩:=okWide_string Tryz.underlying9 hv2;rw [e];rfl
 obtain⟨a2,o2,r2⟩:=Go.Proofs.dStr.arg1 h2 c2 w2
 replace r2:=r2 _ rfl
 refine(call_of hL (Go.Proofs.unknown_in a0 a1 a2 o0 o1) rfl (fun i x hx=>by
  match i with
  |0=>cases hx;exact⟨v0,rfl,r0⟩
  |1=>cases hx;exact⟨v1,rfl,r1⟩
  |2=>cases hx;exact⟨v2,rfl,r2⟩
  |i+3=>simp at hx)).mono fun e W' ⟨he,bel⟩=>?_
 subst he
 have k0:=Below.trod zjg (by kernel_rfl) (of_decide_eq_true (by kernel_rfl)) h0 bel (fun x hx=>hlt x (List.mem_append_left _ (List.mem_append_left _ hx)))
 have k1:=Below.trod zjg (by kernel_rfl) (of_decide_eq_true (by kernel_rfl)) h1 bel (fun x hx=>hlt x (List.mem_append_left _ (List.mem_append_right _ hx)))
 have k2:=Below.trod zjg (by kernel_rfl) (of_decide_eq_true (by kernel_rfl)) h2 bel (fun x hx=>hlt x (List.mem_append_right _ hx))
 exact⟨_,rfl,_,_,_,[],_,[],hW',trodAll_mk1 (shut_bool Tryz.underlying4 _),trodAll_mk3 k0 k1 k2,rfl,bel.frame _,fun h=>by cases h⟩
theorem said:Rows.TaggerUnknownSaid:=
 OpenClaim.holds_of_wide 9 Tryz.f9 rfl rfl rfl rfl rfl rfl rfl ⟨rfl,rfl,rfl,rfl,rfl⟩ rfl rfl rfl rfl rfl (by kernel_rfl) Tryz.func9 (by kernel_rfl)
  (of_decide_eq_true (by kernel_rfl)) (by unfold Func.isWrapper;first|(rw [if_pos (by decide+kernel)];kernel_rfl)|(rw [if_neg (by decide+kernel)];exact⟨rfl,rfl⟩))
  (fun os started H enc _=>lifted os started H enc)
theorem unknown_holds:Rows.TaggerUnknownCardSaid:=
 Claim7.holds_tied_plain_at .later [] [.data,.data,.data] true (true, "d3bf08ebd9ea1bcaa5cb35fb73af600287fdc0001c94dc43560aeefca0fab896") true
  said (fun _ h=>by cases h) (by kernel_rfl) (fun _ h=>by cases h) taggerUnknown_row_tie rfl ⟨rfl,rfl⟩ (by kernel_rfl) rfl
  (fun f fn hf hfn=>by
   obtain rfl:f=9:=Option.some.inj ((show Tryz.prog.funcNamed "abugida/abugidalaw36.TaggerUnknown" =some 9 by kernel_rfl).symm.trans hf) |>.symm
   obtain rfl:fn=Tryz.f9:=(Option.some.inj (Tryz.func9.symm.trans hfn)).symm;exact⟨by kernel_rfl,fun j t ht=>by
    rw [Tryz.params9]at ht;match j with
    |0=>exact(Option.some.inj ht:(25:Nat)=t)▸stand25
    |1=>exact(Option.some.inj ht:(22:Nat)=t)▸stand22
    |2=>exact(Option.some.inj ht:(9:Nat)=t)▸stand9
    |j+3=>simp at ht⟩)
  (by kernel_rfl)
#print axioms unknown_holds
end Go.Proofs.YthbimeikbkjnkaaGreatDoor
