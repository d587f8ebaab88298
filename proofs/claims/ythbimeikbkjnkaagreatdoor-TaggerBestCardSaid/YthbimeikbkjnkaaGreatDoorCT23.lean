/- Best: the plain law and the statement's own function. -/
import Derived.Test.YthbimeikbkjnkaaGreatDoorCT11
import Derived.Test.YthbimeikbkjnkaaGreatDoorCards
import Derived.Test.YthbimeikbkjnkaaGreatDoorTie
import Derived.ProofKit
import Derived.LaidMore
import Derived.OpenShut
import Derived.Stop.Joined
import Derived.Stop.LaidErr
import Derived.SevenTiedAt
import Derived.Lib.LaidTab
import Derived.Carry
set_option linter.all false
set_option maxHeartbeats 16000000
set_option maxRecDepth 100000
namespace Go.Proofs
open Go.Ab Go.Cnt Go.Pl Go.Tg
theorem LL_all(n:Nat):∀(t:Nat) (l:List Nat),l.length=t→(∀ x∈l,x<n)→l∈LL n t
 |0,l,h,_=>by rw [List.eq_nil_of_length_eq_zero h];simp [LL]
 |t+1,l,h,hx=>by
  have hne:l≠[]:=fun e=>by rw [e]at h;cases h
  rw [LL,List.mem_flatMap];refine⟨l.dropLast,LL_all n t _ (by rw [List.length_dropLast];omega) fun x hx'=>hx x (List.dropLast_subset l hx'),?_⟩;rw [List.mem_map];exact⟨l.getLast hne,List.mem_range.2 (hx _ (List.getLast_mem hne)),List.dropLast_concat_getLast hne⟩
theorem fit_sh {m:Mdl}{ws:List Str}(h:fitB m ws=true)(hv:vmB m=true):Sh m (zq m ws):=by
 unfold fitB at h;simp only [Bool.and_eq_true,decide_eq_true_eq,List.all_cons,List.all_nil,and_true]at h;obtain⟨hsz,hn,he⟩:=h;unfold zhb at hsz;obtain⟨s1,s2,s3,s4,s5⟩:=hsz;have key:∀ {M:List (List Str)} {r w i j:Nat},mat8 M=true→matB M r w=true→i<r→j<w→((nthR M i).getD j []).length≤12:=fun {M r w i j} h hm hi hj=>by unfold mat8 row8 at h;simp only [List.all_eq_true,Bool.and_eq_true,decide_eq_true_eq]at h;unfold matB at hm;simp only [Bool.and_eq_true,decide_eq_true_eq,List.all_eq_true]at hm;have hm1:nthR M i∈M:=rowR.nth_mem (by omega);have h2:=hm.2 _ hm1;unfold zez at h2;simp only [Bool.and_eq_true,decide_eq_true_eq]at h2;have:=(h _ hm1).2 _ (zfi (show j<(nthR M i).length by omega));unfold zr9 at this;exact of_decide_eq_true this
 obtain⟨hN,hE⟩:=zgV hv;have hcl:(zq m ws).length=ws.length:=by simp [zq]
 refine⟨s1,by omega,fun i j hi hj=>⟨(zhD hN (by omega) (by omega)).1,key hn hN (by omega) (by omega)⟩,fun j k hj hk=>?_⟩;have hc:(zq m ws).getD k 0<m.words.length+1:=by rw [zfo m ws k (by omega)];exact Nat.lt_succ_of_le (zdY _ _)
 exact⟨(zhD hE hj hc).1,key he hE hj hc⟩
theorem ltS_irr(a:Str):¬ltS a a=true:=fun h=>by have e:ltS a a=false:=zbi a;rw [e]at h;cases h
theorem zxZ {l:List Str}(h:incS l=true){i:Nat}(hi:i<l.length):idxS l (l.getD i [])=i:=
 zpa hi rfl fun j hj e=>by have:=zxY h _ i hj hi;rw [e]at this;exact ltS_irr _ this
theorem zvo {m:Mdl}(h:incS m.tags=true){L:List Nat}(hL:∀ t∈L,t<m.tags.length):zbo m (L.map fun t=>m.tags.getD t [])=L:=by unfold zbo;rw [List.map_map];have:L.map (idxS m.tags ∘ fun t=>m.tags.getD t [])=L.map id:=List.map_congr_left fun t ht=>zxZ h (hL t ht);rw [this,List.map_id]
theorem zsi(m:Mdl)(ws tgs:List Str):(zb7 m ws tgs).1.length≤1000:=by
 rw [zfE];unfold zcv;split
 ·simp
 ·split
  ·simp
  ·exact prob_len _ _ _
theorem totR_len(m:Mdl)(ws:List Str):(totR m ws).1.length≤1000:=by
 unfold totR;split
 ·simp
 ·split
  ·simp
  ·exact zhS _ _
theorem zvq(m:Mdl)(ws:List Str):(tagR m ws).1.2.length≤1000:=by
 unfold tagR;split
 ·simp
 ·split
  ·simp
  ·split
   ·simp
   ·exact(zfk (m:=m) (zer (m:=m) (t:=(zq m ws).length) (zeo m (zq m ws) (zq m ws).length)) _ _).1
theorem zi8(f:List Nat→Nat){L:List Nat}:∀ {l:List (List Nat)},L∈l→f L≤(l.map f).sum
 |x::l,h=>by
  rw [List.map_cons,List.sum_cons];rcases List.mem_cons.1 h with rfl|h
  ·omega
  ·have:=zi8 f h;omega
def BestP(l:List Str)(p:Str)(e:Int)(s:Str)(f:Int)(t:Str)(g:Int)(q:Str)(h:Int):Prop:=
 (l=[]∧p=[]∧(e=1∨e=2))∨(f≠2∧g≠2∧((e=4∧g=0∧t=[48]∧(f≠0∨s=[48]))∨(e=0∧h=0∧q=p∧(f≠0∨zaG s p≤0)∧g=0∧0≤zaG t p)))
theorem zuK(m:Mdl)(ws tgs:List Str)(hfit:fitB m ws=true):
 BestP (tagR m ws).1.1 (tagR m ws).1.2 (tagR m ws).2 (zb7 m ws tgs).1 (zb7 m ws tgs).2 (totR m ws).1 (totR m ws).2 (zb7 m ws (tagR m ws).1.1).1 (zb7 m ws (tagR m ws).1.1).2:=by
 rw [zfE,zfE]
 unfold BestP
 by_cases hb:(vmB m&&zci ws)=false
 ·left
  unfold tagR
  rw [if_pos hb]
  exact⟨rfl,rfl,.inl rfl⟩
 have hv:vmB m=true:=by
  cases h:vmB m with
  |true=>rfl
  |false=>exact absurd (by rw [h];rfl) hb
 have hcl:(zq m ws).length=ws.length:=by simp [zq]
 have hsh:=fit_sh hfit hv
 obtain⟨N,E,b,DN,DE,Df,H, -⟩:=nums_ex hv (zq m ws) (fun c hc=>by unfold zq at hc;obtain⟨s,_,rfl⟩:=List.mem_map.1 hc;exact zdY _ _) ws hcl
 have hinc:incS m.tags=true:=by unfold vmB at hv;simp only [Bool.and_eq_true]at hv;exact hv.2.2.1
 have o1:Oc False (finT stL plL m z48 o49 (zq m ws)).2 (RL (YY DN DE (zq m ws).length*Df) (finT stL plL m z48 o49 (zq m ws)).1 (fin m.tags.length (wN N E) b (zq m ws).length)):=finL_oc H (fun h=>h.elim)
 have o2:Oc False (finT stS plS m [48] [49] (zq m ws)).2 _:=finS_oc H (fun h=>h.elim)
 have o3:=fun L hL=>prob_oc (B:=False) (L:=L) H (fun h=>h.elim) hL
 have hb1:=fin_best m.tags.length (wN N E) b (zq m ws).length
 have hsum:∀ L∈LL m.tags.length (zq m ws).length,wt m.tags.length (wN N E) b L (zq m ws).length≤sfin m.tags.length (wN N E) b (zq m ws).length:=fun L hL=>by rw [zqo,zbS,Nat.zero_add];exact zi8 (fun L=>wt m.tags.length (wN N E) b L (zq m ws).length) hL
 have hz:(∀ L∈LL m.tags.length (zq m ws).length,wt m.tags.length (wN N E) b L (zq m ws).length=0)→sfin m.tags.length (wN N E) b (zq m ws).length=0:=fun h=>by rw [zqo,zbS,Nat.zero_add];have:=zlH (fun L=>wt m.tags.length (wN N E) b L (zq m ws).length) 0 (LL m.tags.length (zq m ws).length) fun L hL=>Nat.le_of_eq (h L hL);omega
 have g0:=fin_sh hsh (den_ex hsh)
 have p0:∀ L∈LL m.tags.length (zq m ws).length,(prob m (zq m ws) L).2=0:=fun L hL=>prob_sh hsh fun i hi=>by have hl:=zd8 _ _ _ hL;refine znO _ _ _ hL _ ?_;rw [List.getD_eq_getElem?_getD,List.getElem?_eq_getElem (by omega)];exact List.getElem_mem _
 have sc:∀ tgs,(zcv m ws tgs).2≠2∧((zcv m ws tgs).2=0→∃ L∈LL m.tags.length (zq m ws).length,zcv m ws tgs=prob m (zq m ws) L):=fun tgs=>by
  unfold zcv;by_cases h1:(vmB m&&zci ws)=false∨tgs.length≠ws.length
  ·rw [if_pos h1];exact⟨by decide,fun h=>absurd h (by decide)⟩
  ·rw [if_neg h1];by_cases h2:¬∀ t∈zbo m tgs,t<m.tags.length
   ·rw [if_pos h2];exact⟨by decide,fun h=>absurd h (by decide)⟩
   ·rw [if_neg h2];have hL:zbo m tgs∈LL m.tags.length (zq m ws).length:=LL_all _ _ _ (by have:tgs.length=ws.length:=Classical.not_not.1 fun h=>h1 (.inr h);simp [zbo,zq,this]) (Classical.not_not.1 h2);exact⟨by rw [p0 _ hL];decide,fun _=>⟨_,hL,rfl⟩⟩
 have is_p:∀ L,L∈LL m.tags.length (zq m ws).length→Is (prob m (zq m ws) L).1 (wt m.tags.length (wN N E) b L (zq m ws).length) (YY DN DE (zq m ws).length*Df):=fun L hL=>by
  rcases o3 L hL with⟨_,h⟩|⟨e,_⟩
  ·exact h
  ·rw [p0 L hL]at e;cases e
 have is_t:Is (finT stS plS m [48] [49] (zq m ws)).1 (sfin m.tags.length (wN N E) b (zq m ws).length) (YY DN DE (zq m ws).length*Df):=by
  rcases o2 with⟨_,h⟩|⟨e,_⟩
  ·exact h
  ·rw [g0]at e;cases e
 have ht:totR m ws=((finT stS plS m [48] [49] (zq m ws)).1,0):=by unfold totR;rw [if_neg hb,if_neg (by rw [g0];simp)]
 rw [ht]
 rcases o1 with⟨e1,r1,r2⟩|⟨e1,_⟩
 ·right
  refine⟨(sc tgs).1,show (0:Int)≠2 by decide,?_⟩
  by_cases hz1:(finT stL plL m z48 o49 (zq m ws)).1.1=[48]
  ·left
   have h0:(fin m.tags.length (wN N E) b (zq m ws).length).1=0:=r1.z.1 hz1
   have hw:∀ L∈LL m.tags.length (zq m ws).length,wt m.tags.length (wN N E) b L (zq m ws).length=0:=fun L hL=>by have:=(hb1.b _ L ⟨hL,rfl⟩).1;omega
   have et:tagR m ws=(([],[]),4):=by unfold tagR;rw [if_neg hb,if_neg (by rw [e1];simp),if_pos hz1]
   rw [et]
   refine⟨rfl,rfl,?_,?_⟩
   ·rw [hz hw]at is_t
    exact is_t.zero
   ·by_cases hf:(zcv m ws tgs).2=0
    ·right
     obtain⟨L,hL,e⟩:=(sc tgs).2 hf
     rw [e]
     have:=is_p L hL
     rw [hw L hL]at this
     exact this.zero
    ·exact .inl hf
  ·right
   have h0:(fin m.tags.length (wN N E) b (zq m ws).length).1≠0:=fun h=>hz1 (r1.z.2 h)
   obtain⟨i1,i2⟩:=hb1.i h0
   have et:tagR m ws=(((finT stL plL m z48 o49 (zq m ws)).1.2.map fun t=>m.tags.getD t [],(finT stL plL m z48 o49 (zq m ws)).1.1),0):=by unfold tagR;rw [if_neg hb,if_neg (by rw [e1];simp),if_neg hz1]
   rw [et]
   dsimp only
   rw [r2]
   have hlt:∀ t∈(fin m.tags.length (wN N E) b (zq m ws).length).2,t<m.tags.length:=znO _ _ _ i1
   have hback:=zvo hinc hlt
   have hq:zcv m ws ((fin m.tags.length (wN N E) b (zq m ws).length).2.map fun t=>m.tags.getD t [])=prob m (zq m ws) (fin m.tags.length (wN N E) b (zq m ws).length).2:=by
    unfold zcv;rw [hback,if_neg,if_neg]
    ·exact fun k=>k hlt
    ·rintro(k|k)
     ·exact hb k
     ·exact k (by rw [List.length_map,zd8 _ _ _ i1,hcl])
   rw [hq]
   have hqi:=is_p _ i1
   rw [←i2]at hqi
   refine⟨rfl,p0 _ i1,hqi.uniq r1,?_,rfl,?_⟩
   ·by_cases hf:(zcv m ws tgs).2=0
    ·right
     obtain⟨L,hL,e⟩:=(sc tgs).2 hf
     rw [e]
     have hle:=(hb1.b _ L ⟨hL,rfl⟩).1
     rw [zrg (is_p L hL) r1]
     split
     ·exact Int.le_refl _
     ·rw [if_pos (by omega)];decide
    ·exact .inl hf
   ·have hle:=hsum _ i1
    rw [←i2]at hle
    rw [zrg is_t r1]
    split
    ·exact Int.le_refl _
    ·rw [if_neg (by omega)];decide
 ·left
  have et:tagR m ws=(([],[]),2):=by unfold tagR;rw [if_neg hb,if_pos (by rw [e1];simp),e1]
  rw [et]
  exact⟨rfl,rfl,.inr rfl⟩
end Go.Proofs

namespace Go.Proofs
open Tryz Go.Ab Go.Cnt Go.Pl Go.Tg
theorem best_law(m:Mdl)(ws tgs:List Str)(hi:InM m ws)(ht:tgs.length≤1000000000000000):PCall prog 8 [mdlV m,.fs (strs ws) ws.length,.fs (strs tgs) tgs.length] (.ret (.bool true)):=by
 have hΓ:=zf zup (zf cTAwk_ok (zf zzk (zf zuo (zf zzi (zf zzz zh)))));have e1:=zuq m ws hi;have hfit:=fitB_fit hi;refine PCall.walk (rs:=[.tmp 6]) [0,1,2,3,6,7,8,9,10,11,12,13,14,15,23,58,70] [25] mixed (hΓ) (zg) call8 func8 rfl ntmps8 rfl (by kernel_rfl) (by simp) (by simp [push_cast,zdp]) ?_;cases hb:(!fitB m ws||decide (6<(tgs.length:Int)))with
 |true=>
  generalize fitB m ws=fb at e1 hb;clear hfit;obtain⟨T,W,N,E⟩:=m;unfold mdlV at e1 ⊢;dsimp only at e1 ⊢;simp (disch:=first|assumption|(push_cast<;>omega)|omega) only [go_sem,e1];rw [hb];simp (disch:=first|assumption|(push_cast<;>omega)|omega) only [go_sem]
 |false=>
  have hb':fitB m ws=true∧tgs.length≤6:=by simp only [Bool.or_eq_false_iff,Bool.not_eq_false',decide_eq_false_iff_not]at hb;exact⟨hb.1,by omega⟩
  obtain⟨hf,h4,hl⟩:=hfit hb'.1;have e2:=zzl m ws ⟨hf,show ws.length≤1000 by omega,hl⟩;have e3:=zju m ws tgs ⟨hf,show ws.length≤1000000 by omega,hi.s,show tgs.length≤1000000 by omega,hl⟩;have e4:=zzj m ws ⟨hf,show ws.length≤1000 by omega,hl⟩;have hlen:=tagR_len m ws (by omega);have e5:=zju m ws (tagR m ws).1.1 ⟨hf,show ws.length≤1000000 by omega,hi.s,show (tagR m ws).1.1.length≤1000000 by omega,hl⟩;have key:=zuK m ws tgs hb'.1;have k1:=zvq m ws;have k2:=zsi m ws tgs;have k3:=totR_len m ws;generalize zb7 m ws (tagR m ws).1.1=y at key e5;generalize tagR m ws=z at*;generalize zb7 m ws tgs=x at*;generalize totR m ws=w at*;obtain⟨⟨l,p⟩,e⟩:=z;obtain⟨s,f⟩:=x;obtain⟨t,g⟩:=w;obtain⟨q,h⟩:=y;unfold tagV at e2;dsimp only at e2 e3 e4 e5 key hlen k1 k2 k3;generalize fitB m ws=fb at e1 hb;clear hb' hfit hf hl hi;obtain⟨T,W,N,E⟩:=m;unfold mdlV at e1 e2 e3 e4 e5 ⊢;dsimp only at e1 e2 e3 e4 e5 ⊢;simp (disch:=first|assumption|(push_cast<;>omega)|omega) only [go_sem,e1];rw [hb];unfold BestP at key;rcases key with⟨rfl,rfl,rfl|rfl⟩|⟨n1,n2,⟨rfl,rfl,rfl,n3⟩|⟨rfl,rfl,rfl,n3,rfl,n4⟩⟩
  ·simp (disch:=first|assumption|(push_cast<;>omega)|omega) only [go_sem,e2,e3,e4]
  ·simp (disch:=first|assumption|(push_cast<;>omega)|omega) only [go_sem,e2,e3,e4]
  ·simp (disch:=first|assumption|(push_cast<;>omega)|omega) only [go_sem,e2,e3,e4];rw [decide_eq_false n1];simp (disch:=first|assumption|(push_cast<;>omega)|omega) only [go_sem];rcases n3 with n3|n3
   ·rw [decide_eq_false n3];rfl
   ·rw [decide_eq_true n3,Bool.or_true]
  ·simp (disch:=first|assumption|(push_cast<;>omega)|omega) only [go_sem,e2,e3,e4,e5];rw [decide_eq_false n1];simp (disch:=first|assumption|(push_cast<;>omega)|omega) only [go_sem,e5];rw [decide_eq_true n4,Bool.and_true];rcases n3 with n3|n3
   ·rw [decide_eq_false n3];rfl
   ·rw [decide_eq_true n3,Bool.or_true]
end Go.Proofs

namespace Go.Proofs
open Go.Ab Go.Cnt Go.Pl
theorem best_in(p:MdlT)(w t:List Str)(h:okM p)(hw:okS w)(ht:okS t):
 PCall Tryz.prog 8 [.agg (mdlR.enc p),.fs (strR.cells w) w.length,.fs (strR.cells t) t.length] (.ret (.bool true)):=by
 rw [mdl_enc,zcZ,zcZ]
 exact best_law _ w t (inM_of h hw) (zck ht.1)
end Go.Proofs

namespace Go.Proofs.YthbimeikbkjnkaaGreatDoor
open Go.ChangeShapes Go.WideShapes Go.ChangeAt Go.WideMaps Go.WideElems Go.RowKit
theorem ownK:ownKnob Tryz.prog.godebug=none:=by kernel_rfl
theorem zkN:laidOutB Tryz.prog=true:=by kernel_rfl
abbrev zoW:List (String×DataW Unit):=[("math/bits.deBruijn32tab",Rows.laid_math_bits_deBruijn32tab),("math/bits.deBruijn64tab",Rows.laid_math_bits_deBruijn64tab),("internal/strconv.uint64pow10",Rows.laid_internal_strconv_uint64pow10)]
theorem door_met(os:Os):laidMetH Tryz.prog zoW ((World.doorLaid Tryz.prog 400 os).forCall (fun _ _=>0) ⟨#[],#[.agg #[.slice none 0 0,.slice none 0 0,.slice none 0 0,.slice none 0 0],.slice none 0 0,.slice none 0 0],[]⟩).memory:=
 laidMetH_of_parts3 (fuel:=8) (laidMet_of_run' 8 (by kernel_rfl) (by kernel_rfl)) (by kernel_rfl) (by kernel_rfl)
def tens:List Int:=(List.range 20).map fun i=>((10 ^ i:Nat):Int)
theorem zr5:(Rows.laid_internal_strconv_uint64pow10:DataW Unit)=Lib.tabData .u64 tens:=by kernel_rfl
theorem gTab:Tryz.prog.globalNamed "internal/strconv.uint64pow10" =some 1:=by kernel_rfl
theorem gTabT:(Tryz.prog.globals[1]?).map (·.type)=some 262:=by kernel_rfl
theorem underA:Tryz.prog.underlying 262=some (.array 20 185):=by kernel_rfl
theorem underU:Tryz.prog.underlying 185=some (.int .u64):=by kernel_rfl
theorem cellsU:Tryz.prog.cellsOf 185=1:=by kernel_rfl
theorem cellsA:Tryz.prog.cellsOf 262=20:=by kernel_rfl
theorem tab_of {W:World}(h:laidMetH Tryz.prog zoW W):∃ t fr,W.heap[1]? =some (.cells (tens.map fun z=>Value.int .u64 z).toArray t fr):=by
 rw [MakeChecks.laidMetH_plain _ _ _ (by kernel_rfl)]at h;have h2:=h.tail.tail;rw [zr5]at h2;have h3:W.var? Tryz.prog "internal/strconv.uint64pow10" =some (tens.map fun z=>Value.int .u64 z).toArray:=Lib.tabIs_of_head gTab gTabT underA underU cellsU cellsA h2;unfold World.var? at h3;rw [gTab]at h3;simp only [Option.bind_some]at h3;cases hb:W.heap[1]? with
 |none=>rw [hb]at h3;cases h3
 |some o=>
  rw [hb]at h3;cases o<;>first|(cases h3;exact⟨_,_,rfl⟩)|cases h3
theorem gok_of {W:World}(h:laidMetH Tryz.prog zoW W):Go.Ab.GOK (Go.Ab.gW W):=by
 obtain⟨t,fr,hb⟩:=tab_of h;have hphi:=Go.Ab.gW_of hb;intro k cs e;have e':(if k=1 then some Go.Ab.pow10V else none)=some cs:=e;split at e';rotate_left;·cases e'
 rename_i hk;cases e';subst hk;have hsz:(tens.map fun z=>Value.int .u64 z).toArray.size=Go.Ab.pow10V.length:=by kernel_rfl
 refine⟨Go.Ab.VRel.mk_fp hphi ?_,_,hphi,hsz⟩;intro i x hx;have hi:i<20:=(List.getElem?_eq_some_iff.1 hx).1;refine⟨.int .u64 ((10 ^ i:Nat):Int),?_,?_⟩
 ·show (tens.map fun z=>Value.int .u64 z).toArray[0+i]? =_;rw [Nat.zero_add];simp [tens,hi]
 ·have:Go.Ab.pow10V[i]? =some (.int .u64 ((10 ^ i:Nat):Int)):=by simp [Go.Ab.pow10V,hi]
  rw [this]at hx;cases hx;exact .int _ _
theorem call_of {W:World}(h:laidMetH Tryz.prog zoW W){args:Array Value}{vs:List Go.Ab.V}(hc:Go.Ab.PCall Tryz.prog 8 vs (.ret (.bool true)))(hs:args.size=vs.length)(hp:Go.Ab.PW (Go.Ab.gW W) vs (fun i=>args[i]?)):
 Calls Tryz.prog 8 args W fun e W'=>e=.returned (.bool true)∧Below W.heap.size W W':=by
 have hc':=hc (Go.Ab.gW W) W args (gok_of h) Go.Ab.gW_frz hs hp
 refine(zd9 (Go.Ab.canB_ok (by kernel_rfl)) hc').mono fun e W' q=>?_
 obtain⟨phi',vc,_,hbel,rfl,hv⟩:=q
 rw [hv.inv_bool]
 exact⟨rfl,hbel.os,hbel.tape.eq,hbel.output,hbel.size,hbel.block⟩
theorem zwC:Tryz.f8.params.toList=[25,22,22]:=by kernel_rfl
theorem zvJ:Tryz.pinned.checked.prog.wantsStandIn (22:Nat)=false:=by kernel_rfl
theorem stand25:Tryz.pinned.checked.prog.wantsStandIn (25:Nat)=false:=by kernel_rfl
theorem lifted(os:Os)(started:os.Started)(H:Type)(enc:TypeId×Value→H):
 ReturnsInHanded {} Tryz.checked os 8 .any (fun w args=>(Rows.taggerBestSpec.pre enc Tryz.prog Tryz.f8 [] false w args∧laidMetH Tryz.prog zoW w)∧sizedMet enc Tryz.prog Tryz.f8 (OpenSpec.ofChange Rows.taggerBestSpec) false w args)
  (Rows.taggerBestSpec.post enc Tryz.prog Tryz.f8 false true false false):=by
 refine returnsInHanded_of_change_and (C:=Tryz.checked) (X:=fun w _=>laidMetH Tryz.prog zoW w) (fun _ _ _ hh h=>h.of_heap hh) ownK started (by kernel_rfl) Tryz.func8
  (ChangeSpec.witness_shaped (enc:=enc) (C:=Tryz.checked) (os:=os) (X:=fun w _=>laidMetH Tryz.prog zoW w) false (World.doorLaid Tryz.prog 400 os) #[.agg #[.slice none 0 0,.slice none 0 0,.slice none 0 0,.slice none 0 0],.slice none 0 0,.slice none 0 0] 8 rfl (World.shaped_of_RefB (by kernel_rfl) (by kernel_rfl)) (by kernel_rfl) (by kernel_rfl) (by kernel_rfl) (door_met os)) ?_
 intro W base args ds gs before hval0 hW _ hwt hL _
 have hW':=hW
 obtain⟨p,q,hA0,hV,rfl,hfz,hnd⟩:=hW
 have hA:DataW.TrodAll enc Tryz.prog W 0 (fun _=>true) true Tryz.f8.params.toList args.toList ds p:=hA0
 rw [zwC]at hA
 obtain⟨v0,v1,v2,d0,d1,d2,p0,p1,p2,rfl,rfl,rfl,h0,h1,h2⟩:=trodAll_three hA
 obtain⟨rfl,rfl⟩:=trodVars_none hV
 have hlt:=DataW.TrodAll.lt hA
 have hwt':∀ n∈DataW.weightsEach Tryz.prog [25,22,22] [d0,d1,d2],n≤reachBytes:=fun n hn=>by have:=List.all_eq_true.1 hwt n (by rw [zwC,show Rows.taggerBestSpec.plain.varTypes Tryz.checked.prog=[]from rfl,List.append_nil,List.append_nil];exact hn);simpa using this
 simp only [Go.Ab.weightsEach_cons]at hwt'
 have w0:∀ n∈d0.weights Tryz.prog 25,n≤reachBytes:=fun n hn=>hwt' n (List.mem_append_left _ hn)
 have w1:∀ n∈d1.weights Tryz.prog 22,n≤reachBytes:=fun n hn=>hwt' n (List.mem_append_right _ (List.mem_append_left _ hn))
 have w2:∀ n∈d2.weights Tryz.prog 22,n≤reachBytes:=fun n hn=>hwt' n (List.mem_append_right _ (List.mem_append_right _ (List.mem_append_left _ hn)))
 have hv0:Value.okWide Tryz.prog W .any base 25 v0:=hval0 0 25 v0 rfl rfl
 have c0:∃ cs,v0=.agg cs:=by obtain⟨cs,e,_⟩:=okWide_struct Tryz.underlying25 hv0;exact⟨cs,e⟩
 obtain⟨a0,o0,r0⟩:=Go.Proofs.dMdl.argS h0 c0 w0
 have hv1:Value.okWide Tryz.prog W .any base 22 v1:=hval0 1 22 v1 rfl rfl
 have c1:v1.cells=#[v1]:=by obtain⟨_,_,_,e⟩:=okWide_slice Tryz.underlying22 hv1;rw [e];rfl
 obtain⟨a1,o1,r1⟩:=Go.Proofs.dStrs.arg1 h1 c1 w1
 replace r1:=r1 _ rfl
 have hv2:Value.okWide Tryz.prog W .any base 22 v2:=hval0 2 22 v2 rfl rfl
 have c2:v2.cells=#[v2]:=by obtain⟨_,_,_,e⟩:=okWide_slice Tryz.underlying22 hv2;rw [e];rfl
 obtain⟨a2,o2,r2⟩:=Go.Proofs.dStrs.arg1 h2 c2 w2
 replace r2:=r2 _ rfl
 refine(call_of hL (Go.Proofs.best_in a0 a1 a2 o0 o1 o2) rfl (fun i x hx=>by
  match i with
  |0=>cases hx;exact⟨v0,rfl,r0⟩
  |1=>cases hx;exact⟨v1,rfl,r1⟩
  |2=>cases hx;exact⟨v2,rfl,r2⟩
  |i+3=>simp at hx)).mono fun e W' ⟨he,bel⟩=>?_
 subst he
 have k0:=Below.trod zkN (by kernel_rfl) (of_decide_eq_true (by kernel_rfl)) h0 bel (fun x hx=>hlt x (List.mem_append_left _ (List.mem_append_left _ hx)))
 have k1:=Below.trod zkN (by kernel_rfl) (of_decide_eq_true (by kernel_rfl)) h1 bel (fun x hx=>hlt x (List.mem_append_left _ (List.mem_append_right _ hx)))
 have k2:=Below.trod zkN (by kernel_rfl) (of_decide_eq_true (by kernel_rfl)) h2 bel (fun x hx=>hlt x (List.mem_append_right _ hx))
 exact⟨_,rfl,_,_,_,[],_,[],hW',trodAll_mk1 (shut_bool Tryz.underlying4 _),trodAll_mk3 k0 k1 k2,rfl,bel.frame _,fun h=>by cases h⟩
theorem said:Rows.TaggerBestSaid:=
 OpenClaim.holds_of_wide 8 Tryz.f8 rfl rfl rfl rfl rfl rfl rfl ⟨rfl,rfl,rfl,rfl,rfl⟩ rfl rfl rfl rfl rfl (by kernel_rfl) Tryz.func8 (by kernel_rfl)
  (of_decide_eq_true (by kernel_rfl)) (by unfold Func.isWrapper;first|(rw [if_pos (by decide+kernel)];kernel_rfl)|(rw [if_neg (by decide+kernel)];exact⟨rfl,rfl⟩))
  (fun os started H enc _=>lifted os started H enc)
theorem best_holds:Rows.TaggerBestCardSaid:=
 Claim7.holds_tied_plain_at .later [] [.data,.data,.data] true (true, "d3bf08ebd9ea1bcaa5cb35fb73af600287fdc0001c94dc43560aeefca0fab896") true
  said (fun _ h=>by cases h) (by kernel_rfl) (fun _ h=>by cases h) taggerBest_row_tie rfl ⟨rfl,rfl⟩ (by kernel_rfl) rfl
  (fun f fn hf hfn=>by
   obtain rfl:f=8:=Option.some.inj ((show Tryz.prog.funcNamed "abugida/abugidalaw36.TaggerBest" =some 8 by kernel_rfl).symm.trans hf) |>.symm
   obtain rfl:fn=Tryz.f8:=(Option.some.inj (Tryz.func8.symm.trans hfn)).symm;exact⟨by kernel_rfl,fun j t ht=>by
    rw [Tryz.params8]at ht;match j with
    |0=>exact(Option.some.inj ht:(25:Nat)=t)▸stand25
    |1=>exact(Option.some.inj ht:(22:Nat)=t)▸zvJ
    |2=>exact(Option.some.inj ht:(22:Nat)=t)▸zvJ
    |j+3=>simp at ht⟩)
  (by kernel_rfl)
#print axioms best_holds
end Go.Proofs.YthbimeikbkjnkaaGreatDoor
