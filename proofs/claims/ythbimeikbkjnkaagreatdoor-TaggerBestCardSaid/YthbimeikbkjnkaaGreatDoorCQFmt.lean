/- Decimal texts: the shelf's contracts at this translation, laid by hand; strconv.Itoa, strconv.FormatUint. -/
import Derived.Shelf.Strconv.Itoa3
import Derived.Shelf.LaysM
import Derived.Lib.ItoaMem
import Derived.WalkKit
import Derived.BigCall
import Derived.BigGuard
import Derived.Test.YthbimeikbkjnkaaGreatDoorCPlPad
import Derived.Test.YthbimeikbkjnkaaGreatDoorCQDig
set_option linter.all false
set_option maxHeartbeats 16000000
set_option maxRecDepth 100000
namespace Go.Proofs
open Tryz Go.Ab Go.Pl Go.Shelf Go.RowKit Go.Sort Go.Lib
def renI:Ren where
 f:=fun x=>match x with|283=>243|284=>244|285=>245|286=>246|129=>206|317=>254|318=>255|319=>256|320=>257|337=>259|338=>260|n=>n
 t:=fun x=>match x with|3=>3|9=>9|2=>2|4=>4|171=>251|0=>0|53=>185|37=>197|5=>5|173=>253|212=>262|51=>218|20=>20|213=>263|46=>146|232=>265|233=>266|n=>n
 g:=fun x=>match x with|17=>1|18=>2|19=>3|n=>n
theorem laysI284:LaysM.n284 prog renI:=by constructor<;>first|kernel_rfl|(intro w;kernel_rfl)|(constructor<;>first|kernel_rfl|(intro w;kernel_rfl))
theorem laysI285:Lays.n285 prog renI:=by constructor<;>first|kernel_rfl|(intro w;kernel_rfl)
theorem laysI283:Lays.n283 prog renI:=by constructor<;>first|kernel_rfl|(intro w;kernel_rfl)
theorem PCall.ofCalls {P:Program}{f:FuncId}{args:List V}{v:V}(hc:zi P f)(hs:zax v=true)
 (h:∀(g:G) (w:World) (vs:Array Value),GOK g→(∀ c arr,g.phi c=some arr→∃ t fr,w.heap[c]? =some (.cells arr t fr))→vs.size=args.length→PW g args (fun i=>vs[i]?)→
  Calls P f vs w fun e w'=>∃ vc,e=.returned vc∧VRel g v vc∧Bel w.heap.size w w'):PCall P f args (.ret v):=fun g w vs h1 h2 h3 h4=>
 .inl ⟨hc vs w,(h g w vs h1 h2 h3 h4).mono fun e w' ⟨vc,he,hv,hb⟩=>⟨fun _=>none,vc,fun c a e=>(by cases e),hb,he,zee hs hv⟩⟩
theorem bel_grow(w:World)(k:Nat)(os:Array Obj):Bel w.heap.size w (grow (w.drewN k) os):=
 ⟨rfl,⟨rfl,Nat.le_add_right _ _⟩,rfl,by show w.heap.size≤(w.heap++os).size;simp,fun c hc=>by show (w.heap++os)[c]? =_;rw [Array.getElem?_append_left hc]⟩
theorem args2 {g:G}{a b:V}{vs:Array Value}(hvs:vs.size=[a,b].length)(hp:PW g [a,b] (fun i=>vs[i]?)):∃ x y,vs=#[x,y]∧VRel g a x∧VRel g b y:=by
 obtain⟨x,hx,r⟩:=hp 0 a rfl;obtain⟨y,hy,q⟩:=hp 1 b rfl;refine⟨x,y,Array.ext_getElem? fun i=>?_,r,q⟩;match i with
 |0=>exact hx
 |1=>exact hy
 |i+2=>rw [Array.getElem?_eq_none (by simp at hvs;omega)];rfl
theorem zww:pow10V=Lib.pow10Tab.map (fun z=>V.int .u64 z):=by kernel_rfl
theorem ints_arr {g:G}{k:IntKind}{zs:List Int}{arr:Array Value}(hs:arr.size=zs.length)(hp:PW g (zs.map fun z=>V.int k z) (fun i=>arr[0+i]?)):arr=(zs.map fun z=>Value.int k z).toArray:=by
 apply Array.ext_getElem?;intro i;by_cases h:i<zs.length
 ·obtain⟨v,hv,r⟩:=hp i (.int k zs[i]) (by simp [h]);have hv':arr[0+i]? =some v:=hv;rw [Nat.zero_add]at hv';rw [hv',r.inv_int];simp [h]
 ·rw [Array.getElem?_eq_none (by omega),Array.getElem?_eq_none (by simp only [List.size_toArray,List.length_map];omega)]
theorem tab_ok {g:G}{w:World}(hg:GOK g)(hf:∀ c arr,g.phi c=some arr→∃ t fr,w.heap[c]? =some (.cells arr t fr)):Lib.TabIs prog w "internal/strconv.uint64pow10" .u64 Lib.pow10Tab:=by
 obtain⟨hr,arr,hphi,hsz⟩:=hg 1 pow10V rfl;obtain⟨c,o,arr',he,hphi',hpw⟩:=hr.inv_fp;cases he;have e:arr'=arr:=by
  have:some arr'=some arr:=by rw [←hphi, ←hphi']
  exact Option.some.inj this
 subst e;rw [zww]at hpw hsz;have ha:=ints_arr (by simpa using hsz) hpw;obtain⟨t,fr,hh⟩:=hf 1 arr' hphi;show World.var? prog w "internal/strconv.uint64pow10" =_;have hn:prog.globalNamed "internal/strconv.uint64pow10" =some 1:=by kernel_rfl
 unfold World.var?;rw [hn];simp only [Option.bind_some,hh];rw [ha]
theorem zk9:∀ u:Nat,decDigits u=dec u:=fun u=>by
 induction u using Nat.strongRecOn with
 |_ u ih=>
  rw [decDigits];split
  ·rename_i h;rw [zbu h]
  ·rename_i h;rw [zdB (by omega),ih (u / 10) (by omega)]
theorem small_c(i:Nat)(hi:i<100)(w:World):Calls prog 243 #[.int .i64 i] w fun e w'=>e=.returned (.string ⟨(decDigits i).toArray⟩)∧w'=w:=Any.internal_strconv_small laysI283 i hi w
theorem zoJ(u:Nat)(h1:1≤u)(h2:u<18446744073709551616)(w:World)(htab:Lib.TabIs prog w "internal/strconv.uint64pow10" .u64 Lib.pow10Tab):
 Calls prog 244 #[.int .u64 u] w fun e w'=>e=.returned (.int .i64 (Lib.nDigits u))∧w'=w:=Any.internal_strconv_numDigits laysI284 u h1 h2 w htab
theorem ziH(blk off cap:Nat)(u:Nat)(d:Array UInt8)(w:World)(hH:Holds (fun(b:UInt8)=>Value.int .u8 (b.toNat:Int)) w blk off d)(hu:u<10 ^ d.size)(hu64:u<18446744073709551616)(hsz:d.size<4611686018427387904):
 Calls prog 245 #[.slice (some ⟨blk,off,none⟩) d.size cap,.int .u64 u] w fun e w'=>
  e=.returned (.tuple #[])∧∃(n v':Nat) (dk:Array UInt8),w'=(putRow (fun(b:UInt8)=>Value.int .u8 (b.toNat:Int)) w blk off dk).drewN n∧FmtInv d.size u 0 v' dk:=Any.internal_strconv_formatBase10 laysI285 blk off cap u d w hH hu hu64 hsz
theorem fin_pos0(w:World)(o:Obj)(dk:Array UInt8)(k:Nat):∃ os,(putRow (fun(b:UInt8)=>Value.int .u8 (b.toNat:Int)) (w.alloc o) w.heap.size 0 dk).drewN k=grow (w.drewN k) os:=by rw [alloc_eq_grow];obtain⟨os',_,e⟩:=putRow_grow_new (fun(b:UInt8)=>Value.int .u8 (b.toNat:Int)) w #[o] w.heap.size 0 dk (Nat.le_refl _);exact⟨os',by rw [e];rfl⟩
theorem fmtU_c(u:Nat)(hu64:u<18446744073709551616)(w:World)(htab:Lib.TabIs prog w "internal/strconv.uint64pow10" .u64 Lib.pow10Tab):
 Calls prog 229 #[.int .u64 u,.int .i64 10] w fun e w'=>e=.returned (.string ⟨(decDigits u).toArray⟩)∧∃ k os,w'=grow (w.drewN k) os:=by
 by_cases hi:u<100
 ·have hwr:IntKind.i64.wrap (u:Int)=(u:Int):=by rw [IntKind.wrap_i64];omega
  go_enter func229,ntmps229
  go_wp2_with (go_at_call 243;refine(small_c u hi _).mono ?_;rintro e w' ⟨rfl,rfl⟩)
  go_ret
  exact⟨rfl,0,#[],by simp [World.drewN_zero]⟩
 ·have hu1:1≤u:=by omega
  have hnd20:Lib.nDigits u≤20:=by have:=Lib.numDigits_eq u hu1 hu64;split at this<;>omega
  have hal:prog.arrayLen 251=24:=by kernel_rfl
  have hsl1:∀ W,(Instr.sliceAt 251 (.pointer (some ⟨w.heap.size,0,none⟩)) none (some (.int .i64 (Lib.nDigits u:Int))) none).run prog W=.ok (.slice (some ⟨w.heap.size,0,none⟩) (Lib.nDigits u) 24) W:=fun W=>by rw [run_sliceAt_array_h W 251 ⟨w.heap.size,0,none⟩ (by kernel_rfl) .i64 (Lib.nDigits u:Int) (by omega) (by rw [hal];omega)];rfl
  have hH0:Holds (fun(b:UInt8)=>Value.int .u8 (b.toNat:Int)) (w.alloc (.cells Lib.zeros24 251)) w.heap.size 0 (Array.replicate (Lib.nDigits u) 0):=fun j hj=>by
   have hj':j<Lib.nDigits u:=by simpa using hj
   refine⟨?_,World.frozen?_alloc_new _ _ _ _⟩;rw [World.cell?_alloc_new,Nat.zero_add,zeros24_at _ (by omega),getElem!_pos _ j hj];simp
  have hfmt:=ziH w.heap.size 0 24 u (Array.replicate (Lib.nDigits u) 0) (w.alloc (.cells Lib.zeros24 251)) hH0 (by rw [Array.size_replicate];exact Lib.lt_pow_nDigits u) hu64 (by rw [Array.size_replicate];omega)
  rw [Array.size_replicate]at hfmt
  go_enter func229,ntmps229
  go_wp2_with (go_at_call 244;refine(zoJ u hu1 hu64 _ (Lib.tabIs_alloc htab _)).mono ?_;rintro e w' ⟨rfl,rfl⟩)
  refine hfmt.mono ?_
  rintro e w' ⟨rfl,k,v',dk,rfl,hF⟩
  have hcv:(convert 197 9 (.slice (some ⟨w.heap.size,0,none⟩) (Lib.nDigits u) 24)).run prog ((putRow (fun(b:UInt8)=>Value.int .u8 (b.toNat:Int)) (w.alloc (.cells Lib.zeros24 251)) w.heap.size 0 dk).drewN k)=.ok (.string ⟨(Lib.decDigits u).toArray⟩) ((putRow (fun(b:UInt8)=>Value.int .u8 (b.toNat:Int)) (w.alloc (.cells Lib.zeros24 251)) w.heap.size 0 dk).drewN k):=by have h:=run_convert_bytes_back (P:=prog) ((putRow (fun(b:UInt8)=>Value.int .u8 (b.toNat:Int)) (w.alloc (.cells Lib.zeros24 251)) w.heap.size 0 dk).drewN k) 197 9 5 ⟨w.heap.size,0,none⟩ 24 (Lib.decDigits u) (by kernel_rfl) (by kernel_rfl) (by kernel_rfl) (fun j hj=>by rw [Lib.row_is_numeral hF j hj,Lib.add_plain,World.cell?_drewN];exact cell?_putRow (fun(b:UInt8)=>Value.int .u8 (b.toNat:Int)) _ w.heap.size 0 _ dk hH0 (by rw [hF.size,Array.size_replicate]) j (by rw [hF.size];rw [Lib.decDigits_length]at hj;exact hj));rw [Lib.decDigits_length]at h;exact h
  go_wp2
  go_ret
  obtain⟨os,eo⟩:=fin_pos0 w (.cells Lib.zeros24 251) dk k
  exact⟨rfl,k,os,eo⟩
theorem fmtUi_ok(u:Nat)(h:u<18446744073709551616):PCall prog 229 [.int .u64 u,.int .i64 10] (.ret (.str (dec u))):=by
 refine PCall.ofCalls call229 rfl fun g w vs hg hf hvs hp=>?_;obtain⟨x,y,rfl,r,q⟩:=args2 hvs hp;obtain rfl:=r.inv_int;obtain rfl:=q.inv_int;refine(fmtU_c u h w (tab_ok hg hf)).mono fun e w' ⟨he,k,os,hw⟩=>⟨_,he,.str ?_,?_⟩
 ·rw [zk9]
 ·rw [hw];exact bel_grow w k os
noncomputable def cFmtI:List V→Option PR:=zF (fun d:Nat=>[.int .u64 d,.int .i64 10]) (fun d=>d<18446744073709551616) (fun d=>.ret (.str (dec d)))
theorem cFmtI_ok:∀ args r,cFmtI args=some r→PCall prog 229 args r:=zn fmtUi_ok
theorem cFmtI_eq(d:Nat)(h:d<18446744073709551616):cFmtI [.int .u64 d,.int .i64 10]=some (.ret (.str (dec d))):=zo (pat:=fun d:Nat=>[V.int .u64 d,.int .i64 10]) (fun x y h=>by simp at h;omega) d h
theorem fmtOK:FmtOK:=fun d hd=>by
 refine PCall.wD (rs:=[.tmp 4]) [0,1,4] [] mixed (zf cFmtI_ok zh) (zg) call209 func209 rfl ntmps209 rfl ?_;simp (disch:=first|assumption|(push_cast<;>omega)|omega) only [go_sem,cFmtI_eq]
theorem zlG:zic:=fun n h=>text_ok fmtOK repOK n h
end Go.Proofs

namespace Go.Proofs
open Tryz Go.Ab Go.Pl
noncomputable def zz6:List V→Option PR:=zF (fun p:Nat×Nat=>[.fs (nats .u64 (limbs p.1)) (limbs p.1).length,.fs (nats .u64 (limbs p.2)) (limbs p.2).length]) (fun p=>(limbs p.1).length≤500∧(limbs p.2).length≤500∧p.2≠0) fun p=>.ret (.tup [.fs (nats .u64 (limbs (p.1 / p.2))) (limbs (p.1 / p.2)).length,.fs (nats .u64 (limbs (p.1 % p.2))) (limbs (p.1 % p.2)).length])
theorem zuH(x y n m:Nat)(hn:n=(limbs x).length)(hm:m=(limbs y).length)(hx:(limbs x).length≤500)(hy:(limbs y).length≤500)(h0:y≠0):zz6 [.fs (nats .u64 (limbs x)) n,.fs (nats .u64 (limbs y)) m]=some (.ret (.tup [.fs (nats .u64 (limbs (x / y))) (limbs (x / y)).length,.fs (nats .u64 (limbs (x % y))) (limbs (x % y)).length])):=by subst hn hm;exact zo (pat:=fun p:Nat×Nat=>[V.fs (nats .u64 (limbs p.1)) (limbs p.1).length,.fs (nats .u64 (limbs p.2)) (limbs p.2).length]) (fun _ _ h=>zjQ h) (x,y) ⟨hx,hy,h0⟩
theorem zjB:∀ args r,zz6 args=some r→PCall prog 179 args r:=zn fun p h=>zyt p.1 p.2 h.1 h.2.1 h.2.2
attribute [go_sem] zuH
theorem limbs_k {n k j:Nat}(h:(dec n).length≤k)(hk:k≤9*j):(limbs n).length≤j:=by
 refine zaJ ?_;have h1:=zbG h;have h2:(1000000000:Nat) ^ j=10 ^ (9*j):=by rw [show (1000000000:Nat)=10 ^ 9 from rfl, ←Nat.pow_mul]
 rw [h2];exact Nat.lt_of_lt_of_le h1 (Nat.pow_le_pow_right (by omega) hk)
theorem zen {n:Nat}(h:(dec n).length≤1000):(limbs n).length≤500:=limbs_k h (by omega)
theorem zw2(a b:List UInt8):PCall prog 181 [.str a,.str b] (.ret (divV a b)):=by
 refine PCall.wD (rs:=[.tmp 4,.tmp 5,.tmp 6]) [0,1,4,5,6,7,8,16,18] [] mixed (zf zcC (zf zcp (zf zjB (zf (zgI zlG) zh)))) (zg) call181 func181 rfl ntmps181 rfl ?_;by_cases ha:zG a=true
 case neg=>simp only [go_sem,divV,ha]
 by_cases hb:zG b=true
 case neg=>simp only [go_sem,divV,ha,hb]
 have da:=zW ha;have la:=zN ha;have db:=zW hb;have lb:=zN hb;have eb:=zak hb;have ba:=zen (n:=valD a) (by rw [zak ha];exact la);have bb:=zen (n:=valD b) (by rw [eb];exact lb);have hz:decide (b=[48])=decide (valD b=0):=by
  have:b=[48]↔valD b=0:=by rw [←dec_is_zero,eb]
  simp only [this]
 simp (disch:=first|assumption|(push_cast<;>omega)|omega) only [go_sem,ha,hb];rw [hz];refine AXc.introP (fun hn=>?_) (fun hn=>?_)
 ·simp only [go_sem,divV,ha,hb,hn]
 ·have q1:=zen (n:=valD a / valD b) (div_len (by rw [zak ha];exact la));have q2:=zen (n:=valD a % valD b) (Nat.le_trans (zao (Nat.mod_le ..)) (by rw [zak ha];exact la));have hn':valD b≠0:=hn;have hres:divV a b=.tup [.str (dec (valD a / valD b)),.str (dec (valD a % valD b)),.int .i64 0]:=by simp only [divV,ha,hb,and_self,if_true,hn,if_false]
  rw [hres];simp (disch:=first|assumption|(push_cast<;>omega)|omega) only [go_sem]
theorem zw1(a b:List UInt8):PCall prog 148 [.str a,.str b] (.ret (gcdV a b)):=by
 have hΓ:=zf zcC (zf zcp (zf zjB (zf (zgI zlG) zh)));refine PCall.wD (rs:=[.tmp 4,.tmp 5]) [0,1,4,5,6,7,9,17,24] [] mixed (hΓ) (zg) call148 func148 rfl ntmps148 rfl ?_;by_cases ha:zG a=true
 case neg=>simp only [go_sem,gcdV,ha,errV]
 by_cases hb:zG b=true
 case neg=>simp only [go_sem,gcdV,ha,hb,errV]
 have da:=zW ha;have la:=zN ha;have db:=zW hb;have lb:=zN hb;have ba:=zen (n:=valD a) (by rw [zak ha];exact la);have bb:=zen (n:=valD b) (by rw [zak hb];exact lb);have hres:gcdV a b=.tup [.str (dec (Nat.gcd (valD a) (valD b))),.int .i64 0]:=by simp only [gcdV,ha,hb,and_self,if_true]
 rw [hres];simp (disch:=first|assumption|(push_cast<;>omega)|omega) only [go_sem,ha,hb];generalize valD a=A at*;generalize valD b=B at*;refine AXs.loop mixed (hΓ) (zg) (fun p:Nat×Nat=>[(6,.fs (nats .u64 (limbs p.1)) (limbs p.1).length),(7,.fs (nats .u64 (limbs p.2)) (limbs p.2).length)]) (fun _=>⟨[],0⟩) (fun p=>(limbs p.1).length≤500∧(limbs p.2).length≤500∧Nat.gcd p.1 p.2=Nat.gcd A B) (fun p=>p.2) (A,B) (by kernel_rfl) ⟨ba,bb,rfl⟩ (Sub.of0 [] rfl rfl ?_ ?_) ?_
 ·simp only [go_sem]
 ·simp only [go_sem]
 rintro⟨x,y⟩ ⟨h1,h2,h3⟩;dsimp only at h1 h2 h3 ⊢;simp (disch:=first|assumption|(push_cast<;>omega)|omega) only [go_sem];refine AXc.introP (fun h4=>?_) (fun h4=>?_)
 ·have hy:y≠0:=fun e=>by subst e;rw [zaH]at h4;simp at h4
  have hm:=Nat.mod_lt x (Nat.pos_of_ne_zero hy);simp (disch:=first|assumption|(push_cast<;>omega)|omega) only [go_sem];refine zk (y,x % y) ⟨h2,?_,?_⟩ hm (Sub.of0 [] rfl rfl ?_ ?_)
  ·refine Nat.le_trans (Nat.le_of_not_lt fun hlt=>?_) h2;have:=zaR hlt;omega
  ·rw [←h3,Nat.gcd_comm x y,Nat.gcd_rec y x,Nat.gcd_comm]
  ·simp only [go_sem]
  ·simp only [go_sem]
 ·have hy:y=0:=limbs_nil.1 (List.eq_nil_of_length_eq_zero (by omega));simp (disch:=first|assumption|(push_cast<;>omega)|omega) only [go_sem];refine AXa.go mixed (hΓ) (zg) (by kernel_rfl) ?_;simp (disch:=first|assumption|(push_cast<;>omega)|omega) only [go_sem];rw [←h3,hy,Nat.gcd_zero_right]
noncomputable def cNMul:List V→Option PR:=zF (fun p:Nat×Nat=>[.str (dec p.1),.str (dec p.2)]) (fun p=>(dec p.1).length≤1000∧(dec p.2).length≤1000∧(dec (p.1*p.2)).length≤1000) (fun p=>.ret (.tup [.str (dec (p.1*p.2)),.int .i64 0]))
theorem zle:∀ args r,cNMul args=some r→PCall prog 115 args r:=zn fun p h=>by have:=zw0 zlG (dec p.1) (dec p.2);rwa [zqH h.1 h.2.1 h.2.2]at this
@[go_sem] theorem cNMul_eq(m n:Nat)(hm:(dec m).length≤1000)(hn:(dec n).length≤1000)(h:(dec (m*n)).length≤1000):cNMul [.str (dec m),.str (dec n)]=some (.ret (.tup [.str (dec (m*n)),.int .i64 0])):=
 zo (pat:=fun p:Nat×Nat=>[V.str (dec p.1),.str (dec p.2)]) (fun x y h=>by simp at h;exact Prod.ext (zT h.1) (zT h.2)) (m,n) ⟨hm,hn,h⟩
noncomputable def cNAdd:List V→Option PR:=zF (fun p:Nat×Nat=>[.str (dec p.1),.str (dec p.2)]) (fun p=>(dec p.1).length≤1000∧(dec p.2).length≤1000∧(dec (p.1+p.2)).length≤1000) (fun p=>.ret (.tup [.str (dec (p.1+p.2)),.int .i64 0]))
theorem cNAdd_ok:∀ args r,cNAdd args=some r→PCall prog 156 args r:=zn fun p h=>by have:=zw4 zlG (dec p.1) (dec p.2);rwa [zrJ h.1 h.2.1 h.2.2]at this
@[go_sem] theorem cNAdd_eq(m n:Nat)(hm:(dec m).length≤1000)(hn:(dec n).length≤1000)(h:(dec (m+n)).length≤1000):cNAdd [.str (dec m),.str (dec n)]=some (.ret (.tup [.str (dec (m+n)),.int .i64 0])):=
 zo (pat:=fun p:Nat×Nat=>[V.str (dec p.1),.str (dec p.2)]) (fun x y h=>by simp at h;exact Prod.ext (zT h.1) (zT h.2)) (m,n) ⟨hm,hn,h⟩
noncomputable def cNSub:List V→Option PR:=zF (fun p:Nat×Nat=>[.str (dec p.1),.str (dec p.2)]) (fun p=>(dec p.1).length≤1000∧(dec p.2).length≤1000∧p.2≤p.1) (fun p=>.ret (.tup [.str (dec (p.1 - p.2)),.int .i64 0]))
theorem cNSub_ok:∀ args r,cNSub args=some r→PCall prog 158 args r:=zn fun p h=>by have:=zwZ zlG (dec p.1) (dec p.2);rwa [zqj h.1 h.2.1 h.2.2]at this
@[go_sem] theorem cNSub_eq(m n:Nat)(hm:(dec m).length≤1000)(hn:(dec n).length≤1000)(h:n≤m):cNSub [.str (dec m),.str (dec n)]=some (.ret (.tup [.str (dec (m - n)),.int .i64 0])):=
 zo (pat:=fun p:Nat×Nat=>[V.str (dec p.1),.str (dec p.2)]) (fun x y h=>by simp at h;exact Prod.ext (zT h.1) (zT h.2)) (m,n) ⟨hm,hn,h⟩
noncomputable def cNCmp:List V→Option PR:=zF (fun p:Nat×Nat=>[.str (dec p.1),.str (dec p.2)]) (fun p=>(dec p.1).length≤1000∧(dec p.2).length≤1000) (fun p=>.ret (.int .i64 (cmpI p.1 p.2)))
theorem cNCmp_ok:∀ args r,cNCmp args=some r→PCall prog 157 args r:=zn fun p h=>by have:=zw3 (dec p.1) (dec p.2);rwa [zrh h.1 h.2]at this
@[go_sem] theorem cNCmp_eq(m n:Nat)(hm:(dec m).length≤1000)(hn:(dec n).length≤1000):cNCmp [.str (dec m),.str (dec n)]=some (.ret (.int .i64 (cmpI m n))):=
 zo (pat:=fun p:Nat×Nat=>[V.str (dec p.1),.str (dec p.2)]) (fun x y h=>by simp at h;exact Prod.ext (zT h.1) (zT h.2)) (m,n) ⟨hm,hn⟩
noncomputable def cNDiv:List V→Option PR:=zF (fun p:Nat×Nat=>[.str (dec p.1),.str (dec p.2)]) (fun p=>(dec p.1).length≤1000∧(dec p.2).length≤1000∧0<p.2) (fun p=>.ret (.tup [.str (dec (p.1 / p.2)),.str (dec (p.1 % p.2)),.int .i64 0]))
theorem cNDiv_ok:∀ args r,cNDiv args=some r→PCall prog 181 args r:=zn fun p h=>by have:=zw2 (dec p.1) (dec p.2);rwa [zra h.1 h.2.1 h.2.2]at this
@[go_sem] theorem cNDiv_eq(m n:Nat)(hm:(dec m).length≤1000)(hn:(dec n).length≤1000)(h0:0<n):cNDiv [.str (dec m),.str (dec n)]=some (.ret (.tup [.str (dec (m / n)),.str (dec (m % n)),.int .i64 0])):=
 zo (pat:=fun p:Nat×Nat=>[V.str (dec p.1),.str (dec p.2)]) (fun x y h=>by simp at h;exact Prod.ext (zT h.1) (zT h.2)) (m,n) ⟨hm,hn,h0⟩
noncomputable def cNGcd:List V→Option PR:=zF (fun p:List UInt8×List UInt8=>[.str p.1,.str p.2]) (fun _=>True) (fun p=>.ret (gcdV p.1 p.2))
theorem zro:∀ args r,cNGcd args=some r→PCall prog 148 args r:=zn fun p _=>zw1 p.1 p.2
theorem zdD {a b:List UInt8}(ha:zG a=true)(hb:zG b=true):cNGcd [.str a,.str b]=some (.ret (.tup [.str (dec (Nat.gcd (valD a) (valD b))),.int .i64 0])):=by have:cNGcd [.str a,.str b]=some (.ret (gcdV a b)):=zo (fun p q h=>by simp at h;exact Prod.ext h.1 h.2) (a,b) trivial;rw [this,gcdV,if_pos ⟨ha,hb⟩]
@[go_sem] theorem cNGcd_dec(x y:Nat)(hx:(dec x).length≤1000)(hy:(dec y).length≤1000):cNGcd [.str (dec x),.str (dec y)]=some (.ret (.tup [.str (dec (Nat.gcd x y)),.int .i64 0])):=by rw [zdD (zaw hx) (zaw hy),zZ,zZ]
theorem must_ok(s:List UInt8):PCall prog 114 [.str s,.int .i64 0] (.ret (.str s)):=by refine PCall.wD (rs:=[.tmp 4]) [0,1,4,6] [] mixed (zh) (zg) call114 func114 rfl ntmps114 rfl ?_;simp only [go_sem]
noncomputable def cMust:List V→Option PR:=zF (fun s:List UInt8=>[.str s,.int .i64 0]) (fun _=>True) (fun s=>.ret (.str s))
theorem zeq:∀ args r,cMust args=some r→PCall prog 114 args r:=zn fun s _=>must_ok s
@[go_sem] theorem cMust_eq(s:List UInt8):cMust [.str s,.int .i64 0]=some (.ret (.str s)):=zo (pat:=fun s:List UInt8=>[V.str s,.int .i64 0]) (fun x y h=>by simpa using h) s trivial
theorem zos(m n:Nat)(hm:(dec m).length≤1000)(hn:(dec n).length≤1000)(h0:0<n):PCall prog 149 [.str (dec m),.str (dec n)] (.ret (.str (dec (m / n)))):=by
 refine PCall.wD (rs:=[.tmp 4]) [0,1,4,5,7] [] mixed (zf cNDiv_ok (zf zeq zh)) (zg) call149 func149 rfl ntmps149 rfl ?_;simp (disch:=first|assumption|(push_cast<;>omega)|omega) only [go_sem]
noncomputable def cQuot:List V→Option PR:=zF (fun p:Nat×Nat=>[.str (dec p.1),.str (dec p.2)]) (fun p=>(dec p.1).length≤1000∧(dec p.2).length≤1000∧0<p.2) (fun p=>.ret (.str (dec (p.1 / p.2))))
theorem cQuot_ok:∀ args r,cQuot args=some r→PCall prog 149 args r:=zn fun p h=>zos p.1 p.2 h.1 h.2.1 h.2.2
@[go_sem] theorem cQuot_eq(m n:Nat)(hm:(dec m).length≤1000)(hn:(dec n).length≤1000)(h0:0<n):cQuot [.str (dec m),.str (dec n)]=some (.ret (.str (dec (m / n)))):=
 zo (pat:=fun p:Nat×Nat=>[V.str (dec p.1),.str (dec p.2)]) (fun x y h=>by simp at h;exact Prod.ext (zT h.1) (zT h.2)) (m,n) ⟨hm,hn,h0⟩
theorem rplus_ok(p:Bool)(m:Nat)(q:Bool)(n:Nat)(hm:(dec m).length≤800)(hn:(dec n).length≤800):PCall prog 117 [.bool p,.str (dec m),.bool q,.str (dec n)] (.ret (.tup [.bool (sumS p m q n).1,.str (dec (sumS p m q n).2)])):=by
 have hΓ:=zf cNAdd_ok (zf cNCmp_ok (zf cNSub_ok (zf zeq zh)));refine PCall.wD (rs:=[.tmp 8,.tmp 9]) [0,1,2,3,8,9,12,23] [] mixed (hΓ) (zg) call117 func117 rfl ntmps117 rfl ?_;have ha:=zeH hm hn;by_cases hpq:p=q
 ·subst hpq;simp (disch:=first|assumption|(push_cast<;>omega)|omega) only [go_sem,sumS,decide_true,beq_self_eq_true]
 ·have hpq':(p==q)=false:=by simpa using hpq
  simp (disch:=first|assumption|(push_cast<;>omega)|omega) only [go_sem,hpq'];refine AXc.introP (fun h1=>?_) (fun h1=>?_)
  ·have h2:¬n≤m:=by
    rw [zby]at h1
    split at h1
    ·omega
    ·split at h1<;>omega
   simp (disch:=first|assumption|(push_cast<;>omega)|omega) only [go_sem,sumS,hpq,h2]
  ·have h2:n≤m:=by
    rw [zby]at h1
    split at h1
    ·omega
    ·omega
   simp (disch:=first|assumption|(push_cast<;>omega)|omega) only [go_sem,sumS,hpq,h2]
noncomputable def cNPlus:List V→Option PR:=zF (fun p:Bool×Nat×Bool×Nat=>[.bool p.1,.str (dec p.2.1),.bool p.2.2.1,.str (dec p.2.2.2)]) (fun p=>(dec p.2.1).length≤800∧(dec p.2.2.2).length≤800) (fun p=>.ret (.tup [.bool (sumS p.1 p.2.1 p.2.2.1 p.2.2.2).1,.str (dec (sumS p.1 p.2.1 p.2.2.1 p.2.2.2).2)]))
theorem zh3:∀ args r,cNPlus args=some r→PCall prog 117 args r:=zn fun p h=>rplus_ok p.1 p.2.1 p.2.2.1 p.2.2.2 h.1 h.2
@[go_sem] theorem cNPlus_eq(p:Bool)(m:Nat)(q:Bool)(n:Nat)(hm:(dec m).length≤800)(hn:(dec n).length≤800):cNPlus [.bool p,.str (dec m),.bool q,.str (dec n)]=some (.ret (.tup [.bool (sumS p m q n).1,.str (dec (sumS p m q n).2)])):=
 zo (pat:=fun p:Bool×Nat×Bool×Nat=>[V.bool p.1,.str (dec p.2.1),.bool p.2.2.1,.str (dec p.2.2.2)]) (fun x y h=>by obtain⟨x1,x2,x3,x4⟩:=x;obtain⟨y1,y2,y3,y4⟩:=y;simp at h;obtain⟨h1,h2,h3,h4⟩:=h;rw [h1,zT h2,h3,zT h4]) (p,m,q,n) ⟨hm,hn⟩
theorem ixB_some {s:List UInt8}{c:UInt8}{i:Nat}(hi:i<s.length)(h:s.getD i 0=c)(hb:∀ j,j<i→s.getD j 0≠c):s.findIdx? (· ==c)=some i:=by
 rw [List.findIdx?_eq_some_iff_getElem];have e:∀ j (hj:j<s.length),s[j]=s.getD j 0:=fun j hj=>by simp [List.getD_eq_getElem?_getD,hj]
 refine⟨hi,by rw [e i hi,h];simp,fun j hj=>?_⟩;have:=hb j hj;rw [e j (by omega)];simpa using this
theorem ixB_none {s:List UInt8}{c:UInt8}(hb:∀ j,j<s.length→s.getD j 0≠c):s.findIdx? (· ==c)=none:=by rw [List.findIdx?_eq_none_iff];intro x hx;obtain⟨j,hj,rfl⟩:=List.mem_iff_getElem.1 hx;have:=hb j hj;rw [List.getD_eq_getElem?_getD,List.getElem?_eq_getElem hj]at this;simpa using this
theorem zwo(s:List UInt8)(c:UInt8)(hl:s.length≤1000000000):PCall prog 83 [.str s,.int .u8 (c.toNat:Int)] (.ret (.int .i64 (ixB s c))):=by
 refine PCall.wD (rs:=[.tmp 4]) [0,1,4,5,9,16] [] mixed (zh) (zg) call83 func83 rfl ntmps83 rfl ?_;simp only [go_sem];refine AXs.loop mixed (zh) (zg) (fun i:Nat=>[(0,.str s),(1,.int .u8 (c.toNat:Int)),(5,.int .i64 i)]) (fun _=>⟨[],0⟩) (fun i=>i≤s.length∧∀ j,j<i→s.getD j 0≠c) (fun i=>s.length - i) 0 (by kernel_rfl) ⟨Nat.zero_le _,by intro j hj;omega⟩ (Sub.of0 [] rfl rfl ?_ ?_) ?_
 ·simp only [go_sem]
 ·simp only [go_sem]
 rintro i ⟨hi,hb⟩;simp only [go_sem];refine AXc.introP (fun h1=>?_) (fun h1=>?_)
 ·have hi':i<s.length:=by omega
  simp (disch:=first|assumption|(push_cast<;>omega)|omega) only [go_sem]
  (repeat refine sdC ?_);refine AXc.introP (fun h2=>?_) (fun h2=>?_)
  ·have h3:s.getD i 0=c:=UInt8.toNat_inj.1 (by omega);simp only [go_sem,ixB,ixB_some hi' h3 hb]
  ·have h3:s.getD i 0≠c:=fun e=>h2 (by rw [e]);simp (disch:=first|assumption|(push_cast<;>omega)|omega) only [go_sem];refine zk (i+1) ⟨by omega,fun j hj=>?_⟩ (by omega) (Sub.of0 [] rfl rfl ?_ ?_)
   ·by_cases hji:j=i
    ·rw [hji];exact h3
    ·exact hb j (by omega)
   ·simp only [go_sem];simp
   ·simp only [go_sem]
 ·have hie:i=s.length:=by omega
  subst hie;simp only [go_sem];refine AXa.go mixed (zh) (zg) (by kernel_rfl) ?_;simp only [go_sem,ixB,ixB_none hb]
noncomputable def zzy:List V→Option PR:=zF (fun p:List UInt8×UInt8=>[.str p.1,.int .u8 (p.2.toNat:Int)]) (fun p=>p.1.length≤1000000000) (fun p=>.ret (.int .i64 (ixB p.1 p.2)))
theorem zuz:∀ args r,zzy args=some r→PCall prog 83 args r:=zn fun p h=>zwo p.1 p.2 h
@[go_sem] theorem cRIndex47(s:List UInt8)(hl:s.length≤1000000000):zzy [.str s,.int .u8 47]=some (.ret (.int .i64 (ixB s 47))):=zo (pat:=fun p:List UInt8×UInt8=>[V.str p.1,.int .u8 (p.2.toNat:Int)]) (fun p q h=>by simp at h;obtain⟨h1,h2⟩:=h;have:p.2=q.2:=UInt8.toNat_inj.1 (by omega);exact Prod.ext h1 this) (s,47) hl
theorem zwm(s:List UInt8):PCall prog 84 [.str s] (.ret (.bool (zaC s))):=by have hΓ:=zf za1 zh;refine PCall.wD (rs:=[.tmp 2]) [0,2] [] mixed (hΓ) (zg) call84 func84 rfl ntmps84 rfl ?_;simp only [go_sem];rw [Bool.eq_iff_iff,shortN_iff,Bool.and_eq_true,decide_eq_true_eq,and_comm];exact and_congr_right fun _=>by omega
noncomputable def zzw:List V→Option PR:=zF (fun a:List UInt8=>[.str a]) (fun _=>True) fun a=>.ret (.bool (zaC a))
@[go_sem] theorem cRShort_eq(a:List UInt8):zzw [.str a]=some (.ret (.bool (zaC a))):=zo (pat:=fun a:List UInt8=>[.str a]) (fun x y h=>by simpa using h) a trivial
theorem zux:∀ args r,zzw args=some r→PCall prog 84 args r:=zn fun a _=>zwm a
def zbR(a:List UInt8):V:=match ratP a with
 |some (s,n,d)=>.tup [.bool s,.str (dec n),.str (dec d),.bool true]
 |none=>.tup [.bool false,.str [],.str [],.bool false]
def zf5(neg:Bool)(n d:List UInt8)(fr:Bool):V:=if zbU neg n d fr=true then .tup [.bool neg,.str n,.str d,.bool true]else .tup [.bool false,.str [],.str [],.bool false]
theorem zc4(a:List UInt8):zbR a=zf5 (zC a).1 (zC a).2.1 (zC a).2.2.1 (zC a).2.2.2:=by
 unfold zbR zf5 ratP;split
 ·rename_i h;split at h
  ·rename_i hk;simp only [Option.some.injEq,Prod.mk.injEq]at h;obtain⟨rfl,rfl,rfl⟩:=h;rw [if_pos hk];simp only [zbU,Bool.and_eq_true]at hk;rw [zaj (shortN_iff.1 hk.1.1.1.1).1,zaj (shortN_iff.1 hk.1.1.1.2).1]
  ·cases h
 ·rename_i h;split at h
  ·cases h
  ·rename_i hk;rw [if_neg hk]
theorem zi4 {a:List UInt8}{neg:Bool}{r:List UInt8}{i:Nat}(h1:decide (a.getD 0 0=45)=neg)(h2:r=if neg=true then a.drop 1 else a)(h3:r.findIdx? (· ==47)=some i):zbR a=zf5 neg (r.take i) (r.drop (i+1)) true:=by
 rw [zc4];have:zC a=(neg,r.take i,r.drop (i+1),true):=by unfold zC;simp only;rw [h1, ←h2,h3]
 rw [this]
theorem zi5 {a:List UInt8}{neg:Bool}{r:List UInt8}(h1:decide (a.getD 0 0=45)=neg)(h2:r=if neg=true then a.drop 1 else a)(h3:r.findIdx? (· ==47)=none):zbR a=zf5 neg r [49] false:=by
 rw [zc4];have:zC a=(neg,r,[49],false):=by unfold zC;simp only;rw [h1, ←h2,h3]
 rw [this]
theorem zgz {neg:Bool}{n d:List UInt8}{fr:Bool}(h:zbU neg n d fr=true):zf5 neg n d fr=.tup [.bool neg,.str n,.str d,.bool true]:=if_pos h
theorem zbb {neg:Bool}{n d:List UInt8}{fr:Bool}(h:zbU neg n d fr=false):zf5 neg n d fr=.tup [.bool false,.str [],.str [],.bool false]:=if_neg (by rw [h];decide)
theorem zdP {neg:Bool}{n d:List UInt8}{fr:Bool}(h:¬zaC n=true):zbU neg n d fr=false:=by rw [Bool.not_eq_true]at h;simp [zbU,h]
theorem zkg {neg:Bool}{n d:List UInt8}{fr:Bool}(h:¬zaC d=true):zbU neg n d fr=false:=by rw [Bool.not_eq_true]at h;simp [zbU,h]
theorem zgx {neg:Bool}{n:List UInt8}:zbU neg n [48] true=false:=by simp [zbU]
theorem zgw {neg:Bool}{n:List UInt8}:zbU neg n [49] true=false:=by simp [zbU]
theorem zgv {neg:Bool}{d:List UInt8}(h:zaC d=true)(h1:d≠[49]):zbU neg [48] d true=false:=by
 have hv:=zaj (shortN_iff.1 h).1;have:Nat.gcd (valD [48]) (valD d)≠1:=by show Nat.gcd 0 (valD d)≠1;rw [Nat.gcd_zero_left];intro e;rw [e]at hv;exact h1 hv.symm
 simp [zbU,this]
theorem zdQ {neg:Bool}{n d:List UInt8}(h1:zaC n=true)(h2:zaC d=true)(h3:n≠[48])(h4:d≠[48])(h5:d≠[49]):zbU neg n d true=decide (Nat.gcd (valD n) (valD d)=1):=by simp [zbU,h1,h2,h3,h4,h5]
theorem s48:zaC [48]=true:=by decide
theorem s49:zaC [49]=true:=by decide
theorem zeB {neg:Bool}{n:List UInt8}(h1:zaC n=true):zbU neg n [49] false= !(neg&&decide (n=[48])):=by
 have:Nat.gcd (valD n) (valD [49])=1:=by show Nat.gcd (valD n) 1=1;rw [Nat.gcd_one_right]
 simp only [zbU,h1,s49,this,Bool.and_self,Bool.true_and,Bool.false_and,Bool.not_false,Bool.and_true,decide_true]
theorem zwB(neg:Bool):zf5 neg [48] [49] false=if neg=true then .tup [.bool false,.str [],.str [],.bool false]else .tup [.bool neg,.str [48],.str [49],.bool true]:=by unfold zf5;rw [zeB s48];cases neg<;>rfl
theorem zwn(a:List UInt8)(hl:a.length≤1000000000):PCall prog 54 [.str a] (.ret (zbR a)):=by
 have hΓ:=zf zuz (zf zux (zf cRGcd_ok zh));refine PCall.wD (rs:=[.tmp 2,.tmp 3,.tmp 4,.tmp 5]) [0,2,3,4,5,6,7,8,9,10,21,27,65,77] [] mixed (hΓ) (zg) call54 func54 rfl ntmps54 rfl ?_;simp (disch:=first|assumption|(push_cast<;>omega)|omega) only [go_sem];refine⟨fun h=>⟨h,by simpa using h⟩,?_⟩;have hbn:(decide (0<(a.length:Int))&&decide (((a.getD 0 0).toNat:Int)=45))=decide (a.getD 0 0=45):=by
  rw [Bool.eq_iff_iff];simp only [Bool.and_eq_true,decide_eq_true_eq];constructor
  ·rintro⟨_,h2⟩;exact UInt8.toNat_inj.1 (by have:(45:UInt8).toNat=45:=rfl;omega)
  ·intro h;refine⟨?_,by rw [h];rfl⟩;rcases a with _|⟨c,a⟩
   ·cases h
   ·simp
 rw [hbn];by_cases hneg:a.getD 0 0=45
 ·have hq:=decide_eq_true hneg;rw [hq];have hr:(a.drop 1).length≤1000000000:=by first|exact hl|(simp;omega)
  have hne:0<a.length∨true=false:=by
   rcases a with _|⟨c,a⟩
   ·first|(exact .inr rfl)|cases hneg
   ·simp
  have p1:=fun i=>zi4 (r:=a.drop 1) (i:=i) hq rfl;have p2:=zi5 (r:=a.drop 1) hq rfl;simp (disch:=first|assumption|(push_cast<;>omega)|omega) only [go_sem,List.take_length];try refine⟨⟨by simp at hne;omega,Int.le_refl _⟩,?_⟩
  generalize a.drop 1=r at*;cases hf:r.findIdx? (· ==47)with
  |some i=>
   rw [p1 i hf];have hx:ixB r 47=(i:Int):=by unfold ixB;rw [hf]
   have hi:i<r.length:=by rw [List.findIdx?_eq_some_iff_getElem]at hf;exact hf.1
   have h0:decide (0≤(i:Int))=true:=by simp
   rw [hx,h0];simp (disch:=first|assumption|(push_cast<;>omega)|omega) only [go_sem,List.take_length];refine⟨⟨by omega,by omega,Int.le_refl _⟩,⟨by omega,by omega⟩,fun h=>⟨h,fun h'=>by simp only [h,h'];rfl⟩,fun h=>⟨h,fun h'=>by simp only [h,h'];rfl⟩,?_⟩;generalize r.take i=n;generalize r.drop (i+1)=d;by_cases h1:zaC n=true
   case neg=>
    rw [zbb (zdP h1)]
    simp only [go_sem,h1]
   by_cases h2:zaC d=true
   case neg=>
    rw [zbb (zkg h2)]
    simp only [go_sem,h1,h2]
   by_cases h4:d=[48]
   ·rw [h4,zbb zgx];simp only [go_sem,h1,s48]
   by_cases h5:d=[49]
   ·rw [h5,zbb zgw];simp only [go_sem,h1,s49,h0,Bool.or_true]
   by_cases h3:n=[48]
   ·rw [h3,zbb (zgv h2 h5)];simp only [go_sem,s48,h2,h4,h5,h0,Bool.or_true]
   simp only [go_sem,h1,h2,h3,h4,h5,zfY (shortN_iff.1 h1).1 (shortN_iff.1 h2).1,za7];refine AXc.introN (fun h6=>?_) (fun h6=>?_)
   ·rw [zbb (by rw [zdQ h1 h2 h3 h4 h5];simpa using h6)];simp only [go_sem]
   ·rw [zgz (by rw [zdQ h1 h2 h3 h4 h5];simpa using h6)];simp only [go_sem]
  |none=>
   rw [p2 hf];have hx:ixB r 47= -1:=by unfold ixB;rw [hf]
   rw [hx];have z49:decide (([49]:List UInt8)=[48])=false:=by decide
   by_cases h1:zaC r=true
   case neg=>
    rw [zbb (zdP h1)]
    simp only [go_sem,h1,s49,z49]
   by_cases h2:r=[48]
   ·rw [h2,zwB];simp only [go_sem,s48,s49,z49,zfY (shortN_iff.1 s48).1 (shortN_iff.1 s49).1,if_true,Bool.false_eq_true,if_false]
   ·rw [zgz (by rw [zeB h1];simp [h2])];simp only [go_sem,h1,s49,z49,h2,zfY (shortN_iff.1 h1).1 (shortN_iff.1 s49).1]
 ·have hq:=decide_eq_false hneg;rw [hq];have hr:(a).length≤1000000000:=by first|exact hl|(simp;omega)
  have hne:0<a.length∨false=false:=by
   rcases a with _|⟨c,a⟩
   ·first|(exact .inr rfl)|cases hneg
   ·simp
  have p1:=fun i=>zi4 (r:=a) (i:=i) hq rfl;have p2:=zi5 (r:=a) hq rfl;simp (disch:=first|assumption|(push_cast<;>omega)|omega) only [go_sem,List.take_length];try refine⟨⟨by simp at hne;omega,Int.le_refl _⟩,?_⟩
  generalize a=r at*;cases hf:r.findIdx? (· ==47)with
  |some i=>
   rw [p1 i hf];have hx:ixB r 47=(i:Int):=by unfold ixB;rw [hf]
   have hi:i<r.length:=by rw [List.findIdx?_eq_some_iff_getElem]at hf;exact hf.1
   have h0:decide (0≤(i:Int))=true:=by simp
   rw [hx,h0];simp (disch:=first|assumption|(push_cast<;>omega)|omega) only [go_sem,List.take_length];refine⟨⟨by omega,by omega,Int.le_refl _⟩,⟨by omega,by omega⟩,fun h=>⟨h,fun h'=>by simp only [h,h'];rfl⟩,fun h=>⟨h,fun h'=>by simp only [h,h'];rfl⟩,?_⟩;generalize r.take i=n;generalize r.drop (i+1)=d;by_cases h1:zaC n=true
   case neg=>
    rw [zbb (zdP h1)]
    simp only [go_sem,h1]
   by_cases h2:zaC d=true
   case neg=>
    rw [zbb (zkg h2)]
    simp only [go_sem,h1,h2]
   by_cases h4:d=[48]
   ·rw [h4,zbb zgx];simp only [go_sem,h1,s48]
   by_cases h5:d=[49]
   ·rw [h5,zbb zgw];simp only [go_sem,h1,s49,h0,Bool.or_true]
   by_cases h3:n=[48]
   ·rw [h3,zbb (zgv h2 h5)];simp only [go_sem,s48,h2,h4,h5,h0,Bool.or_true]
   simp only [go_sem,h1,h2,h3,h4,h5,zfY (shortN_iff.1 h1).1 (shortN_iff.1 h2).1,za7];refine AXc.introN (fun h6=>?_) (fun h6=>?_)
   ·rw [zbb (by rw [zdQ h1 h2 h3 h4 h5];simpa using h6)];simp only [go_sem]
   ·rw [zgz (by rw [zdQ h1 h2 h3 h4 h5];simpa using h6)];simp only [go_sem]
  |none=>
   rw [p2 hf];have hx:ixB r 47= -1:=by unfold ixB;rw [hf]
   rw [hx];have z49:decide (([49]:List UInt8)=[48])=false:=by decide
   by_cases h1:zaC r=true
   case neg=>
    rw [zbb (zdP h1)]
    simp only [go_sem,h1,s49,z49]
   by_cases h2:r=[48]
   ·rw [h2,zwB];simp only [go_sem,s48,s49,z49,zfY (shortN_iff.1 s48).1 (shortN_iff.1 s49).1,if_true,Bool.false_eq_true,if_false]
   ·rw [zgz (by rw [zeB h1];simp [h2])];simp only [go_sem,h1,s49,z49,h2,zfY (shortN_iff.1 h1).1 (shortN_iff.1 s49).1]
end Go.Proofs

namespace Go.Proofs
open Go.Ab Go.Pl
noncomputable def zld:List V→Option PR:=zF (fun a:List UInt8=>[.str a]) (fun a=>a.length≤1000000000) fun a=>.ret (zbR a)
theorem zjx(a:List UInt8)(h:a.length≤1000000000):zld [.str a]=some (.ret (zbR a)):=zo (pat:=fun a:List UInt8=>[V.str a]) (fun x y h=>by simpa using h) a h
theorem zuy:∀ args r,zld args=some r→PCall Tryz.prog 54 args r:=zn fun a h=>zwn a h
theorem partsV_s {a:List UInt8}{s:Bool}{n d:Nat}(hr:ratP a=some (s,n,d)):zbR a=.tup [.bool s,.str (dec n),.str (dec d),.bool true]:=by unfold zbR;generalize ratP a=q at hr;subst hr;rfl
theorem partsV_n {a:List UInt8}(hr:ratP a=none):zbR a=.tup [.bool false,.str [],.str [],.bool false]:=by unfold zbR;generalize ratP a=q at hr;subst hr;rfl
@[go_sem] theorem cRParts_s {a:List UInt8}{s:Bool}{n d:Nat}(hr:ratP a=some (s,n,d))(h:a.length≤1000000000):zld [.str a]=some (.ret (.tup [.bool s,.str (dec n),.str (dec d),.bool true])):=
 (zjx a h).trans (congrArg (fun v=>some (PR.ret v)) (partsV_s hr))
@[go_sem] theorem cRParts_n {a:List UInt8}(hr:ratP a=none)(h:a.length≤1000000000):zld [.str a]=some (.ret (.tup [.bool false,.str [],.str [],.bool false])):=
 (zjx a h).trans (congrArg (fun v=>some (PR.ret v)) (partsV_n hr))
end Go.Proofs

namespace Go.Proofs
open Tryz Go.Ab Go.Pl
attribute [go_sem] List.getElem?_cons_zero List.getElem?_cons_succ
def numV(s:Bool)(n d:List UInt8):V:=.agg [.bool s,.str n,.str d]
def zdT(a:List UInt8):V:=match ratP a with
 |some (s,n,d)=>.tup [numV s (dec n) (dec d),.bool true]
 |none=>.tup [numV false [] [],.bool false]
def zeu(neg:Bool)(n d:List UInt8)(fr:Bool):V:=if zbU neg n d fr=true then .tup [numV neg n d,.bool true]else .tup [numV false [] [],.bool false]
theorem zmb(a:List UInt8):zdT a=zeu (zC a).1 (zC a).2.1 (zC a).2.2.1 (zC a).2.2.2:=by
 unfold zdT zeu ratP;split
 ·rename_i h;split at h
  ·rename_i hk;simp only [Option.some.injEq,Prod.mk.injEq]at h;obtain⟨rfl,rfl,rfl⟩:=h;rw [if_pos hk];simp only [zbU,Bool.and_eq_true]at hk;rw [zaj (shortN_iff.1 hk.1.1.1.1).1,zaj (shortN_iff.1 hk.1.1.1.2).1]
  ·cases h
 ·rename_i h;split at h
  ·cases h
  ·rename_i hk;rw [if_neg hk]
theorem zi6 {a:List UInt8}{neg:Bool}{r:List UInt8}{i:Nat}(h1:decide (a.getD 0 0=45)=neg)(h2:r=if neg=true then a.drop 1 else a)(h3:r.findIdx? (· ==47)=some i):zdT a=zeu neg (r.take i) (r.drop (i+1)) true:=by
 rw [zmb];have:zC a=(neg,r.take i,r.drop (i+1),true):=by unfold zC;simp only;rw [h1, ←h2,h3]
 rw [this]
theorem zi7 {a:List UInt8}{neg:Bool}{r:List UInt8}(h1:decide (a.getD 0 0=45)=neg)(h2:r=if neg=true then a.drop 1 else a)(h3:r.findIdx? (· ==47)=none):zdT a=zeu neg r [49] false:=by
 rw [zmb];have:zC a=(neg,r,[49],false):=by unfold zC;simp only;rw [h1, ←h2,h3]
 rw [this]
theorem zgA {neg:Bool}{n d:List UInt8}{fr:Bool}(h:zbU neg n d fr=true):zeu neg n d fr=.tup [numV neg n d,.bool true]:=if_pos h
theorem zbc {neg:Bool}{n d:List UInt8}{fr:Bool}(h:zbU neg n d fr=false):zeu neg n d fr=.tup [numV false [] [],.bool false]:=if_neg (by rw [h];decide)
theorem pref45(a:List UInt8):List.isPrefixOf [45] a=decide (a.getD 0 0=45):=by
 rcases a with _|⟨c,a⟩
 ·rfl
 ·show (45==c&&true)=decide (c=45);rw [Bool.and_true,Bool.eq_iff_iff];simp only [beq_iff_eq,decide_eq_true_eq];exact eq_comm
theorem zfC(n d:List UInt8):(!zG n|| !zG d||decide (400<(n.length:Int))||decide (400<(d.length:Int)))= !(zaC n&&zaC d):=by
 rw [Bool.eq_iff_iff];simp only [zaC,Bool.or_eq_true,Bool.not_eq_true',Bool.and_eq_false_imp,decide_eq_true_eq,Bool.and_eq_true,decide_eq_false_iff_not];constructor
 ·rintro(((h|h)|h)|h) h1 h2
  ·rw [h]at h1;exact absurd h1.1 (by decide)
  ·rw [h]at h2;exact absurd h2 (by decide)
  ·omega
  ·omega
 ·intro h;by_cases h1:zG n=true
  ·by_cases h2:zG d=true
   ·by_cases h3:n.length≤400
    ·have:=h ⟨h1,h3⟩ h2;exact .inr (by omega)
    ·exact .inl (.inr (by omega))
   ·exact .inl (.inl (.inr (by simpa using h2)))
  ·exact .inl (.inl (.inl (by simpa using h1)))
theorem zlQ(n:List UInt8):(!zG n||decide (400<(n.length:Int)))= !zaC n:=by
 have:=zfC n [49];have h1:zG [49]=true:=by decide
 have h2:decide (400<(([49]:List UInt8).length:Int))=false:=by decide
 rw [h1,h2,s49,Bool.not_true,Bool.or_false,Bool.or_false,Bool.and_true]at this;exact this
theorem parse_ok(a:List UInt8)(hl:a.length≤1000000000):PCall prog 116 [.str a] (.ret (zdT a)):=by
 have hΓ:=zf zpG (zf cCut_ok (zf zcC (zf zro zh)));refine PCall.wD (rs:=[.cell 2 150,.tmp 3]) [0,2,3,4,5,6,7,8,9,10,23,41,58,71] [] mixed (hΓ) (zg) call116 func116 rfl ntmps116 rfl ?_;by_cases hneg:a.getD 0 0=45
 ·have hq:=decide_eq_true hneg;have hr:(a.drop 1).length≤1000000000:=by first|exact hl|(simp;omega)
  have p1:=fun i=>zi6 (r:=a.drop 1) (i:=i) hq rfl;have p2:=zi7 (r:=a.drop 1) hq rfl;have hcp:zbn a [45]=.tup [.str (a.drop 1),.bool true]:=by unfold zbn;rw [pref45,hq];rfl
  simp (disch:=first|assumption|(push_cast<;>omega)|omega) only [go_sem,hcp];generalize a.drop 1=r at*;cases hf:r.findIdx? (· ==47)with
  |some i=>
   rw [p1 i hf];have hct:cutV r 47=.tup [.str (r.take i),.str (r.drop (i+1)),.bool true]:=by unfold cutV;rw [hf]
   generalize r.take i=n at*;generalize r.drop (i+1)=d at*;simp only [go_sem,hct];rw [zfC];by_cases h1:zaC n=true
   case neg=>
    rw [zbc (zdP h1)]
    simp only [go_sem,h1,Bool.false_and,numV]
    exact .pure (by simp [zU,zJ,zQ])
   by_cases h2:zaC d=true
   case neg=>
    rw [zbc (zkg h2)]
    simp only [go_sem,h1,h2,Bool.and_false,numV]
    exact .pure (by simp [zU,zJ,zQ])
   by_cases h4:d=[48]
   ·rw [h4,zbc zgx];simp only [go_sem,h1,s48,Bool.and_self,numV];exact .pure (by simp [zU,zJ,zQ])
   by_cases h5:d=[49]
   ·rw [h5,zbc zgw];simp only [go_sem,h1,s49,Bool.and_self,numV];first
     |exact .pure (by simp [zU,zJ,zQ])
     |exact⟨fun h=>⟨h,fun _=>by rw [h];rfl⟩,.pure (by simp [zU,zJ,zQ])⟩
   by_cases h3:n=[48]
   ·rw [h3,zbc (zgv h2 h5)];have hg:decide (Nat.gcd (valD [48]) (valD d)=1)=false:=by rw [decide_eq_false_iff_not,show valD [48]=0 from rfl,Nat.gcd_zero_left];intro e;have hv:=zaj (shortN_iff.1 h2).1;rw [e]at hv;exact h5 hv.symm
    simp only [go_sem,s48,h2,h4,h5,Bool.and_self,numV,zdD (shortN_iff.1 s48).1 (shortN_iff.1 h2).1,za7,hg];exact .pure (by simp [zU,zJ,zQ])
   simp only [go_sem,h1,h2,h3,h4,h5,zdD (shortN_iff.1 h1).1 (shortN_iff.1 h2).1,za7,Bool.and_self];refine AXc.introN (fun h6=>?_) (fun h6=>?_)
   ·rw [zbc (by rw [zdQ h1 h2 h3 h4 h5];simpa using h6)];simp only [go_sem,numV];exact .pure (by simp [zU,zJ,zQ])
   ·rw [zgA (by rw [zdQ h1 h2 h3 h4 h5];simpa using h6)];simp only [go_sem,numV];exact .pure (by simp [zU,zJ,zQ])
  |none=>
   rw [p2 hf];have hct:cutV r 47=.tup [.str r,.str [],.bool false]:=by unfold cutV;rw [hf]
   have v49:zG [49]=true:=by decide
   simp only [go_sem,hct,v49];rw [zlQ];by_cases h1:zaC r=true
   case neg=>
    rw [zbc (zdP h1)]
    simp only [go_sem,h1,numV]
    exact .pure (by simp [zU,zJ,zQ])
   have g1:decide (Nat.gcd (valD r) (valD [49])=1)=true:=by rw [decide_eq_true_eq,show valD [49]=1 from rfl,Nat.gcd_one_right]
   by_cases h3:r=[48]
   ·have hq2:zeu true r [49] false=if true=true then .tup [numV false [] [],.bool false]else .tup [numV true r [49],.bool true]:=by
     unfold zeu
     rw [zeB h1,h3]
     rfl
    rw [hq2]
    rw [h3]at g1 ⊢
    simp only [go_sem,s48,numV,zdD (shortN_iff.1 s48).1 (shortN_iff.1 s49).1,za7,g1,if_true,Bool.false_eq_true,if_false]
    exact .pure (by simp [zU,zJ,zQ])
   ·rw [zgA (by rw [zeB h1];simp [h3])];simp only [go_sem,h1,h3,numV,zdD (shortN_iff.1 h1).1 (shortN_iff.1 s49).1,za7,g1];exact .pure (by simp [zU,zJ,zQ])
 ·have hq:=decide_eq_false hneg;have hr:(a).length≤1000000000:=by first|exact hl|(simp;omega)
  have p1:=fun i=>zi6 (r:=a) (i:=i) hq rfl;have p2:=zi7 (r:=a) hq rfl;have hcp:zbn a [45]=.tup [.str (a),.bool false]:=by unfold zbn;rw [pref45,hq];rfl
  simp (disch:=first|assumption|(push_cast<;>omega)|omega) only [go_sem,hcp];generalize a=r at*;cases hf:r.findIdx? (· ==47)with
  |some i=>
   rw [p1 i hf];have hct:cutV r 47=.tup [.str (r.take i),.str (r.drop (i+1)),.bool true]:=by unfold cutV;rw [hf]
   generalize r.take i=n at*;generalize r.drop (i+1)=d at*;simp only [go_sem,hct];rw [zfC];by_cases h1:zaC n=true
   case neg=>
    rw [zbc (zdP h1)]
    simp only [go_sem,h1,Bool.false_and,numV]
    exact .pure (by simp [zU,zJ,zQ])
   by_cases h2:zaC d=true
   case neg=>
    rw [zbc (zkg h2)]
    simp only [go_sem,h1,h2,Bool.and_false,numV]
    exact .pure (by simp [zU,zJ,zQ])
   by_cases h4:d=[48]
   ·rw [h4,zbc zgx];simp only [go_sem,h1,s48,Bool.and_self,numV];exact .pure (by simp [zU,zJ,zQ])
   by_cases h5:d=[49]
   ·rw [h5,zbc zgw];simp only [go_sem,h1,s49,Bool.and_self,numV];first
     |exact .pure (by simp [zU,zJ,zQ])
     |exact⟨fun h=>⟨h,fun _=>by rw [h];rfl⟩,.pure (by simp [zU,zJ,zQ])⟩
   by_cases h3:n=[48]
   ·rw [h3,zbc (zgv h2 h5)];have hg:decide (Nat.gcd (valD [48]) (valD d)=1)=false:=by rw [decide_eq_false_iff_not,show valD [48]=0 from rfl,Nat.gcd_zero_left];intro e;have hv:=zaj (shortN_iff.1 h2).1;rw [e]at hv;exact h5 hv.symm
    simp only [go_sem,s48,h2,h4,h5,Bool.and_self,numV,zdD (shortN_iff.1 s48).1 (shortN_iff.1 h2).1,za7,hg];exact .pure (by simp [zU,zJ,zQ])
   simp only [go_sem,h1,h2,h3,h4,h5,zdD (shortN_iff.1 h1).1 (shortN_iff.1 h2).1,za7,Bool.and_self];refine AXc.introN (fun h6=>?_) (fun h6=>?_)
   ·rw [zbc (by rw [zdQ h1 h2 h3 h4 h5];simpa using h6)];simp only [go_sem,numV];exact .pure (by simp [zU,zJ,zQ])
   ·rw [zgA (by rw [zdQ h1 h2 h3 h4 h5];simpa using h6)];simp only [go_sem,numV];exact .pure (by simp [zU,zJ,zQ])
  |none=>
   rw [p2 hf];have hct:cutV r 47=.tup [.str r,.str [],.bool false]:=by unfold cutV;rw [hf]
   have v49:zG [49]=true:=by decide
   simp only [go_sem,hct,v49];rw [zlQ];by_cases h1:zaC r=true
   case neg=>
    rw [zbc (zdP h1)]
    simp only [go_sem,h1,numV]
    exact .pure (by simp [zU,zJ,zQ])
   have g1:decide (Nat.gcd (valD r) (valD [49])=1)=true:=by rw [decide_eq_true_eq,show valD [49]=1 from rfl,Nat.gcd_one_right]
   by_cases h3:r=[48]
   ·have hq2:zeu false r [49] false=if false=true then .tup [numV false [] [],.bool false]else .tup [numV false r [49],.bool true]:=by
     unfold zeu
     rw [zeB h1,h3]
     rfl
    rw [hq2]
    rw [h3]at g1 ⊢
    simp only [go_sem,s48,numV,zdD (shortN_iff.1 s48).1 (shortN_iff.1 s49).1,za7,g1,if_true,Bool.false_eq_true,if_false]
    exact .pure (by simp [zU,zJ,zQ])
   ·rw [zgA (by rw [zeB h1];simp [h3])];simp only [go_sem,h1,h3,numV,zdD (shortN_iff.1 h1).1 (shortN_iff.1 s49).1,za7,g1];exact .pure (by simp [zU,zJ,zQ])
end Go.Proofs
