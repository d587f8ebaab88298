/- Decimal texts: the shelf's contracts at this translation, laid by hand; strconv.Itoa, strconv.FormatUint. -/
import Derived.Shelf.Strconv.Itoa3
import Derived.Shelf.LaysM
import Derived.Lib.ItoaMem
import Derived.WalkKit
import Derived.BigCall
import Derived.BigGuard
import Derived.Test.YthbimeikbkjnkaaGreatDoorBPlPad
import Derived.Test.YthbimeikbkjnkaaGreatDoorBQDig
set_option linter.all false
namespace Go.Proofs
open Go.Ab Go.Pl Go.Shelf Go.RowKit Go.Sort Go.Lib
def renI:Ren where
 f:=fun x=>match x with|283=>243|284=>244|285=>245|286=>246|129=>206|317=>254|318=>255|319=>256|320=>257|337=>259|338=>260|n=>n
 t:=fun x=>match x with|3=>3|9=>9|2=>2|4=>4|171=>251|0=>0|53=>185|37=>197|5=>5|173=>253|212=>262|51=>218|20=>20|213=>263|46=>146|232=>265|233=>266|n=>n
 g:=fun x=>match x with|17=>1|18=>2|19=>3|n=>n
theorem laysI284:LaysM.n284 Tryz.prog renI:=by constructor<;>first|kernel_rfl|(intro w;kernel_rfl)|(constructor<;>first|kernel_rfl|(intro w;kernel_rfl))
theorem laysI285:Lays.n285 Tryz.prog renI:=by constructor<;>first|kernel_rfl|(intro w;kernel_rfl)
theorem laysI283:Lays.n283 Tryz.prog renI:=by constructor<;>first|kernel_rfl|(intro w;kernel_rfl)
theorem PCall.ofCalls {P:Program}{f:FuncId}{args:List V}{v:V}(hc:zi P f)(hs:zaw v=true)
 (h:∀(g:G) (w:World) (vs:Array Value),GOK g→(∀ c arr,g.phi c=some arr→∃ t fr,w.heap[c]? =some (.cells arr t fr))→vs.size=args.length→PW g args (fun i=>vs[i]?)→
  Calls P f vs w fun e w'=>∃ vc,e=.returned vc∧VRel g v vc∧Bel w.heap.size w w'):PCall P f args (.ret v):=fun g w vs h1 h2 h3 h4=>
 .inl ⟨hc vs w,(h g w vs h1 h2 h3 h4).mono fun e w' ⟨vc,he,hv,hb⟩=>⟨fun _=>none,vc,fun c a e=>(by cases e),hb,he,zec hs hv⟩⟩
theorem bel_grow(w:World)(k:Nat)(os:Array Obj):Bel w.heap.size w (grow (w.drewN k) os):=
 ⟨rfl,⟨rfl,Nat.le_add_right _ _⟩,rfl,by show w.heap.size≤(w.heap++os).size;simp,fun c hc=>by show (w.heap++os)[c]? =_;rw [Array.getElem?_append_left hc]⟩
theorem args2 {g:G}{a b:V}{vs:Array Value}(hvs:vs.size=[a,b].length)(hp:PW g [a,b] (fun i=>vs[i]?)):∃ x y,vs=#[x,y]∧VRel g a x∧VRel g b y:=by
 obtain⟨x,hx,r⟩:=hp 0 a rfl;obtain⟨y,hy,q⟩:=hp 1 b rfl;refine⟨x,y,Array.ext_getElem? fun i=>?_,r,q⟩;match i with
 |0=>exact hx
 |1=>exact hy
 |i+2=>rw [Array.getElem?_eq_none (by simp at hvs;omega)];rfl
theorem zv2:pow10V=Lib.pow10Tab.map (fun z=>V.int .u64 z):=by kernel_rfl
theorem ints_arr {g:G}{k:IntKind}{zs:List Int}{arr:Array Value}(hs:arr.size=zs.length)(hp:PW g (zs.map fun z=>V.int k z) (fun i=>arr[0+i]?)):arr=(zs.map fun z=>Value.int k z).toArray:=by
 apply Array.ext_getElem?;intro i;by_cases h:i<zs.length
 ·obtain⟨v,hv,r⟩:=hp i (.int k zs[i]) (by simp [h]);have hv':arr[0+i]? =some v:=hv;rw [Nat.zero_add]at hv';rw [hv',r.inv_int];simp [h]
 ·rw [Array.getElem?_eq_none (by omega),Array.getElem?_eq_none (by simp only [List.size_toArray,List.length_map];omega)]
theorem tab_ok {g:G}{w:World}(hg:GOK g)(hf:∀ c arr,g.phi c=some arr→∃ t fr,w.heap[c]? =some (.cells arr t fr)):Lib.TabIs Tryz.prog w "internal/strconv.uint64pow10" .u64 Lib.pow10Tab:=by
 obtain⟨hr,arr,hphi,hsz⟩:=hg 1 pow10V rfl;obtain⟨c,o,arr',he,hphi',hpw⟩:=hr.inv_fp;cases he;have e:arr'=arr:=by
  have:some arr'=some arr:=by rw [←hphi, ←hphi']
  exact Option.some.inj this
 subst e;rw [zv2]at hpw hsz;have ha:=ints_arr (by simpa using hsz) hpw;obtain⟨t,fr,hh⟩:=hf 1 arr' hphi;show World.var? Tryz.prog w "internal/strconv.uint64pow10" =_;have hn:Tryz.prog.globalNamed "internal/strconv.uint64pow10" =some 1:=by kernel_rfl
 unfold World.var?;rw [hn];simp only [Option.bind_some,hh];rw [ha]
theorem zkT:∀ u:Nat,decDigits u=dec u:=fun u=>by
 induction u using Nat.strongRecOn with
 |_ u ih=>
  rw [decDigits];split
  ·rename_i h;rw [zbu h]
  ·rename_i h;rw [zdA (by omega),ih (u / 10) (by omega)]
theorem small_c(i:Nat)(hi:i<100)(w:World):Calls Tryz.prog 243 #[.int .i64 i] w fun e w'=>e=.returned (.string ⟨(decDigits i).toArray⟩)∧w'=w:=Any.internal_strconv_small laysI283 i hi w
theorem zof(u:Nat)(h1:1≤u)(h2:u<18446744073709551616)(w:World)(htab:Lib.TabIs Tryz.prog w "internal/strconv.uint64pow10" .u64 Lib.pow10Tab):
 Calls Tryz.prog 244 #[.int .u64 u] w fun e w'=>e=.returned (.int .i64 (Lib.nDigits u))∧w'=w:=Any.internal_strconv_numDigits laysI284 u h1 h2 w htab
theorem zio(blk off cap:Nat)(u:Nat)(d:Array UInt8)(w:World)(hH:Holds (fun(b:UInt8)=>Value.int .u8 (b.toNat:Int)) w blk off d)(hu:u<10 ^ d.size)(hu64:u<18446744073709551616)(hsz:d.size<4611686018427387904):
 Calls Tryz.prog 245 #[.slice (some ⟨blk,off,none⟩) d.size cap,.int .u64 u] w fun e w'=>
  e=.returned (.tuple #[])∧∃(n v':Nat) (dk:Array UInt8),w'=(putRow (fun(b:UInt8)=>Value.int .u8 (b.toNat:Int)) w blk off dk).drewN n∧FmtInv d.size u 0 v' dk:=Any.internal_strconv_formatBase10 laysI285 blk off cap u d w hH hu hu64 hsz
theorem fin_pos0(w:World)(o:Obj)(dk:Array UInt8)(k:Nat):∃ os,(putRow (fun(b:UInt8)=>Value.int .u8 (b.toNat:Int)) (w.alloc o) w.heap.size 0 dk).drewN k=grow (w.drewN k) os:=by rw [alloc_eq_grow];obtain⟨os',_,e⟩:=putRow_grow_new (fun(b:UInt8)=>Value.int .u8 (b.toNat:Int)) w #[o] w.heap.size 0 dk (Nat.le_refl _);exact⟨os',by rw [e];rfl⟩
set_option maxHeartbeats 6400000 in
set_option maxRecDepth 100000 in
theorem fmtU_c(u:Nat)(hu64:u<18446744073709551616)(w:World)(htab:Lib.TabIs Tryz.prog w "internal/strconv.uint64pow10" .u64 Lib.pow10Tab):
 Calls Tryz.prog 229 #[.int .u64 u,.int .i64 10] w fun e w'=>e=.returned (.string ⟨(decDigits u).toArray⟩)∧∃ k os,w'=grow (w.drewN k) os:=by
 by_cases hi:u<100
 ·have hwr:IntKind.i64.wrap (u:Int)=(u:Int):=by rw [IntKind.wrap_i64];omega
  go_enter Tryz.func229,Tryz.ntmps229
  go_wp2_with (go_at_call 243;refine(small_c u hi _).mono ?_;rintro e w' ⟨rfl,rfl⟩)
  go_ret
  exact⟨rfl,0,#[],by simp [World.drewN_zero]⟩
 ·have hu1:1≤u:=by omega
  have hnd20:Lib.nDigits u≤20:=by have:=Lib.numDigits_eq u hu1 hu64;split at this<;>omega
  have hal:Tryz.prog.arrayLen 251=24:=by kernel_rfl
  have hsl1:∀ W,(Instr.sliceAt 251 (.pointer (some ⟨w.heap.size,0,none⟩)) none (some (.int .i64 (Lib.nDigits u:Int))) none).run Tryz.prog W=.ok (.slice (some ⟨w.heap.size,0,none⟩) (Lib.nDigits u) 24) W:=fun W=>by rw [run_sliceAt_array_h W 251 ⟨w.heap.size,0,none⟩ (by kernel_rfl) .i64 (Lib.nDigits u:Int) (by omega) (by rw [hal];omega)];rfl
  have hH0:Holds (fun(b:UInt8)=>Value.int .u8 (b.toNat:Int)) (w.alloc (.cells Lib.zeros24 251)) w.heap.size 0 (Array.replicate (Lib.nDigits u) 0):=fun j hj=>by
   have hj':j<Lib.nDigits u:=by simpa using hj
   refine⟨?_,World.frozen?_alloc_new _ _ _ _⟩;rw [World.cell?_alloc_new,Nat.zero_add,zeros24_at _ (by omega),getElem!_pos _ j hj];simp
  have hfmt:=zio w.heap.size 0 24 u (Array.replicate (Lib.nDigits u) 0) (w.alloc (.cells Lib.zeros24 251)) hH0 (by rw [Array.size_replicate];exact Lib.lt_pow_nDigits u) hu64 (by rw [Array.size_replicate];omega)
  rw [Array.size_replicate]at hfmt
  go_enter Tryz.func229,Tryz.ntmps229
  go_wp2_with (go_at_call 244;refine(zof u hu1 hu64 _ (Lib.tabIs_alloc htab _)).mono ?_;rintro e w' ⟨rfl,rfl⟩)
  refine hfmt.mono ?_
  rintro e w' ⟨rfl,k,v',dk,rfl,hF⟩
  have hcv:(convert 197 9 (.slice (some ⟨w.heap.size,0,none⟩) (Lib.nDigits u) 24)).run Tryz.prog ((putRow (fun(b:UInt8)=>Value.int .u8 (b.toNat:Int)) (w.alloc (.cells Lib.zeros24 251)) w.heap.size 0 dk).drewN k)=.ok (.string ⟨(Lib.decDigits u).toArray⟩) ((putRow (fun(b:UInt8)=>Value.int .u8 (b.toNat:Int)) (w.alloc (.cells Lib.zeros24 251)) w.heap.size 0 dk).drewN k):=by have h:=run_convert_bytes_back (P:=Tryz.prog) ((putRow (fun(b:UInt8)=>Value.int .u8 (b.toNat:Int)) (w.alloc (.cells Lib.zeros24 251)) w.heap.size 0 dk).drewN k) 197 9 5 ⟨w.heap.size,0,none⟩ 24 (Lib.decDigits u) (by kernel_rfl) (by kernel_rfl) (by kernel_rfl) (fun j hj=>by rw [Lib.row_is_numeral hF j hj,Lib.add_plain,World.cell?_drewN];exact cell?_putRow (fun(b:UInt8)=>Value.int .u8 (b.toNat:Int)) _ w.heap.size 0 _ dk hH0 (by rw [hF.size,Array.size_replicate]) j (by rw [hF.size];rw [Lib.decDigits_length]at hj;exact hj));rw [Lib.decDigits_length]at h;exact h
  go_wp2
  go_ret
  obtain⟨os,eo⟩:=fin_pos0 w (.cells Lib.zeros24 251) dk k
  exact⟨rfl,k,os,eo⟩
theorem fmtUi_ok(u:Nat)(h:u<18446744073709551616):PCall Tryz.prog 229 [.int .u64 u,.int .i64 10] (.ret (.str (dec u))):=by
 refine PCall.ofCalls call229 rfl fun g w vs hg hf hvs hp=>?_;obtain⟨x,y,rfl,r,q⟩:=args2 hvs hp;obtain rfl:=r.inv_int;obtain rfl:=q.inv_int;refine(fmtU_c u h w (tab_ok hg hf)).mono fun e w' ⟨he,k,os,hw⟩=>⟨_,he,.str ?_,?_⟩
 ·rw [zkT]
 ·rw [hw];exact bel_grow w k os
noncomputable def cFmtI:List V→Option PR:=zB (fun d:Nat=>[.int .u64 d,.int .i64 10]) (fun d=>d<18446744073709551616) (fun d=>.ret (.str (dec d)))
theorem cFmtI_ok:∀ args r,cFmtI args=some r→PCall Tryz.prog 229 args r:=zn fmtUi_ok
theorem cFmtI_eq(d:Nat)(h:d<18446744073709551616):cFmtI [.int .u64 d,.int .i64 10]=some (.ret (.str (dec d))):=zo (pat:=fun d:Nat=>[V.int .u64 d,.int .i64 10]) (fun x y h=>by simp at h;omega) d h
theorem fmtOK:FmtOK:=fun d hd=>by
 refine PCall.walk (rs:=[.tmp 4]) [0,1,4] [] mixed (zg cFmtI_ok zh) (zf) call209 Tryz.func209 rfl Tryz.ntmps209 rfl (by kernel_rfl) (by simp) (by simp [push_cast]) ?_;simp (disch:=first|assumption|(push_cast<;>omega)|omega) only [go_sem,cFmtI_eq]
theorem zlq:zhR:=fun n h=>text_ok fmtOK repOK n h
end Go.Proofs

namespace Go.Proofs
open Go.Ab Go.Pl
noncomputable def zzE:List V→Option PR:=zB (fun p:Nat×Nat=>[.fs (nats .u64 (limbs p.1)) (limbs p.1).length,.fs (nats .u64 (limbs p.2)) (limbs p.2).length]) (fun p=>(limbs p.1).length≤500∧(limbs p.2).length≤500∧p.2≠0) fun p=>.ret (.tup [.fs (nats .u64 (limbs (p.1 / p.2))) (limbs (p.1 / p.2)).length,.fs (nats .u64 (limbs (p.1 % p.2))) (limbs (p.1 % p.2)).length])
theorem zul(x y n m:Nat)(hn:n=(limbs x).length)(hm:m=(limbs y).length)(hx:(limbs x).length≤500)(hy:(limbs y).length≤500)(h0:y≠0):zzE [.fs (nats .u64 (limbs x)) n,.fs (nats .u64 (limbs y)) m]=some (.ret (.tup [.fs (nats .u64 (limbs (x / y))) (limbs (x / y)).length,.fs (nats .u64 (limbs (x % y))) (limbs (x % y)).length])):=by subst hn hm;exact zo (pat:=fun p:Nat×Nat=>[V.fs (nats .u64 (limbs p.1)) (limbs p.1).length,.fs (nats .u64 (limbs p.2)) (limbs p.2).length]) (fun _ _ h=>zjx h) (x,y) ⟨hx,hy,h0⟩
theorem zjj:∀ args r,zzE args=some r→PCall Tryz.prog 179 args r:=zn fun p h=>zxS p.1 p.2 h.1 h.2.1 h.2.2
attribute [go_sem] zul
theorem limbs_k {n k j:Nat}(h:(dec n).length≤k)(hk:k≤9*j):(limbs n).length≤j:=by
 refine zaL ?_;have h1:=zbV h;have h2:(1000000000:Nat) ^ j=10 ^ (9*j):=by rw [show (1000000000:Nat)=10 ^ 9 from rfl, ←Nat.pow_mul]
 rw [h2];exact Nat.lt_of_lt_of_le h1 (Nat.pow_le_pow_right (by omega) hk)
theorem zeh {n:Nat}(h:(dec n).length≤1000):(limbs n).length≤500:=limbs_k h (by omega)
set_option maxHeartbeats 4000000 in
theorem zwy(a b:List UInt8):PCall Tryz.prog 181 [.str a,.str b] (.ret (divV a b)):=by
 refine PCall.walk (rs:=[.tmp 4,.tmp 5,.tmp 6]) [0,1,4,5,6,7,8,16,18] [] mixed (zg zcv (zg zcl (zg zjj (zg (zgB zlq) zh)))) (zf) call181 Tryz.func181 rfl Tryz.ntmps181 rfl (by kernel_rfl) (by simp) (by simp [push_cast]) ?_;by_cases ha:zF a=true
 case neg=>simp only [go_sem,divV,ha]
 by_cases hb:zF b=true
 case neg=>simp only [go_sem,divV,ha,hb]
 have da:=zV ha;have la:=zM ha;have db:=zV hb;have lb:=zM hb;have eb:=zal hb;have ba:=zeh (n:=valD a) (by rw [zal ha];exact la);have bb:=zeh (n:=valD b) (by rw [eb];exact lb);have hz:decide (b=[48])=decide (valD b=0):=by
  have:b=[48]↔valD b=0:=by rw [←dec_is_zero,eb]
  simp only [this]
 simp (disch:=first|assumption|(push_cast<;>omega)|omega) only [go_sem,ha,hb];rw [hz];refine AXc.introP (fun hn=>?_) (fun hn=>?_)
 ·simp only [go_sem,divV,ha,hb,hn]
 ·have q1:=zeh (n:=valD a / valD b) (zoV (by rw [zal ha];exact la));have q2:=zeh (n:=valD a % valD b) (Nat.le_trans (zaq (Nat.mod_le ..)) (by rw [zal ha];exact la));have hn':valD b≠0:=hn;have hres:divV a b=.tup [.str (dec (valD a / valD b)),.str (dec (valD a % valD b)),.int .i64 0]:=by simp only [divV,ha,hb,and_self,if_true,hn,if_false]
  rw [hres];simp (disch:=first|assumption|(push_cast<;>omega)|omega) only [go_sem]
set_option maxHeartbeats 4000000 in
theorem zwx(a b:List UInt8):PCall Tryz.prog 148 [.str a,.str b] (.ret (gcdV a b)):=by
 have hΓ:=zg zcv (zg zcl (zg zjj (zg (zgB zlq) zh)));refine PCall.walk (rs:=[.tmp 4,.tmp 5]) [0,1,4,5,6,7,9,17,24] [] mixed (hΓ) (zf) call148 Tryz.func148 rfl Tryz.ntmps148 rfl (by kernel_rfl) (by simp) (by simp [push_cast]) ?_;by_cases ha:zF a=true
 case neg=>simp only [go_sem,gcdV,ha,errV]
 by_cases hb:zF b=true
 case neg=>simp only [go_sem,gcdV,ha,hb,errV]
 have da:=zV ha;have la:=zM ha;have db:=zV hb;have lb:=zM hb;have ba:=zeh (n:=valD a) (by rw [zal ha];exact la);have bb:=zeh (n:=valD b) (by rw [zal hb];exact lb);have hres:gcdV a b=.tup [.str (dec (Nat.gcd (valD a) (valD b))),.int .i64 0]:=by simp only [gcdV,ha,hb,and_self,if_true]
 rw [hres];simp (disch:=first|assumption|(push_cast<;>omega)|omega) only [go_sem,ha,hb];generalize valD a=A at*;generalize valD b=B at*;refine AXs.loop mixed (hΓ) (zf) (fun p:Nat×Nat=>[(6,.fs (nats .u64 (limbs p.1)) (limbs p.1).length),(7,.fs (nats .u64 (limbs p.2)) (limbs p.2).length)]) (fun _=>⟨[],0⟩) (fun p=>(limbs p.1).length≤500∧(limbs p.2).length≤500∧Nat.gcd p.1 p.2=Nat.gcd A B) (fun p=>p.2) (A,B) (by kernel_rfl) ⟨ba,bb,rfl⟩ (Sub.of0 [] rfl rfl ?_ ?_) ?_
 ·simp only [go_sem]
 ·simp only [go_sem]
 rintro⟨x,y⟩ ⟨h1,h2,h3⟩;dsimp only at h1 h2 h3 ⊢;simp (disch:=first|assumption|(push_cast<;>omega)|omega) only [go_sem];refine AXc.introP (fun h4=>?_) (fun h4=>?_)
 ·have hy:y≠0:=fun e=>by subst e;rw [zaJ]at h4;simp at h4
  have hm:=Nat.mod_lt x (Nat.pos_of_ne_zero hy);simp (disch:=first|assumption|(push_cast<;>omega)|omega) only [go_sem];refine zk (y,x % y) ⟨h2,?_,?_⟩ hm (Sub.of0 [] rfl rfl ?_ ?_)
  ·refine Nat.le_trans (Nat.le_of_not_lt fun hlt=>?_) h2;have:=zaS hlt;omega
  ·rw [←h3,Nat.gcd_comm x y,Nat.gcd_rec y x,Nat.gcd_comm]
  ·simp only [go_sem]
  ·simp only [go_sem]
 ·have hy:y=0:=limbs_nil.1 (List.eq_nil_of_length_eq_zero (by omega));simp (disch:=first|assumption|(push_cast<;>omega)|omega) only [go_sem];refine AXa.go mixed (hΓ) (zf) (by kernel_rfl) ?_;simp (disch:=first|assumption|(push_cast<;>omega)|omega) only [go_sem];rw [←h3,hy,Nat.gcd_zero_right]
end Go.Proofs

namespace Go.Proofs
open Go.Ab Go.Pl
noncomputable def cNMul:List V→Option PR:=zB (fun p:Nat×Nat=>[.str (dec p.1),.str (dec p.2)]) (fun p=>(dec p.1).length≤1000∧(dec p.2).length≤1000∧(dec (p.1*p.2)).length≤1000) (fun p=>.ret (.tup [.str (dec (p.1*p.2)),.int .i64 0]))
theorem zq0:∀ args r,cNMul args=some r→PCall Tryz.prog 115 args r:=zn fun p h=>by have:=zww zlq (dec p.1) (dec p.2);rwa [zqb h.1 h.2.1 h.2.2]at this
@[go_sem] theorem cNMul_eq(m n:Nat)(hm:(dec m).length≤1000)(hn:(dec n).length≤1000)(h:(dec (m*n)).length≤1000):cNMul [.str (dec m),.str (dec n)]=some (.ret (.tup [.str (dec (m*n)),.int .i64 0])):=
 zo (pat:=fun p:Nat×Nat=>[V.str (dec p.1),.str (dec p.2)]) (fun x y h=>by simp at h;exact Prod.ext (zQ h.1) (zQ h.2)) (m,n) ⟨hm,hn,h⟩
noncomputable def cNAdd:List V→Option PR:=zB (fun p:Nat×Nat=>[.str (dec p.1),.str (dec p.2)]) (fun p=>(dec p.1).length≤1000∧(dec p.2).length≤1000∧(dec (p.1+p.2)).length≤1000) (fun p=>.ret (.tup [.str (dec (p.1+p.2)),.int .i64 0]))
theorem cNAdd_ok:∀ args r,cNAdd args=some r→PCall Tryz.prog 156 args r:=zn fun p h=>by have:=zwA zlq (dec p.1) (dec p.2);rwa [zri h.1 h.2.1 h.2.2]at this
@[go_sem] theorem cNAdd_eq(m n:Nat)(hm:(dec m).length≤1000)(hn:(dec n).length≤1000)(h:(dec (m+n)).length≤1000):cNAdd [.str (dec m),.str (dec n)]=some (.ret (.tup [.str (dec (m+n)),.int .i64 0])):=
 zo (pat:=fun p:Nat×Nat=>[V.str (dec p.1),.str (dec p.2)]) (fun x y h=>by simp at h;exact Prod.ext (zQ h.1) (zQ h.2)) (m,n) ⟨hm,hn,h⟩
noncomputable def cNSub:List V→Option PR:=zB (fun p:Nat×Nat=>[.str (dec p.1),.str (dec p.2)]) (fun p=>(dec p.1).length≤1000∧(dec p.2).length≤1000∧p.2≤p.1) (fun p=>.ret (.tup [.str (dec (p.1 - p.2)),.int .i64 0]))
theorem cNSub_ok:∀ args r,cNSub args=some r→PCall Tryz.prog 158 args r:=zn fun p h=>by have:=zwv zlq (dec p.1) (dec p.2);rwa [zpR h.1 h.2.1 h.2.2]at this
@[go_sem] theorem cNSub_eq(m n:Nat)(hm:(dec m).length≤1000)(hn:(dec n).length≤1000)(h:n≤m):cNSub [.str (dec m),.str (dec n)]=some (.ret (.tup [.str (dec (m - n)),.int .i64 0])):=
 zo (pat:=fun p:Nat×Nat=>[V.str (dec p.1),.str (dec p.2)]) (fun x y h=>by simp at h;exact Prod.ext (zQ h.1) (zQ h.2)) (m,n) ⟨hm,hn,h⟩
noncomputable def cNCmp:List V→Option PR:=zB (fun p:Nat×Nat=>[.str (dec p.1),.str (dec p.2)]) (fun p=>(dec p.1).length≤1000∧(dec p.2).length≤1000) (fun p=>.ret (.int .i64 (cmpI p.1 p.2)))
theorem cNCmp_ok:∀ args r,cNCmp args=some r→PCall Tryz.prog 157 args r:=zn fun p h=>by have:=zwz (dec p.1) (dec p.2);rwa [zqN h.1 h.2]at this
@[go_sem] theorem cNCmp_eq(m n:Nat)(hm:(dec m).length≤1000)(hn:(dec n).length≤1000):cNCmp [.str (dec m),.str (dec n)]=some (.ret (.int .i64 (cmpI m n))):=
 zo (pat:=fun p:Nat×Nat=>[V.str (dec p.1),.str (dec p.2)]) (fun x y h=>by simp at h;exact Prod.ext (zQ h.1) (zQ h.2)) (m,n) ⟨hm,hn⟩
noncomputable def cNDiv:List V→Option PR:=zB (fun p:Nat×Nat=>[.str (dec p.1),.str (dec p.2)]) (fun p=>(dec p.1).length≤1000∧(dec p.2).length≤1000∧0<p.2) (fun p=>.ret (.tup [.str (dec (p.1 / p.2)),.str (dec (p.1 % p.2)),.int .i64 0]))
theorem cNDiv_ok:∀ args r,cNDiv args=some r→PCall Tryz.prog 181 args r:=zn fun p h=>by have:=zwy (dec p.1) (dec p.2);rwa [zqI h.1 h.2.1 h.2.2]at this
@[go_sem] theorem cNDiv_eq(m n:Nat)(hm:(dec m).length≤1000)(hn:(dec n).length≤1000)(h0:0<n):cNDiv [.str (dec m),.str (dec n)]=some (.ret (.tup [.str (dec (m / n)),.str (dec (m % n)),.int .i64 0])):=
 zo (pat:=fun p:Nat×Nat=>[V.str (dec p.1),.str (dec p.2)]) (fun x y h=>by simp at h;exact Prod.ext (zQ h.1) (zQ h.2)) (m,n) ⟨hm,hn,h0⟩
noncomputable def cNGcd:List V→Option PR:=zB (fun p:List UInt8×List UInt8=>[.str p.1,.str p.2]) (fun _=>True) (fun p=>.ret (gcdV p.1 p.2))
theorem zq1:∀ args r,cNGcd args=some r→PCall Tryz.prog 148 args r:=zn fun p _=>zwx p.1 p.2
theorem zdC {a b:List UInt8}(ha:zF a=true)(hb:zF b=true):cNGcd [.str a,.str b]=some (.ret (.tup [.str (dec (Nat.gcd (valD a) (valD b))),.int .i64 0])):=by have:cNGcd [.str a,.str b]=some (.ret (gcdV a b)):=zo (fun p q h=>by simp at h;exact Prod.ext h.1 h.2) (a,b) trivial;rw [this,gcdV,if_pos ⟨ha,hb⟩]
@[go_sem] theorem cNGcd_dec(x y:Nat)(hx:(dec x).length≤1000)(hy:(dec y).length≤1000):cNGcd [.str (dec x),.str (dec y)]=some (.ret (.tup [.str (dec (Nat.gcd x y)),.int .i64 0])):=by rw [zdC (zX hx) (zX hy),zY,zY]
theorem must_ok(s:List UInt8):PCall Tryz.prog 114 [.str s,.int .i64 0] (.ret (.str s)):=by refine PCall.walk (rs:=[.tmp 4]) [0,1,4,6] [] mixed (zh) (zf) call114 Tryz.func114 rfl Tryz.ntmps114 rfl (by kernel_rfl) (by simp) (by simp [push_cast]) ?_;simp only [go_sem]
noncomputable def cMust:List V→Option PR:=zB (fun s:List UInt8=>[.str s,.int .i64 0]) (fun _=>True) (fun s=>.ret (.str s))
theorem zfj:∀ args r,cMust args=some r→PCall Tryz.prog 114 args r:=zn fun s _=>must_ok s
@[go_sem] theorem cMust_eq(s:List UInt8):cMust [.str s,.int .i64 0]=some (.ret (.str s)):=zo (pat:=fun s:List UInt8=>[V.str s,.int .i64 0]) (fun x y h=>by simpa using h) s trivial
theorem zn5(m n:Nat)(hm:(dec m).length≤1000)(hn:(dec n).length≤1000)(h0:0<n):PCall Tryz.prog 149 [.str (dec m),.str (dec n)] (.ret (.str (dec (m / n)))):=by
 refine PCall.walk (rs:=[.tmp 4]) [0,1,4,5,7] [] mixed (zg cNDiv_ok (zg zfj zh)) (zf) call149 Tryz.func149 rfl Tryz.ntmps149 rfl (by kernel_rfl) (by simp) (by simp [push_cast]) ?_;simp (disch:=first|assumption|(push_cast<;>omega)|omega) only [go_sem]
noncomputable def cQuot:List V→Option PR:=zB (fun p:Nat×Nat=>[.str (dec p.1),.str (dec p.2)]) (fun p=>(dec p.1).length≤1000∧(dec p.2).length≤1000∧0<p.2) (fun p=>.ret (.str (dec (p.1 / p.2))))
theorem cQuot_ok:∀ args r,cQuot args=some r→PCall Tryz.prog 149 args r:=zn fun p h=>zn5 p.1 p.2 h.1 h.2.1 h.2.2
@[go_sem] theorem cQuot_eq(m n:Nat)(hm:(dec m).length≤1000)(hn:(dec n).length≤1000)(h0:0<n):cQuot [.str (dec m),.str (dec n)]=some (.ret (.str (dec (m / n)))):=
 zo (pat:=fun p:Nat×Nat=>[V.str (dec p.1),.str (dec p.2)]) (fun x y h=>by simp at h;exact Prod.ext (zQ h.1) (zQ h.2)) (m,n) ⟨hm,hn,h0⟩
set_option maxHeartbeats 4000000 in
theorem rplus_ok(p:Bool)(m:Nat)(q:Bool)(n:Nat)(hm:(dec m).length≤800)(hn:(dec n).length≤800):PCall Tryz.prog 117 [.bool p,.str (dec m),.bool q,.str (dec n)] (.ret (.tup [.bool (sumS p m q n).1,.str (dec (sumS p m q n).2)])):=by
 have hΓ:=zg cNAdd_ok (zg cNCmp_ok (zg cNSub_ok (zg zfj zh)));refine PCall.walk (rs:=[.tmp 8,.tmp 9]) [0,1,2,3,8,9,12,23] [] mixed (hΓ) (zf) call117 Tryz.func117 rfl Tryz.ntmps117 rfl (by kernel_rfl) (by simp) (by simp [push_cast]) ?_;have ha:=zeA hm hn;by_cases hpq:p=q
 ·subst hpq;simp (disch:=first|assumption|(push_cast<;>omega)|omega) only [go_sem,sumS,decide_true,beq_self_eq_true]
 ·have hpq':(p==q)=false:=by simpa using hpq
  simp (disch:=first|assumption|(push_cast<;>omega)|omega) only [go_sem,hpq'];refine AXc.introP (fun h1=>?_) (fun h1=>?_)
  ·have h2:¬n≤m:=by
    rw [zbx]at h1
    split at h1
    ·omega
    ·split at h1<;>omega
   simp (disch:=first|assumption|(push_cast<;>omega)|omega) only [go_sem,sumS,hpq,h2]
  ·have h2:n≤m:=by
    rw [zbx]at h1
    split at h1
    ·omega
    ·omega
   simp (disch:=first|assumption|(push_cast<;>omega)|omega) only [go_sem,sumS,hpq,h2]
noncomputable def cNPlus:List V→Option PR:=zB (fun p:Bool×Nat×Bool×Nat=>[.bool p.1,.str (dec p.2.1),.bool p.2.2.1,.str (dec p.2.2.2)]) (fun p=>(dec p.2.1).length≤800∧(dec p.2.2.2).length≤800) (fun p=>.ret (.tup [.bool (sumS p.1 p.2.1 p.2.2.1 p.2.2.2).1,.str (dec (sumS p.1 p.2.1 p.2.2.1 p.2.2.2).2)]))
theorem zm3:∀ args r,cNPlus args=some r→PCall Tryz.prog 117 args r:=zn fun p h=>rplus_ok p.1 p.2.1 p.2.2.1 p.2.2.2 h.1 h.2
@[go_sem] theorem cNPlus_eq(p:Bool)(m:Nat)(q:Bool)(n:Nat)(hm:(dec m).length≤800)(hn:(dec n).length≤800):cNPlus [.bool p,.str (dec m),.bool q,.str (dec n)]=some (.ret (.tup [.bool (sumS p m q n).1,.str (dec (sumS p m q n).2)])):=
 zo (pat:=fun p:Bool×Nat×Bool×Nat=>[V.bool p.1,.str (dec p.2.1),.bool p.2.2.1,.str (dec p.2.2.2)]) (fun x y h=>by obtain⟨x1,x2,x3,x4⟩:=x;obtain⟨y1,y2,y3,y4⟩:=y;simp at h;obtain⟨h1,h2,h3,h4⟩:=h;rw [h1,zQ h2,h3,zQ h4]) (p,m,q,n) ⟨hm,hn⟩
end Go.Proofs
