/- Decimal texts: the shelf's contracts at this translation, laid by hand; strconv.Itoa, strconv.FormatUint. -/
import Derived.Shelf.Strconv.Itoa3
import Derived.Shelf.LaysM
import Derived.Lib.ItoaMem
import Derived.WalkKit
import Derived.BigCall
import Derived.BigGuard
import Derived.Test.YthbimeikbkjnkaaGreatDoorPlPad
import Derived.Test.YthbimeikbkjnkaaGreatDoorF2g
set_option linter.all false
set_option maxHeartbeats 16000000
set_option maxRecDepth 100000
namespace Go.Proofs
open Tryz Go.Ab Go.Pl Go.Shelf Go.RowKit Go.Sort Go.Lib
def renI:Ren where
 f:=fun x=>match x with|283=>243|284=>244|285=>245|286=>246|129=>206|317=>254|318=>255|319=>256|320=>257|337=>259|338=>260|n=>n
 t:=fun x=>match x with|3=>3|9=>9|2=>2|4=>4|171=>251|0=>0|53=>185|37=>197|5=>5|173=>253|212=>262|51=>218|20=>20|213=>263|46=>146|232=>265|233=>266|n=>n
 g:=fun x=>match x with|17=>1|18=>2|19=>3|n=>n
theorem laysI284:LaysM.n284 prog renI:=by constructor<;>first|kernel_rfl|(intro w;kernel_rfl)|(constructor<;>first|kernel_rfl|(intro w;kernel_rfl))
theorem laysI285:Lays.n285 prog renI:=by constructor<;>first|kernel_rfl|(intro w;kernel_rfl)
theorem laysI283:Lays.n283 prog renI:=by constructor<;>first|kernel_rfl|(intro w;kernel_rfl)
theorem PCall.ofCalls {P:Program}{f:FuncId}{args:List V}{v:V}(hc:zk P f)(hs:zaA v=true)
 (h:∀(g:G) (w:World) (vs:Array Value),GOK g→(∀ c arr,g.phi c=some arr→∃ t fr,w.heap[c]? =some (.cells arr t fr))→vs.size=args.length→PW g args (fun i=>vs[i]?)→
  Calls P f vs w fun e w'=>∃ vc,e=.returned vc∧VRel g v vc∧Bel w.heap.size w w'):PCall P f args (.ret v):=fun g w vs h1 h2 h3 h4=>
 .inl ⟨hc vs w,(h g w vs h1 h2 h3 h4).mono fun e w' ⟨vc,he,hv,hb⟩=>⟨fun _=>none,vc,fun c a e=>(by cases e),hb,he,zeC hs hv⟩⟩
theorem bel_grow(w:World)(k:Nat)(os:Array Obj):Bel w.heap.size w (grow (w.drewN k) os):=
 ⟨rfl,⟨rfl,Nat.le_add_right _ _⟩,rfl,by show w.heap.size≤(w.heap++os).size;simp,fun c hc=>by show (w.heap++os)[c]? =_;rw [YaT hc]⟩
theorem args2 {g:G}{a b:V}{vs:Array Value}(hvs:vs.size=[a,b].length)(hp:PW g [a,b] (fun i=>vs[i]?)):∃ x y,vs=#[x,y]∧VRel g a x∧VRel g b y:=by
 obtain⟨x,hx,r⟩:=hp 0 a rfl;obtain⟨y,hy,q⟩:=hp 1 b rfl;refine⟨x,y,YaE fun i=>?_,r,q⟩;match i with
 |0=>exact hx
 |1=>exact hy
 |i+2=>rw [YC (by simp at hvs;omega)];rfl
theorem zxG:pow10V=Lib.pow10Tab.map (fun z=>V.int .u64 z):=by kernel_rfl
theorem ints_arr {g:G}{k:IntKind}{zs:List Int}{arr:Array Value}(hs:arr.size=zs.length)(hp:PW g (zs.map fun z=>V.int k z) (fun i=>arr[0+i]?)):arr=(zs.map fun z=>Value.int k z).toArray:=by
 apply YaE;intro i;by_cases h:i<zs.length
 ·obtain⟨v,hv,r⟩:=hp i (.int k zs[i]) (by simp [h]);have hv':arr[0+i]? =some v:=hv;rw [Yal]at hv';rw [hv',r.inv_int];simp [h]
 ·rw [YC (by omega),YC (by simp only [List.size_toArray,Yb5];omega)]
theorem tab_ok {g:G}{w:World}(hg:GOK g)(hf:∀ c arr,g.phi c=some arr→∃ t fr,w.heap[c]? =some (.cells arr t fr)):Lib.TabIs prog w "internal/strconv.uint64pow10" .u64 Lib.pow10Tab:=by
 obtain⟨hr,arr,hphi,hsz⟩:=hg 1 pow10V rfl;obtain⟨c,o,arr',he,hphi',hpw⟩:=hr.inv_fp;cases he;have e:arr'=arr:=by
  have:some arr'=some arr:=by rw [←hphi, ←hphi']
  exact Yl this
 subst e;rw [zxG]at hpw hsz;have ha:=ints_arr (by simpa using hsz) hpw;obtain⟨t,fr,hh⟩:=hf 1 arr' hphi;show World.var? prog w "internal/strconv.uint64pow10" =_;have hn:prog.globalNamed "internal/strconv.uint64pow10" =some 1:=by kernel_rfl
 unfold World.var?;rw [hn];simp only [Option.bind_some,hh];rw [ha]
theorem zlB:∀ u:Nat,decDigits u=dec u:=fun u=>by
 induction u using Nat.strongRecOn with
 |_ u ih=>
  rw [decDigits];split
  ·rename_i h;rw [zbC h]
  ·rename_i h;rw [zdO (by omega),ih (u / 10) (by omega)]
theorem small_c(i:Nat)(hi:i<100)(w:World):Calls prog 243 #[.int .i64 i] w fun e w'=>e=.returned (.string ⟨(decDigits i).toArray⟩)∧w'=w:=Any.internal_strconv_small laysI283 i hi w
theorem zpk(u:Nat)(h1:1≤u)(h2:u<18446744073709551616)(w:World)(htab:Lib.TabIs prog w "internal/strconv.uint64pow10" .u64 Lib.pow10Tab):
 Calls prog 244 #[.int .u64 u] w fun e w'=>e=.returned (.int .i64 (Lib.nDigits u))∧w'=w:=Any.internal_strconv_numDigits laysI284 u h1 h2 w htab
theorem zi5(blk off cap:Nat)(u:Nat)(d:Array UInt8)(w:World)(hH:Holds (fun(b:UInt8)=>Value.int .u8 (b.toNat:Int)) w blk off d)(hu:u<10 ^ d.size)(hu64:u<18446744073709551616)(hsz:d.size<4611686018427387904):
 Calls prog 245 #[.slice (some ⟨blk,off,none⟩) d.size cap,.int .u64 u] w fun e w'=>
  e=.returned (.tuple #[])∧∃(n v':Nat) (dk:Array UInt8),w'=(putRow (fun(b:UInt8)=>Value.int .u8 (b.toNat:Int)) w blk off dk).drewN n∧FmtInv d.size u 0 v' dk:=Any.internal_strconv_formatBase10 laysI285 blk off cap u d w hH hu hu64 hsz
theorem fin_pos0(w:World)(o:Obj)(dk:Array UInt8)(k:Nat):∃ os,(putRow (fun(b:UInt8)=>Value.int .u8 (b.toNat:Int)) (w.alloc o) w.heap.size 0 dk).drewN k=grow (w.drewN k) os:=by rw [alloc_eq_grow];obtain⟨os',_,e⟩:=putRow_grow_new (fun(b:UInt8)=>Value.int .u8 (b.toNat:Int)) w #[o] w.heap.size 0 dk (Ye _);exact⟨os',by rw [e];rfl⟩
theorem fmtU_c(u:Nat)(hu64:u<18446744073709551616)(w:World)(htab:Lib.TabIs prog w "internal/strconv.uint64pow10" .u64 Lib.pow10Tab):
 Calls prog 229 #[.int .u64 u,.int .i64 10] w fun e w'=>e=.returned (.string ⟨(decDigits u).toArray⟩)∧∃ k os,w'=grow (w.drewN k) os:=by
 by_cases hi:u<100
 ·have hwr:IntKind.i64.wrap (u:Int)=(u:Int):=by rw [IntKind.wrap_i64];omega
  go_enter func229,ntmps229
  go_wp2_with (go_at_call 243;refine(small_c u hi _).mono ?_;rintro e w' ⟨rfl,rfl⟩)
  go_ret
  exact⟨rfl,0,#[],by simp [World.drewN_zero]⟩
 ·have hu1:1≤u:=by omega
  have hnd20:Lib.nDigits u≤20:=by have:=Lib.numDigits_eq u hu1 hu64;split at this<;>omega
  have hal:prog.arrayLen 251=24:=by kernel_rfl
  have hsl1:∀ W,(Instr.sliceAt 251 (.pointer (some ⟨w.heap.size,0,none⟩)) none (some (.int .i64 (Lib.nDigits u:Int))) none).run prog W=.ok (.slice (some ⟨w.heap.size,0,none⟩) (Lib.nDigits u) 24) W:=fun W=>by rw [run_sliceAt_array_h W 251 ⟨w.heap.size,0,none⟩ (by kernel_rfl) .i64 (Lib.nDigits u:Int) (by omega) (by rw [hal];omega)];rfl
  have hH0:Holds (fun(b:UInt8)=>Value.int .u8 (b.toNat:Int)) (w.alloc (.cells Lib.zeros24 251)) w.heap.size 0 (Array.replicate (Lib.nDigits u) 0):=fun j hj=>by
   have hj':j<Lib.nDigits u:=by simpa using hj
   refine⟨?_,World.frozen?_alloc_new _ _ _ _⟩;rw [World.cell?_alloc_new,Yal,zeros24_at _ (by omega),getElem!_pos _ j hj];simp
  have hfmt:=zi5 w.heap.size 0 24 u (Array.replicate (Lib.nDigits u) 0) (w.alloc (.cells Lib.zeros24 251)) hH0 (by rw [Ycb];exact Lib.lt_pow_nDigits u) hu64 (by rw [Ycb];omega)
  rw [Ycb]at hfmt
  go_enter func229,ntmps229
  go_wp2_with (go_at_call 244;refine(zpk u hu1 hu64 _ (Lib.tabIs_alloc htab _)).mono ?_;rintro e w' ⟨rfl,rfl⟩)
  refine hfmt.mono ?_
  rintro e w' ⟨rfl,k,v',dk,rfl,hF⟩
  have hcv:(convert 197 9 (.slice (some ⟨w.heap.size,0,none⟩) (Lib.nDigits u) 24)).run prog ((putRow (fun(b:UInt8)=>Value.int .u8 (b.toNat:Int)) (w.alloc (.cells Lib.zeros24 251)) w.heap.size 0 dk).drewN k)=.ok (.string ⟨(Lib.decDigits u).toArray⟩) ((putRow (fun(b:UInt8)=>Value.int .u8 (b.toNat:Int)) (w.alloc (.cells Lib.zeros24 251)) w.heap.size 0 dk).drewN k):=by have h:=run_convert_bytes_back (P:=prog) ((putRow (fun(b:UInt8)=>Value.int .u8 (b.toNat:Int)) (w.alloc (.cells Lib.zeros24 251)) w.heap.size 0 dk).drewN k) 197 9 5 ⟨w.heap.size,0,none⟩ 24 (Lib.decDigits u) (by kernel_rfl) (by kernel_rfl) (by kernel_rfl) (fun j hj=>by rw [Lib.row_is_numeral hF j hj,Lib.add_plain,World.cell?_drewN];exact cell?_putRow (fun(b:UInt8)=>Value.int .u8 (b.toNat:Int)) _ w.heap.size 0 _ dk hH0 (by rw [hF.size,Ycb]) j (by rw [hF.size];rw [Lib.decDigits_length]at hj;exact hj));rw [Lib.decDigits_length]at h;exact h
  go_wp2
  go_ret
  obtain⟨os,eo⟩:=fin_pos0 w (.cells Lib.zeros24 251) dk k
  exact⟨rfl,k,os,eo⟩
theorem fmtUi_ok(u:Nat)(h:u<18446744073709551616):PCall prog 229 [.int .u64 u,.int .i64 10] (.ret (.str (dec u))):=by
 refine PCall.ofCalls call229 rfl fun g w vs hg hf hvs hp=>?_;obtain⟨x,y,rfl,r,q⟩:=args2 hvs hp;obtain rfl:=r.inv_int;obtain rfl:=q.inv_int;refine(fmtU_c u h w (tab_ok hg hf)).mono fun e w' ⟨he,k,os,hw⟩=>⟨_,he,.str ?_,?_⟩
 ·rw [zlB]
 ·rw [hw];exact bel_grow w k os
noncomputable def cFmtI:List V→Option PR:=zu (fun d:Nat=>[.int .u64 d,.int .i64 10]) (fun d=>d<18446744073709551616) (fun d=>.ret (.str (dec d)))
theorem cFmtI_ok:∀ args r,cFmtI args=some r→PCall prog 229 args r:=zn fmtUi_ok
theorem cFmtI_eq(d:Nat)(h:d<18446744073709551616):cFmtI [.int .u64 d,.int .i64 10]=some (.ret (.str (dec d))):=zo (pat:=fun d:Nat=>[V.int .u64 d,.int .i64 10]) (fun x y h=>by simp at h;omega) d h
theorem fmtOK:FmtOK:=fun d hd=>by
 refine PCall.wD (rs:=[.tmp 4]) [0,1,4] [] mixed (zf cFmtI_ok zh) (zg) call209 func209 rfl ntmps209 rfl ?_;simp (disch:=first|exact Zq|fail) only [go_sem,cFmtI_eq]
theorem zl7:ziB:=fun n h=>text_ok fmtOK repOK n h
end Go.Proofs

namespace Go.Proofs
open Tryz Go.Ab Go.Pl
noncomputable def zBg:List V→Option PR:=zu (fun p:Nat×Nat=>[.fs (nats .u64 (limbs p.1)) (limbs p.1).length,.fs (nats .u64 (limbs p.2)) (limbs p.2).length]) (fun p=>(limbs p.1).length≤500∧(limbs p.2).length≤500∧p.2≠0) fun p=>.ret (.tup [.fs (nats .u64 (limbs (p.1 / p.2))) (limbs (p.1 / p.2)).length,.fs (nats .u64 (limbs (p.1 % p.2))) (limbs (p.1 % p.2)).length])
theorem zvN(x y n m:Nat)(hn:n=(limbs x).length)(hm:m=(limbs y).length)(hx:(limbs x).length≤500)(hy:(limbs y).length≤500)(h0:y≠0):zBg [.fs (nats .u64 (limbs x)) n,.fs (nats .u64 (limbs y)) m]=some (.ret (.tup [.fs (nats .u64 (limbs (x / y))) (limbs (x / y)).length,.fs (nats .u64 (limbs (x % y))) (limbs (x % y)).length])):=by subst hn hm;exact zo (pat:=fun p:Nat×Nat=>[V.fs (nats .u64 (limbs p.1)) (limbs p.1).length,.fs (nats .u64 (limbs p.2)) (limbs p.2).length]) (fun _ _ h=>zkc h) (x,y) ⟨hx,hy,h0⟩
theorem zjZ:∀ args r,zBg args=some r→PCall prog 179 args r:=zn fun p h=>zzA p.1 p.2 h.1 h.2.1 h.2.2
attribute [go_sem] zvN
theorem limbs_k {n k j:Nat}(h:(dec n).length≤k)(hk:k≤9*j):(limbs n).length≤j:=by
 refine zaN ?_;have h1:=zbs h;have h2:(1000000000:Nat) ^ j=10 ^ (9*j):=by rw [show (1000000000:Nat)=10 ^ 9 from rfl, ←Nat.pow_mul]
 rw [h2];exact Yo h1 (YI (by omega) hk)
theorem zeH {n:Nat}(h:(dec n).length≤1000):(limbs n).length≤500:=limbs_k h (by omega)
theorem zyd(a b:List UInt8):PCall prog 181 [.str a,.str b] (.ret (divV a b)):=by
 refine PCall.wD (rs:=[.tmp 4,.tmp 5,.tmp 6]) [0,1,4,5,6,7,8,16,18] [] mixed (zf zcM (zf zcA (zf zjZ (zf (zg8 zl7) zh)))) (zg) call181 func181 rfl ntmps181 rfl ?_;by_cases ha:zD a=true
 case neg=>simp only [go_sem,divV,ha]
 by_cases hb:zD b=true
 case neg=>simp only [go_sem,divV,ha,hb]
 have da:=zW ha;have la:=zL ha;have db:=zW hb;have lb:=zL hb;have eb:=zal hb;have ba:=zeH (n:=valD a) (by rw [zal ha];exact la);have bb:=zeH (n:=valD b) (by rw [eb];exact lb);have hz:decide (b=[48])=decide (valD b=0):=by
  have:b=[48]↔valD b=0:=by rw [←dec_is_zero,eb]
  simp only [this]
 simp (disch:=first|exact Zq|fail) only [go_sem,ha,hb];rw [hz];refine AXc.introP (fun hn=>?_) (fun hn=>?_)
 ·simp only [go_sem,divV,ha,hb,hn]
 ·have q1:=zeH (n:=valD a / valD b) (zp0 (by rw [zal ha];exact la));have q2:=zeH (n:=valD a % valD b) (Yn (zaq (Nat.mod_le ..)) (by rw [zal ha];exact la));have hn':valD b≠0:=hn;have hres:divV a b=.tup [.str (dec (valD a / valD b)),.str (dec (valD a % valD b)),.int .i64 0]:=by simp only [divV,ha,hb,YbU,if_true,hn,if_false]
  rw [hres];simp (disch:=first|exact Zq|fail) only [go_sem]
theorem zyc(a b:List UInt8):PCall prog 148 [.str a,.str b] (.ret (gcdV a b)):=by
 have hΓ:=zf zcM (zf zcA (zf zjZ (zf (zg8 zl7) zh)));refine PCall.wD (rs:=[.tmp 4,.tmp 5]) [0,1,4,5,6,7,9,17,24] [] mixed (hΓ) (zg) call148 func148 rfl ntmps148 rfl ?_;by_cases ha:zD a=true
 case neg=>simp only [go_sem,gcdV,ha,errV]
 by_cases hb:zD b=true
 case neg=>simp only [go_sem,gcdV,ha,hb,errV]
 have da:=zW ha;have la:=zL ha;have db:=zW hb;have lb:=zL hb;have ba:=zeH (n:=valD a) (by rw [zal ha];exact la);have bb:=zeH (n:=valD b) (by rw [zal hb];exact lb);have hres:gcdV a b=.tup [.str (dec (Nat.gcd (valD a) (valD b))),.int .i64 0]:=by simp only [gcdV,ha,hb,YbU,if_true]
 rw [hres];simp (disch:=first|exact Zq|fail) only [go_sem,ha,hb];generalize valD a=A at*;generalize valD b=B at*;refine AXs.loop mixed (hΓ) (zg) (fun p:Nat×Nat=>[(6,.fs (nats .u64 (limbs p.1)) (limbs p.1).length),(7,.fs (nats .u64 (limbs p.2)) (limbs p.2).length)]) (fun _=>⟨[],0⟩) (fun p=>(limbs p.1).length≤500∧(limbs p.2).length≤500∧Nat.gcd p.1 p.2=Nat.gcd A B) (fun p=>p.2) (A,B) (by kernel_rfl) ⟨ba,bb,rfl⟩ (Sub.of0 [] rfl rfl ?_ ?_) ?_
 ·simp only [go_sem]
 ·simp only [go_sem]
 rintro⟨x,y⟩ ⟨h1,h2,h3⟩;dsimp only at h1 h2 h3 ⊢;simp (disch:=first|exact Zq|fail) only [go_sem];refine AXc.introP (fun h4=>?_) (fun h4=>?_)
 ·have hy:y≠0:=fun e=>by subst e;rw [zaL]at h4;simp at h4
  have hm:=YaM x (Yb4 hy);simp (disch:=first|exact Zq|fail) only [go_sem];refine zi (y,x % y) ⟨h2,?_,?_⟩ hm (Sub.of0 [] rfl rfl ?_ ?_)
  ·refine Yn (Y6 fun hlt=>?_) h2;have:=zaY hlt;omega
  ·rw [←h3,Nat.gcd_comm x y,Nat.gcd_rec y x,Nat.gcd_comm]
  ·simp only [go_sem]
  ·simp only [go_sem]
 ·have hy:y=0:=limbs_nil.1 (Yr (by omega));simp (disch:=first|exact Zq|fail) only [go_sem];refine AXa.go mixed (hΓ) (zg) (by kernel_rfl) ?_;simp (disch:=first|exact Zq|fail) only [go_sem];rw [←h3,hy,YcK]
noncomputable def cNMul:List V→Option PR:=zu (fun p:Nat×Nat=>[.str (dec p.1),.str (dec p.2)]) (fun p=>(dec p.1).length≤1000∧(dec p.2).length≤1000∧(dec (p.1*p.2)).length≤1000) (fun p=>.ret (.tup [.str (dec (p.1*p.2)),.int .i64 0]))
theorem zse:∀ args r,cNMul args=some r→PCall prog 115 args r:=zn fun p h=>by have:=zyb zl7 (dec p.1) (dec p.2);rwa [zrj h.1 h.2.1 h.2.2]at this
@[go_sem] theorem cNMul_eq(m n:Nat)(hm:(dec m).length≤1000)(hn:(dec n).length≤1000)(h:(dec (m*n)).length≤1000):cNMul [.str (dec m),.str (dec n)]=some (.ret (.tup [.str (dec (m*n)),.int .i64 0])):=
 zo (pat:=fun p:Nat×Nat=>[V.str (dec p.1),.str (dec p.2)]) (fun x y h=>by simp at h;exact YT (zS h.1) (zS h.2)) (m,n) ⟨hm,hn,h⟩
noncomputable def cNAdd:List V→Option PR:=zu (fun p:Nat×Nat=>[.str (dec p.1),.str (dec p.2)]) (fun p=>(dec p.1).length≤1000∧(dec p.2).length≤1000∧(dec (p.1+p.2)).length≤1000) (fun p=>.ret (.tup [.str (dec (p.1+p.2)),.int .i64 0]))
theorem cNAdd_ok:∀ args r,cNAdd args=some r→PCall prog 156 args r:=zn fun p h=>by have:=zyf zl7 (dec p.1) (dec p.2);rwa [zsq h.1 h.2.1 h.2.2]at this
@[go_sem] theorem cNAdd_eq(m n:Nat)(hm:(dec m).length≤1000)(hn:(dec n).length≤1000)(h:(dec (m+n)).length≤1000):cNAdd [.str (dec m),.str (dec n)]=some (.ret (.tup [.str (dec (m+n)),.int .i64 0])):=
 zo (pat:=fun p:Nat×Nat=>[V.str (dec p.1),.str (dec p.2)]) (fun x y h=>by simp at h;exact YT (zS h.1) (zS h.2)) (m,n) ⟨hm,hn,h⟩
noncomputable def cNSub:List V→Option PR:=zu (fun p:Nat×Nat=>[.str (dec p.1),.str (dec p.2)]) (fun p=>(dec p.1).length≤1000∧(dec p.2).length≤1000∧p.2≤p.1) (fun p=>.ret (.tup [.str (dec (p.1 - p.2)),.int .i64 0]))
theorem cNSub_ok:∀ args r,cNSub args=some r→PCall prog 158 args r:=zn fun p h=>by have:=zya zl7 (dec p.1) (dec p.2);rwa [zq3 h.1 h.2.1 h.2.2]at this
@[go_sem] theorem cNSub_eq(m n:Nat)(hm:(dec m).length≤1000)(hn:(dec n).length≤1000)(h:n≤m):cNSub [.str (dec m),.str (dec n)]=some (.ret (.tup [.str (dec (m - n)),.int .i64 0])):=
 zo (pat:=fun p:Nat×Nat=>[V.str (dec p.1),.str (dec p.2)]) (fun x y h=>by simp at h;exact YT (zS h.1) (zS h.2)) (m,n) ⟨hm,hn,h⟩
noncomputable def cNCmp:List V→Option PR:=zu (fun p:Nat×Nat=>[.str (dec p.1),.str (dec p.2)]) (fun p=>(dec p.1).length≤1000∧(dec p.2).length≤1000) (fun p=>.ret (.int .i64 (cmpI p.1 p.2)))
theorem cNCmp_ok:∀ args r,cNCmp args=some r→PCall prog 157 args r:=zn fun p h=>by have:=zye (dec p.1) (dec p.2);rwa [zrS h.1 h.2]at this
@[go_sem] theorem cNCmp_eq(m n:Nat)(hm:(dec m).length≤1000)(hn:(dec n).length≤1000):cNCmp [.str (dec m),.str (dec n)]=some (.ret (.int .i64 (cmpI m n))):=
 zo (pat:=fun p:Nat×Nat=>[V.str (dec p.1),.str (dec p.2)]) (fun x y h=>by simp at h;exact YT (zS h.1) (zS h.2)) (m,n) ⟨hm,hn⟩
noncomputable def cNDiv:List V→Option PR:=zu (fun p:Nat×Nat=>[.str (dec p.1),.str (dec p.2)]) (fun p=>(dec p.1).length≤1000∧(dec p.2).length≤1000∧0<p.2) (fun p=>.ret (.tup [.str (dec (p.1 / p.2)),.str (dec (p.1 % p.2)),.int .i64 0]))
theorem cNDiv_ok:∀ args r,cNDiv args=some r→PCall prog 181 args r:=zn fun p h=>by have:=zyd (dec p.1) (dec p.2);rwa [zrM h.1 h.2.1 h.2.2]at this
@[go_sem] theorem cNDiv_eq(m n:Nat)(hm:(dec m).length≤1000)(hn:(dec n).length≤1000)(h0:0<n):cNDiv [.str (dec m),.str (dec n)]=some (.ret (.tup [.str (dec (m / n)),.str (dec (m % n)),.int .i64 0])):=
 zo (pat:=fun p:Nat×Nat=>[V.str (dec p.1),.str (dec p.2)]) (fun x y h=>by simp at h;exact YT (zS h.1) (zS h.2)) (m,n) ⟨hm,hn,h0⟩
noncomputable def cNGcd:List V→Option PR:=zu (fun p:List UInt8×List UInt8=>[.str p.1,.str p.2]) (fun _=>True) (fun p=>.ret (gcdV p.1 p.2))
theorem zsf:∀ args r,cNGcd args=some r→PCall prog 148 args r:=zn fun p _=>zyc p.1 p.2
theorem zdR {a b:List UInt8}(ha:zD a=true)(hb:zD b=true):cNGcd [.str a,.str b]=some (.ret (.tup [.str (dec (Nat.gcd (valD a) (valD b))),.int .i64 0])):=by have:cNGcd [.str a,.str b]=some (.ret (gcdV a b)):=zo (fun p q h=>by simp at h;exact YT h.1 h.2) (a,b) trivial;rw [this,gcdV,Yf ⟨ha,hb⟩]
@[go_sem] theorem cNGcd_dec(x y:Nat)(hx:(dec x).length≤1000)(hy:(dec y).length≤1000):cNGcd [.str (dec x),.str (dec y)]=some (.ret (.tup [.str (dec (Nat.gcd x y)),.int .i64 0])):=by rw [zdR (zY hx) (zY hy),zab,zab]
theorem must_ok(s:List UInt8):PCall prog 114 [.str s,.int .i64 0] (.ret (.str s)):=by refine PCall.wD (rs:=[.tmp 4]) [0,1,4,6] [] mixed (zh) (zg) call114 func114 rfl ntmps114 rfl ?_;simp only [go_sem]
noncomputable def cMust:List V→Option PR:=zu (fun s:List UInt8=>[.str s,.int .i64 0]) (fun _=>True) (fun s=>.ret (.str s))
theorem zfO:∀ args r,cMust args=some r→PCall prog 114 args r:=zn fun s _=>must_ok s
@[go_sem] theorem cMust_eq(s:List UInt8):cMust [.str s,.int .i64 0]=some (.ret (.str s)):=zo (pat:=fun s:List UInt8=>[V.str s,.int .i64 0]) (fun x y h=>by simpa using h) s trivial
theorem zpa(m n:Nat)(hm:(dec m).length≤1000)(hn:(dec n).length≤1000)(h0:0<n):PCall prog 149 [.str (dec m),.str (dec n)] (.ret (.str (dec (m / n)))):=by
 refine PCall.wD (rs:=[.tmp 4]) [0,1,4,5,7] [] mixed (zf cNDiv_ok (zf zfO zh)) (zg) call149 func149 rfl ntmps149 rfl ?_;simp (disch:=first|exact Zq|fail) only [go_sem]
noncomputable def cQuot:List V→Option PR:=zu (fun p:Nat×Nat=>[.str (dec p.1),.str (dec p.2)]) (fun p=>(dec p.1).length≤1000∧(dec p.2).length≤1000∧0<p.2) (fun p=>.ret (.str (dec (p.1 / p.2))))
theorem cQuot_ok:∀ args r,cQuot args=some r→PCall prog 149 args r:=zn fun p h=>zpa p.1 p.2 h.1 h.2.1 h.2.2
@[go_sem] theorem cQuot_eq(m n:Nat)(hm:(dec m).length≤1000)(hn:(dec n).length≤1000)(h0:0<n):cQuot [.str (dec m),.str (dec n)]=some (.ret (.str (dec (m / n)))):=
 zo (pat:=fun p:Nat×Nat=>[V.str (dec p.1),.str (dec p.2)]) (fun x y h=>by simp at h;exact YT (zS h.1) (zS h.2)) (m,n) ⟨hm,hn,h0⟩
theorem rplus_ok(p:Bool)(m:Nat)(q:Bool)(n:Nat)(hm:(dec m).length≤800)(hn:(dec n).length≤800):PCall prog 117 [.bool p,.str (dec m),.bool q,.str (dec n)] (.ret (.tup [.bool (sumS p m q n).1,.str (dec (sumS p m q n).2)])):=by
 have hΓ:=zf cNAdd_ok (zf cNCmp_ok (zf cNSub_ok (zf zfO zh)));refine PCall.wD (rs:=[.tmp 8,.tmp 9]) [0,1,2,3,8,9,12,23] [] mixed (hΓ) (zg) call117 func117 rfl ntmps117 rfl ?_;have ha:=ze6 hm hn;by_cases hpq:p=q
 ·subst hpq;simp (disch:=first|exact Zq|fail) only [go_sem,sumS,Ybx,Yaz]
 ·have hpq':(p==q)=false:=by simpa using hpq
  simp (disch:=first|exact Zq|fail) only [go_sem,hpq'];refine AXc.introP (fun h1=>?_) (fun h1=>?_)
  ·have h2:¬n≤m:=by
    rw [zbF]at h1
    split at h1
    ·omega
    ·split at h1<;>omega
   simp (disch:=first|exact Zq|fail) only [go_sem,sumS,hpq,h2]
  ·have h2:n≤m:=by
    rw [zbF]at h1
    split at h1
    ·omega
    ·omega
   simp (disch:=first|exact Zq|fail) only [go_sem,sumS,hpq,h2]
noncomputable def cNPlus:List V→Option PR:=zu (fun p:Bool×Nat×Bool×Nat=>[.bool p.1,.str (dec p.2.1),.bool p.2.2.1,.str (dec p.2.2.2)]) (fun p=>(dec p.2.1).length≤800∧(dec p.2.2.2).length≤800) (fun p=>.ret (.tup [.bool (sumS p.1 p.2.1 p.2.2.1 p.2.2.2).1,.str (dec (sumS p.1 p.2.1 p.2.2.1 p.2.2.2).2)]))
theorem znZ:∀ args r,cNPlus args=some r→PCall prog 117 args r:=zn fun p h=>rplus_ok p.1 p.2.1 p.2.2.1 p.2.2.2 h.1 h.2
@[go_sem] theorem cNPlus_eq(p:Bool)(m:Nat)(q:Bool)(n:Nat)(hm:(dec m).length≤800)(hn:(dec n).length≤800):cNPlus [.bool p,.str (dec m),.bool q,.str (dec n)]=some (.ret (.tup [.bool (sumS p m q n).1,.str (dec (sumS p m q n).2)])):=
 zo (pat:=fun p:Bool×Nat×Bool×Nat=>[V.bool p.1,.str (dec p.2.1),.bool p.2.2.1,.str (dec p.2.2.2)]) (fun x y h=>by obtain⟨x1,x2,x3,x4⟩:=x;obtain⟨y1,y2,y3,y4⟩:=y;simp at h;obtain⟨h1,h2,h3,h4⟩:=h;rw [h1,zS h2,h3,zS h4]) (p,m,q,n) ⟨hm,hn⟩
theorem ixB_some {s:List UInt8}{c:UInt8}{i:Nat}(hi:i<s.length)(h:s.getD i 0=c)(hb:∀ j,j<i→s.getD j 0≠c):s.findIdx? (· ==c)=some i:=by
 rw [YaX];have e:∀ j (hj:j<s.length),s[j]=s.getD j 0:=fun j hj=>by simp [Ya,hj]
 refine⟨hi,by rw [e i hi,h];simp,fun j hj=>?_⟩;have:=hb j hj;rw [e j (by omega)];simpa using this
theorem ixB_none {s:List UInt8}{c:UInt8}(hb:∀ j,j<s.length→s.getD j 0≠c):s.findIdx? (· ==c)=none:=by rw [List.findIdx?_eq_none_iff];intro x hx;obtain⟨j,hj,rfl⟩:=Yaj.1 hx;have:=hb j hj;rw [Ya,Yb hj]at this;simpa using this
theorem zxC(s:List UInt8)(c:UInt8)(hl:s.length≤1000000000):PCall prog 83 [.str s,.int .u8 (c.toNat:Int)] (.ret (.int .i64 (ixB s c))):=by
 refine PCall.wD (rs:=[.tmp 4]) [0,1,4,5,9,16] [] mixed (zh) (zg) call83 func83 rfl ntmps83 rfl ?_;simp only [go_sem];refine AXs.loop mixed (zh) (zg) (fun i:Nat=>[(0,.str s),(1,.int .u8 (c.toNat:Int)),(5,.int .i64 i)]) (fun _=>⟨[],0⟩) (fun i=>i≤s.length∧∀ j,j<i→s.getD j 0≠c) (fun i=>s.length - i) 0 (by kernel_rfl) ⟨Yk _,by intro j hj;omega⟩ (Sub.of0 [] rfl rfl ?_ ?_) ?_
 ·simp only [go_sem]
 ·simp only [go_sem]
 rintro i ⟨hi,hb⟩;simp only [go_sem];refine AXc.introP (fun h1=>?_) (fun h1=>?_)
 ·have hi':i<s.length:=by omega
  simp (disch:=first|exact Zq|fail) only [go_sem]
  (repeat refine sdC ?_);refine AXc.introP (fun h2=>?_) (fun h2=>?_)
  ·have h3:s.getD i 0=c:=YaW.1 (by omega);simp only [go_sem,ixB,ixB_some hi' h3 hb]
  ·have h3:s.getD i 0≠c:=fun e=>h2 (by rw [e]);simp (disch:=first|exact Zq|fail) only [go_sem];refine zi (i+1) ⟨by omega,fun j hj=>?_⟩ (by omega) (Sub.of0 [] rfl rfl ?_ ?_)
   ·by_cases hji:j=i
    ·rw [hji];exact h3
    ·exact hb j (by omega)
   ·simp only [go_sem];simp
   ·simp only [go_sem]
 ·have hie:i=s.length:=by omega
  subst hie;simp only [go_sem];refine AXa.go mixed (zh) (zg) (by kernel_rfl) ?_;simp only [go_sem,ixB,ixB_none hb]
noncomputable def zAE:List V→Option PR:=zu (fun p:List UInt8×UInt8=>[.str p.1,.int .u8 (p.2.toNat:Int)]) (fun p=>p.1.length≤1000000000) (fun p=>.ret (.int .i64 (ixB p.1 p.2)))
theorem zvC:∀ args r,zAE args=some r→PCall prog 83 args r:=zn fun p h=>zxC p.1 p.2 h
@[go_sem] theorem cRIndex47(s:List UInt8)(hl:s.length≤1000000000):zAE [.str s,.int .u8 47]=some (.ret (.int .i64 (ixB s 47))):=zo (pat:=fun p:List UInt8×UInt8=>[V.str p.1,.int .u8 (p.2.toNat:Int)]) (fun p q h=>by simp at h;obtain⟨h1,h2⟩:=h;have:p.2=q.2:=YaW.1 (by omega);exact YT h1 this) (s,47) hl
theorem zxA(s:List UInt8):PCall prog 84 [.str s] (.ret (.bool (zaE s))):=by have hΓ:=zf zaR zh;refine PCall.wD (rs:=[.tmp 2]) [0,2] [] mixed (hΓ) (zg) call84 func84 rfl ntmps84 rfl ?_;simp only [go_sem];rw [YaJ,shortN_iff,Yc,Yh,and_comm];exact and_congr_right fun _=>by omega
noncomputable def zAy:List V→Option PR:=zu (fun a:List UInt8=>[.str a]) (fun _=>True) fun a=>.ret (.bool (zaE a))
@[go_sem] theorem cRShort_eq(a:List UInt8):zAy [.str a]=some (.ret (.bool (zaE a))):=zo (pat:=fun a:List UInt8=>[.str a]) (fun x y h=>by simpa using h) a trivial
theorem zvB:∀ args r,zAy args=some r→PCall prog 84 args r:=zn fun a _=>zxA a
def zbV(a:List UInt8):V:=match ratP a with
 |some (s,n,d)=>.tup [.bool s,.str (dec n),.str (dec d),.bool true]
 |none=>.tup [.bool false,.str [],.str [],.bool false]
def zgt(neg:Bool)(n d:List UInt8)(fr:Bool):V:=if zbZ neg n d fr=true then .tup [.bool neg,.str n,.str d,.bool true]else .tup [.bool false,.str [],.str [],.bool false]
theorem zdg(a:List UInt8):zbV a=zgt (zB a).1 (zB a).2.1 (zB a).2.2.1 (zB a).2.2.2:=by
 unfold zbV zgt ratP;split
 ·rename_i h;split at h
  ·rename_i hk;simp only [Yv,YbN]at h;obtain⟨rfl,rfl,rfl⟩:=h;rw [Yf hk];simp only [zbZ,Yc]at hk;rw [zak (shortN_iff.1 hk.1.1.1.1).1,zak (shortN_iff.1 hk.1.1.1.2).1]
  ·cases h
 ·rename_i h;split at h
  ·cases h
  ·rename_i hk;rw [Yd hk]
theorem zjx {a:List UInt8}{neg:Bool}{r:List UInt8}{i:Nat}(h1:decide (a.getD 0 0=45)=neg)(h2:r=if neg=true then a.drop 1 else a)(h3:r.findIdx? (· ==47)=some i):zbV a=zgt neg (r.take i) (r.drop (i+1)) true:=by
 rw [zdg];have:zB a=(neg,r.take i,r.drop (i+1),true):=by unfold zB;simp only;rw [h1, ←h2,h3]
 rw [this]
theorem zjy {a:List UInt8}{neg:Bool}{r:List UInt8}(h1:decide (a.getD 0 0=45)=neg)(h2:r=if neg=true then a.drop 1 else a)(h3:r.findIdx? (· ==47)=none):zbV a=zgt neg r [49] false:=by
 rw [zdg];have:zB a=(neg,r,[49],false):=by unfold zB;simp only;rw [h1, ←h2,h3]
 rw [this]
theorem zgZ {neg:Bool}{n d:List UInt8}{fr:Bool}(h:zbZ neg n d fr=true):zgt neg n d fr=.tup [.bool neg,.str n,.str d,.bool true]:=Yf h
theorem zbe {neg:Bool}{n d:List UInt8}{fr:Bool}(h:zbZ neg n d fr=false):zgt neg n d fr=.tup [.bool false,.str [],.str [],.bool false]:=Yd (by rw [h];decide)
theorem zd9 {neg:Bool}{n d:List UInt8}{fr:Bool}(h:¬zaE n=true):zbZ neg n d fr=false:=by rw [Ycx]at h;simp [zbZ,h]
theorem zkF {neg:Bool}{n d:List UInt8}{fr:Bool}(h:¬zaE d=true):zbZ neg n d fr=false:=by rw [Ycx]at h;simp [zbZ,h]
theorem zgW {neg:Bool}{n:List UInt8}:zbZ neg n [48] true=false:=by simp [zbZ]
theorem zgV {neg:Bool}{n:List UInt8}:zbZ neg n [49] true=false:=by simp [zbZ]
theorem zgU {neg:Bool}{d:List UInt8}(h:zaE d=true)(h1:d≠[49]):zbZ neg [48] d true=false:=by
 have hv:=zak (shortN_iff.1 h).1;have:Nat.gcd (valD [48]) (valD d)≠1:=by show Nat.gcd 0 (valD d)≠1;rw [Yco];intro e;rw [e]at hv;exact h1 hv.symm
 simp [zbZ,this]
theorem zea {neg:Bool}{n d:List UInt8}(h1:zaE n=true)(h2:zaE d=true)(h3:n≠[48])(h4:d≠[48])(h5:d≠[49]):zbZ neg n d true=decide (Nat.gcd (valD n) (valD d)=1):=by simp [zbZ,h1,h2,h3,h4,h5]
theorem s48:zaE [48]=true:=by decide
theorem s49:zaE [49]=true:=by decide
theorem zeW {neg:Bool}{n:List UInt8}(h1:zaE n=true):zbZ neg n [49] false= !(neg&&decide (n=[48])):=by
 have:Nat.gcd (valD n) (valD [49])=1:=by show Nat.gcd (valD n) 1=1;rw [Ycp]
 simp only [zbZ,h1,s49,this,YbD,Yar,Y7,Bool.not_false,Yaw,Ybx]
theorem zxL(neg:Bool):zgt neg [48] [49] false=if neg=true then .tup [.bool false,.str [],.str [],.bool false]else .tup [.bool neg,.str [48],.str [49],.bool true]:=by unfold zgt;rw [zeW s48];cases neg<;>rfl
theorem zxB(a:List UInt8)(hl:a.length≤1000000000):PCall prog 54 [.str a] (.ret (zbV a)):=by
 have hΓ:=zf zvC (zf zvB (zf zr3 zh));refine PCall.wD (rs:=[.tmp 2,.tmp 3,.tmp 4,.tmp 5]) [0,2,3,4,5,6,7,8,9,10,21,27,65,77] [] mixed (hΓ) (zg) call54 func54 rfl ntmps54 rfl ?_;simp (disch:=first|exact Zq|fail) only [go_sem];refine⟨fun h=>⟨h,by simpa using h⟩,?_⟩;have hbn:(decide (0<(a.length:Int))&&decide (((a.getD 0 0).toNat:Int)=45))=decide (a.getD 0 0=45):=by
  rw [YaJ];simp only [Yc,Yh];constructor
  ·rintro⟨_,h2⟩;exact YaW.1 (by have:(45:UInt8).toNat=45:=rfl;omega)
  ·intro h;refine⟨?_,by rw [h];rfl⟩;rcases a with _|⟨c,a⟩
   ·cases h
   ·simp
 rw [hbn];by_cases hneg:a.getD 0 0=45
 ·have hq:=YB hneg;rw [hq];have hr:(a.drop 1).length≤1000000000:=by first|exact hl|(simp;omega)
  have hne:0<a.length∨true=false:=by
   rcases a with _|⟨c,a⟩
   ·first|(exact .inr rfl)|cases hneg
   ·simp
  have p1:=fun i=>zjx (r:=a.drop 1) (i:=i) hq rfl;have p2:=zjy (r:=a.drop 1) hq rfl;simp (disch:=first|exact Zq|fail) only [go_sem,YQ];try refine⟨⟨by simp at hne;omega,YbX _⟩,?_⟩
  generalize a.drop 1=r at*;cases hf:r.findIdx? (· ==47)with
  |some i=>
   rw [p1 i hf];have hx:ixB r 47=(i:Int):=by unfold ixB;rw [hf]
   have hi:i<r.length:=by rw [YaX]at hf;exact hf.1
   have h0:decide (0≤(i:Int))=true:=by simp
   rw [hx,h0];simp (disch:=first|exact Zq|fail) only [go_sem,YQ];refine⟨⟨by omega,by omega,YbX _⟩,⟨by omega,by omega⟩,fun h=>⟨h,fun h'=>by simp only [h,h'];rfl⟩,fun h=>⟨h,fun h'=>by simp only [h,h'];rfl⟩,?_⟩;generalize r.take i=n;generalize r.drop (i+1)=d;by_cases h1:zaE n=true
   case neg=>
    rw [zbe (zd9 h1)]
    simp only [go_sem,h1]
   by_cases h2:zaE d=true
   case neg=>
    rw [zbe (zkF h2)]
    simp only [go_sem,h1,h2]
   by_cases h4:d=[48]
   ·rw [h4,zbe zgW];simp only [go_sem,h1,s48]
   by_cases h5:d=[49]
   ·rw [h5,zbe zgV];simp only [go_sem,h1,s49,h0,YcI]
   by_cases h3:n=[48]
   ·rw [h3,zbe (zgU h2 h5)];simp only [go_sem,s48,h2,h4,h5,h0,YcI]
   simp only [go_sem,h1,h2,h3,h4,h5,zgm (shortN_iff.1 h1).1 (shortN_iff.1 h2).1,zaM];refine AXc.introN (fun h6=>?_) (fun h6=>?_)
   ·rw [zbe (by rw [zea h1 h2 h3 h4 h5];simpa using h6)];simp only [go_sem]
   ·rw [zgZ (by rw [zea h1 h2 h3 h4 h5];simpa using h6)];simp only [go_sem]
  |none=>
   rw [p2 hf];have hx:ixB r 47= -1:=by unfold ixB;rw [hf]
   rw [hx];have z49:decide (([49]:List UInt8)=[48])=false:=by decide
   by_cases h1:zaE r=true
   case neg=>
    rw [zbe (zd9 h1)]
    simp only [go_sem,h1,s49,z49]
   by_cases h2:r=[48]
   ·rw [h2,zxL];simp only [go_sem,s48,s49,z49,zgm (shortN_iff.1 s48).1 (shortN_iff.1 s49).1,if_true,YO,if_false]
   ·rw [zgZ (by rw [zeW h1];simp [h2])];simp only [go_sem,h1,s49,z49,h2,zgm (shortN_iff.1 h1).1 (shortN_iff.1 s49).1]
 ·have hq:=Yy hneg;rw [hq];have hr:(a).length≤1000000000:=by first|exact hl|(simp;omega)
  have hne:0<a.length∨false=false:=by
   rcases a with _|⟨c,a⟩
   ·first|(exact .inr rfl)|cases hneg
   ·simp
  have p1:=fun i=>zjx (r:=a) (i:=i) hq rfl;have p2:=zjy (r:=a) hq rfl;simp (disch:=first|exact Zq|fail) only [go_sem,YQ];try refine⟨⟨by simp at hne;omega,YbX _⟩,?_⟩
  generalize a=r at*;cases hf:r.findIdx? (· ==47)with
  |some i=>
   rw [p1 i hf];have hx:ixB r 47=(i:Int):=by unfold ixB;rw [hf]
   have hi:i<r.length:=by rw [YaX]at hf;exact hf.1
   have h0:decide (0≤(i:Int))=true:=by simp
   rw [hx,h0];simp (disch:=first|exact Zq|fail) only [go_sem,YQ];refine⟨⟨by omega,by omega,YbX _⟩,⟨by omega,by omega⟩,fun h=>⟨h,fun h'=>by simp only [h,h'];rfl⟩,fun h=>⟨h,fun h'=>by simp only [h,h'];rfl⟩,?_⟩;generalize r.take i=n;generalize r.drop (i+1)=d;by_cases h1:zaE n=true
   case neg=>
    rw [zbe (zd9 h1)]
    simp only [go_sem,h1]
   by_cases h2:zaE d=true
   case neg=>
    rw [zbe (zkF h2)]
    simp only [go_sem,h1,h2]
   by_cases h4:d=[48]
   ·rw [h4,zbe zgW];simp only [go_sem,h1,s48]
   by_cases h5:d=[49]
   ·rw [h5,zbe zgV];simp only [go_sem,h1,s49,h0,YcI]
   by_cases h3:n=[48]
   ·rw [h3,zbe (zgU h2 h5)];simp only [go_sem,s48,h2,h4,h5,h0,YcI]
   simp only [go_sem,h1,h2,h3,h4,h5,zgm (shortN_iff.1 h1).1 (shortN_iff.1 h2).1,zaM];refine AXc.introN (fun h6=>?_) (fun h6=>?_)
   ·rw [zbe (by rw [zea h1 h2 h3 h4 h5];simpa using h6)];simp only [go_sem]
   ·rw [zgZ (by rw [zea h1 h2 h3 h4 h5];simpa using h6)];simp only [go_sem]
  |none=>
   rw [p2 hf];have hx:ixB r 47= -1:=by unfold ixB;rw [hf]
   rw [hx];have z49:decide (([49]:List UInt8)=[48])=false:=by decide
   by_cases h1:zaE r=true
   case neg=>
    rw [zbe (zd9 h1)]
    simp only [go_sem,h1,s49,z49]
   by_cases h2:r=[48]
   ·rw [h2,zxL];simp only [go_sem,s48,s49,z49,zgm (shortN_iff.1 s48).1 (shortN_iff.1 s49).1,if_true,YO,if_false]
   ·rw [zgZ (by rw [zeW h1];simp [h2])];simp only [go_sem,h1,s49,z49,h2,zgm (shortN_iff.1 h1).1 (shortN_iff.1 s49).1]
noncomputable def zlG:List V→Option PR:=zu (fun a:List UInt8=>[.str a]) (fun a=>a.length≤1000000000) fun a=>.ret (zbV a)
theorem zjU(a:List UInt8)(h:a.length≤1000000000):zlG [.str a]=some (.ret (zbV a)):=zo (pat:=fun a:List UInt8=>[V.str a]) (fun x y h=>by simpa using h) a h
theorem zeI:∀ args r,zlG args=some r→PCall prog 54 args r:=zn fun a h=>zxB a h
theorem partsV_s {a:List UInt8}{s:Bool}{n d:Nat}(hr:ratP a=some (s,n,d)):zbV a=.tup [.bool s,.str (dec n),.str (dec d),.bool true]:=by unfold zbV;generalize ratP a=q at hr;subst hr;rfl
theorem partsV_n {a:List UInt8}(hr:ratP a=none):zbV a=.tup [.bool false,.str [],.str [],.bool false]:=by unfold zbV;generalize ratP a=q at hr;subst hr;rfl
@[go_sem] theorem cRParts_s {a:List UInt8}{s:Bool}{n d:Nat}(hr:ratP a=some (s,n,d))(h:a.length≤1000000000):zlG [.str a]=some (.ret (.tup [.bool s,.str (dec n),.str (dec d),.bool true])):=
 (zjU a h).trans (Ya6 (fun v=>some (PR.ret v)) (partsV_s hr))
@[go_sem] theorem cRParts_n {a:List UInt8}(hr:ratP a=none)(h:a.length≤1000000000):zlG [.str a]=some (.ret (.tup [.bool false,.str [],.str [],.bool false])):=
 (zjU a h).trans (Ya6 (fun v=>some (PR.ret v)) (partsV_n hr))
theorem ztG(a:List UInt8)(h:a.length≤1000000000):PCall prog 76 [.str a] (.ret (.bool (ratP a).isSome)):=by
 refine PCall.wD (rs:=[.tmp 2]) [0,2,6] [] mixed (zf zeI zh) (zg) call76 func76 rfl ntmps76 rfl ?_;cases hr:ratP a with
 |none=>simp (disch:=first|exact Zq|fail) only [go_sem,hr,YcL]
 |some q=>
  obtain⟨s,n,d⟩:=q;simp (disch:=first|exact Zq|fail) only [go_sem,hr,Option.isSome_some]
noncomputable def zsa:List V→Option PR:=zu (fun a:List UInt8=>[.str a]) (fun a=>a.length≤1000000000) fun a=>.ret (.bool (ratP a).isSome)
@[go_sem] theorem cR3Valid_eq(a:List UInt8)(h:a.length≤1000000000):zsa [.str a]=some (.ret (.bool (ratP a).isSome)):=zo (pat:=fun a:List UInt8=>[V.str a]) (fun x y h=>by simpa using h) a h
theorem zir:∀ args r,zsa args=some r→PCall prog 76 args r:=zn fun a h=>ztG a h
attribute [go_sem] List.getElem?_cons_zero List.getElem?_cons_succ
def numV(s:Bool)(n d:List UInt8):V:=.agg [.bool s,.str n,.str d]
def zed(a:List UInt8):V:=match ratP a with
 |some (s,n,d)=>.tup [numV s (dec n) (dec d),.bool true]
 |none=>.tup [numV false [] [],.bool false]
def zeO(neg:Bool)(n d:List UInt8)(fr:Bool):V:=if zbZ neg n d fr=true then .tup [numV neg n d,.bool true]else .tup [numV false [] [],.bool false]
theorem zmJ(a:List UInt8):zed a=zeO (zB a).1 (zB a).2.1 (zB a).2.2.1 (zB a).2.2.2:=by
 unfold zed zeO ratP;split
 ·rename_i h;split at h
  ·rename_i hk;simp only [Yv,YbN]at h;obtain⟨rfl,rfl,rfl⟩:=h;rw [Yf hk];simp only [zbZ,Yc]at hk;rw [zak (shortN_iff.1 hk.1.1.1.1).1,zak (shortN_iff.1 hk.1.1.1.2).1]
  ·cases h
 ·rename_i h;split at h
  ·cases h
  ·rename_i hk;rw [Yd hk]
theorem zjz {a:List UInt8}{neg:Bool}{r:List UInt8}{i:Nat}(h1:decide (a.getD 0 0=45)=neg)(h2:r=if neg=true then a.drop 1 else a)(h3:r.findIdx? (· ==47)=some i):zed a=zeO neg (r.take i) (r.drop (i+1)) true:=by
 rw [zmJ];have:zB a=(neg,r.take i,r.drop (i+1),true):=by unfold zB;simp only;rw [h1, ←h2,h3]
 rw [this]
theorem zjA {a:List UInt8}{neg:Bool}{r:List UInt8}(h1:decide (a.getD 0 0=45)=neg)(h2:r=if neg=true then a.drop 1 else a)(h3:r.findIdx? (· ==47)=none):zed a=zeO neg r [49] false:=by
 rw [zmJ];have:zB a=(neg,r,[49],false):=by unfold zB;simp only;rw [h1, ←h2,h3]
 rw [this]
theorem zg0 {neg:Bool}{n d:List UInt8}{fr:Bool}(h:zbZ neg n d fr=true):zeO neg n d fr=.tup [numV neg n d,.bool true]:=Yf h
theorem zbf {neg:Bool}{n d:List UInt8}{fr:Bool}(h:zbZ neg n d fr=false):zeO neg n d fr=.tup [numV false [] [],.bool false]:=Yd (by rw [h];decide)
theorem pref45(a:List UInt8):List.isPrefixOf [45] a=decide (a.getD 0 0=45):=by
 rcases a with _|⟨c,a⟩
 ·rfl
 ·show (45==c&&true)=decide (c=45);rw [Yaw,YaJ];simp only [beq_iff_eq,Yh];exact eq_comm
theorem zfZ(n d:List UInt8):(!zD n|| !zD d||decide (400<(n.length:Int))||decide (400<(d.length:Int)))= !(zaE n&&zaE d):=by
 rw [YaJ];simp only [zaE,Yae,Yaa,Bool.and_eq_false_imp,Yh,Yc,YS];constructor
 ·rintro(((h|h)|h)|h) h1 h2
  ·rw [h]at h1;exact absurd h1.1 (by decide)
  ·rw [h]at h2;exact absurd h2 (by decide)
  ·omega
  ·omega
 ·intro h;by_cases h1:zD n=true
  ·by_cases h2:zD d=true
   ·by_cases h3:n.length≤400
    ·have:=h ⟨h1,h3⟩ h2;exact .inr (by omega)
    ·exact .inl (.inr (by omega))
   ·exact .inl (.inl (.inr (by simpa using h2)))
  ·exact .inl (.inl (.inl (by simpa using h1)))
theorem zmo(n:List UInt8):(!zD n||decide (400<(n.length:Int)))= !zaE n:=by
 have:=zfZ n [49];have h1:zD [49]=true:=by decide
 have h2:decide (400<(([49]:List UInt8).length:Int))=false:=by decide
 rw [h1,h2,s49,Ybj,YcA,YcA,Yaw]at this;exact this
theorem parse_ok(a:List UInt8)(hl:a.length≤1000000000):PCall prog 116 [.str a] (.ret (zed a)):=by
 have hΓ:=zf zqu (zf cCut_ok (zf zcM (zf zsf zh)));refine PCall.wD (rs:=[.cell 2 150,.tmp 3]) [0,2,3,4,5,6,7,8,9,10,23,41,58,71] [] mixed (hΓ) (zg) call116 func116 rfl ntmps116 rfl ?_;by_cases hneg:a.getD 0 0=45
 ·have hq:=YB hneg;have hr:(a.drop 1).length≤1000000000:=by first|exact hl|(simp;omega)
  have p1:=fun i=>zjz (r:=a.drop 1) (i:=i) hq rfl;have p2:=zjA (r:=a.drop 1) hq rfl;have hcp:zbt a [45]=.tup [.str (a.drop 1),.bool true]:=by unfold zbt;rw [pref45,hq];rfl
  simp (disch:=first|exact Zq|fail) only [go_sem,hcp];generalize a.drop 1=r at*;cases hf:r.findIdx? (· ==47)with
  |some i=>
   rw [p1 i hf];have hct:cutV r 47=.tup [.str (r.take i),.str (r.drop (i+1)),.bool true]:=by unfold cutV;rw [hf]
   generalize r.take i=n at*;generalize r.drop (i+1)=d at*;simp only [go_sem,hct];rw [zfZ];by_cases h1:zaE n=true
   case neg=>
    rw [zbf (zd9 h1)]
    simp only [go_sem,h1,Y7,numV]
    exact .pure (by simp [zX,zQ,zT])
   by_cases h2:zaE d=true
   case neg=>
    rw [zbf (zkF h2)]
    simp only [go_sem,h1,h2,YaQ,numV]
    exact .pure (by simp [zX,zQ,zT])
   by_cases h4:d=[48]
   ·rw [h4,zbf zgW];simp only [go_sem,h1,s48,YbD,numV];exact .pure (by simp [zX,zQ,zT])
   by_cases h5:d=[49]
   ·rw [h5,zbf zgV];simp only [go_sem,h1,s49,YbD,numV];first
     |exact .pure (by simp [zX,zQ,zT])
     |exact⟨fun h=>⟨h,fun _=>by rw [h];rfl⟩,.pure (by simp [zX,zQ,zT])⟩
   by_cases h3:n=[48]
   ·rw [h3,zbf (zgU h2 h5)];have hg:decide (Nat.gcd (valD [48]) (valD d)=1)=false:=by rw [YS,show valD [48]=0 from rfl,Yco];intro e;have hv:=zak (shortN_iff.1 h2).1;rw [e]at hv;exact h5 hv.symm
    simp only [go_sem,s48,h2,h4,h5,YbD,numV,zdR (shortN_iff.1 s48).1 (shortN_iff.1 h2).1,zaM,hg];exact .pure (by simp [zX,zQ,zT])
   simp only [go_sem,h1,h2,h3,h4,h5,zdR (shortN_iff.1 h1).1 (shortN_iff.1 h2).1,zaM,YbD];refine AXc.introN (fun h6=>?_) (fun h6=>?_)
   ·rw [zbf (by rw [zea h1 h2 h3 h4 h5];simpa using h6)];simp only [go_sem,numV];exact .pure (by simp [zX,zQ,zT])
   ·rw [zg0 (by rw [zea h1 h2 h3 h4 h5];simpa using h6)];simp only [go_sem,numV];exact .pure (by simp [zX,zQ,zT])
  |none=>
   rw [p2 hf];have hct:cutV r 47=.tup [.str r,.str [],.bool false]:=by unfold cutV;rw [hf]
   have v49:zD [49]=true:=by decide
   simp only [go_sem,hct,v49];rw [zmo];by_cases h1:zaE r=true
   case neg=>
    rw [zbf (zd9 h1)]
    simp only [go_sem,h1,numV]
    exact .pure (by simp [zX,zQ,zT])
   have g1:decide (Nat.gcd (valD r) (valD [49])=1)=true:=by rw [Yh,show valD [49]=1 from rfl,Ycp]
   by_cases h3:r=[48]
   ·have hq2:zeO true r [49] false=if true=true then .tup [numV false [] [],.bool false]else .tup [numV true r [49],.bool true]:=by
     unfold zeO
     rw [zeW h1,h3]
     rfl
    rw [hq2]
    rw [h3]at g1 ⊢
    simp only [go_sem,s48,numV,zdR (shortN_iff.1 s48).1 (shortN_iff.1 s49).1,zaM,g1,if_true,YO,if_false]
    exact .pure (by simp [zX,zQ,zT])
   ·rw [zg0 (by rw [zeW h1];simp [h3])];simp only [go_sem,h1,h3,numV,zdR (shortN_iff.1 h1).1 (shortN_iff.1 s49).1,zaM,g1];exact .pure (by simp [zX,zQ,zT])
 ·have hq:=Yy hneg;have hr:(a).length≤1000000000:=by first|exact hl|(simp;omega)
  have p1:=fun i=>zjz (r:=a) (i:=i) hq rfl;have p2:=zjA (r:=a) hq rfl;have hcp:zbt a [45]=.tup [.str (a),.bool false]:=by unfold zbt;rw [pref45,hq];rfl
  simp (disch:=first|exact Zq|fail) only [go_sem,hcp];generalize a=r at*;cases hf:r.findIdx? (· ==47)with
  |some i=>
   rw [p1 i hf];have hct:cutV r 47=.tup [.str (r.take i),.str (r.drop (i+1)),.bool true]:=by unfold cutV;rw [hf]
   generalize r.take i=n at*;generalize r.drop (i+1)=d at*;simp only [go_sem,hct];rw [zfZ];by_cases h1:zaE n=true
   case neg=>
    rw [zbf (zd9 h1)]
    simp only [go_sem,h1,Y7,numV]
    exact .pure (by simp [zX,zQ,zT])
   by_cases h2:zaE d=true
   case neg=>
    rw [zbf (zkF h2)]
    simp only [go_sem,h1,h2,YaQ,numV]
    exact .pure (by simp [zX,zQ,zT])
   by_cases h4:d=[48]
   ·rw [h4,zbf zgW];simp only [go_sem,h1,s48,YbD,numV];exact .pure (by simp [zX,zQ,zT])
   by_cases h5:d=[49]
   ·rw [h5,zbf zgV];simp only [go_sem,h1,s49,YbD,numV];first
     |exact .pure (by simp [zX,zQ,zT])
     |exact⟨fun h=>⟨h,fun _=>by rw [h];rfl⟩,.pure (by simp [zX,zQ,zT])⟩
   by_cases h3:n=[48]
   ·rw [h3,zbf (zgU h2 h5)];have hg:decide (Nat.gcd (valD [48]) (valD d)=1)=false:=by rw [YS,show valD [48]=0 from rfl,Yco];intro e;have hv:=zak (shortN_iff.1 h2).1;rw [e]at hv;exact h5 hv.symm
    simp only [go_sem,s48,h2,h4,h5,YbD,numV,zdR (shortN_iff.1 s48).1 (shortN_iff.1 h2).1,zaM,hg];exact .pure (by simp [zX,zQ,zT])
   simp only [go_sem,h1,h2,h3,h4,h5,zdR (shortN_iff.1 h1).1 (shortN_iff.1 h2).1,zaM,YbD];refine AXc.introN (fun h6=>?_) (fun h6=>?_)
   ·rw [zbf (by rw [zea h1 h2 h3 h4 h5];simpa using h6)];simp only [go_sem,numV];exact .pure (by simp [zX,zQ,zT])
   ·rw [zg0 (by rw [zea h1 h2 h3 h4 h5];simpa using h6)];simp only [go_sem,numV];exact .pure (by simp [zX,zQ,zT])
  |none=>
   rw [p2 hf];have hct:cutV r 47=.tup [.str r,.str [],.bool false]:=by unfold cutV;rw [hf]
   have v49:zD [49]=true:=by decide
   simp only [go_sem,hct,v49];rw [zmo];by_cases h1:zaE r=true
   case neg=>
    rw [zbf (zd9 h1)]
    simp only [go_sem,h1,numV]
    exact .pure (by simp [zX,zQ,zT])
   have g1:decide (Nat.gcd (valD r) (valD [49])=1)=true:=by rw [Yh,show valD [49]=1 from rfl,Ycp]
   by_cases h3:r=[48]
   ·have hq2:zeO false r [49] false=if false=true then .tup [numV false [] [],.bool false]else .tup [numV false r [49],.bool true]:=by
     unfold zeO
     rw [zeW h1,h3]
     rfl
    rw [hq2]
    rw [h3]at g1 ⊢
    simp only [go_sem,s48,numV,zdR (shortN_iff.1 s48).1 (shortN_iff.1 s49).1,zaM,g1,if_true,YO,if_false]
    exact .pure (by simp [zX,zQ,zT])
   ·rw [zg0 (by rw [zeW h1];simp [h3])];simp only [go_sem,h1,h3,numV,zdR (shortN_iff.1 h1).1 (shortN_iff.1 s49).1,zaM,g1];exact .pure (by simp [zX,zQ,zT])
end Go.Proofs
