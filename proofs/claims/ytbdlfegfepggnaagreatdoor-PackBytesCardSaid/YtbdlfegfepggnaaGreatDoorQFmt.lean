/- Decimal texts: the shelf's contracts at this translation, laid by hand; strconv.Itoa, strconv.FormatUint. -/
import Derived.Shelf.Strconv.Itoa3
import Derived.Shelf.LaysM
import Derived.Lib.ItoaMem
import Derived.WalkKit
import Derived.BigCall
import Derived.BigGuard
import Derived.Test.YtbdlfegfepggnaaGreatDoorPlPad
import Derived.Shelf.Unicode.DecodeAny
set_option linter.all false
set_option maxHeartbeats 16000000
set_option maxRecDepth 100000
noncomputable section
namespace Go.Proofs
open Tryz Go.Ab Go.Pl Go.Shelf Go.RowKit Go.Sort Go.Lib
def renI:Ren where
 f:=fun x=>match x with|283=>207|284=>208|285=>209|286=>210|129=>85|317=>217|318=>218|319=>219|320=>220|337=>222|338=>223|n=>n
 t:=fun x=>match x with|3=>3|9=>9|2=>2|4=>4|171=>217|0=>0|53=>129|37=>28|5=>5|173=>219|212=>228|51=>81|20=>20|213=>229|46=>83|232=>230|233=>231|n=>n
 g:=fun x=>match x with|17=>4|18=>5|19=>6|n=>n
def laysI284:LaysM.n284 prog renI:=by constructor<;>first|kernel_rfl|(intro w;kernel_rfl)|(constructor<;>first|kernel_rfl|(intro w;kernel_rfl))
def laysI285:Lays.n285 prog renI:=by constructor<;>first|kernel_rfl|(intro w;kernel_rfl)
def laysI283:Lays.n283 prog renI:=by constructor<;>first|kernel_rfl|(intro w;kernel_rfl)
def Xq {P:Program}{f:FuncId}{args:ZA}{v:V}(hc:zk P f)(hs:zaz v=true) (h:∀(g:G)(w:World)(vs:Array Value),GOK g→(∀c arr,g.phi c=some arr→∃t fr,w.heap[c]? =some (.cells arr t fr))→vs.size=args.length→PW g args (fun i=>vs[i]?)→Calls P f vs w fun e w'=>∃vc,e=.returned vc∧VRel g v vc∧Bel w.heap.size w w'):PCall P f args (.ret v):=fun g w vs h1 h2 h3 h4=>
 .inl ⟨hc vs w,(h g w vs h1 h2 h3 h4).mono fun e w' ⟨vc,he,hv,hb⟩=>⟨fun _=>none,vc,fun c a e=>(by cases e),hb,he,zeD hs hv⟩⟩
def bel_grow(w:World)(k:Nat)(os:Array Obj):Bel w.heap.size w (grow (w.drewN k) os):=
 ⟨rfl,⟨rfl,zuV (Nat.le_add_right _ _)⟩,rfl,by show w.heap.size≤(w.heap++os).size;simp,fun c hc=>by show (w.heap++os)[c]? =_;rw[YaV hc]⟩
def args1 {g:G}{a:V}{vs:Array Value}(hvs:vs.size=[a].length)(hp:PW g [a] (fun i=>vs[i]?)):∃x,vs=#[x]∧VRel g a x:=by
 obtain⟨x,hx,r⟩:=hp 0 a rfl;refine⟨x,YaD fun i=>?_,r⟩;match i with
 |0=>exact hx
 |i+1=>rw[Yv (by simp at hvs;omega)];rfl
def args2 {g:G}{a b:V}{vs:Array Value}(hvs:vs.size=[a,b].length)(hp:PW g [a,b] (fun i=>vs[i]?)):∃x y,vs=#[x,y]∧VRel g a x∧VRel g b y:=by
 obtain⟨x,hx,r⟩:=hp 0 a rfl;obtain⟨y,hy,q⟩:=hp 1 b rfl;refine⟨x,y,YaD fun i=>?_,r,q⟩;match i with
 |0=>exact hx
 |1=>exact hy
 |i+2=>rw[Yv (by simp at hvs;omega)];rfl
def zxf:zxg=Lib.pow10Tab.map (fun z=>V.int .u64 z):=Zk
def ints_arr {g:G}{k:IntKind}{zs:List Int}{arr:Array Value}(hs:arr.size=zs.length)(hp:PW g (zs.map fun z=>V.int k z) (fun i=>arr[0+i]?)):arr=(zs.map fun z=>Value.int k z).toArray:=by
 apply YaD;intro i;by_cases h:i<zs.length
 ·obtain⟨v,hv,r⟩:=hp i (.int k zs[i]) (by simp[h]);have hv':arr[0+i]? =some v:=hv;rw[Yan]at hv';rw[hv',r.inv_int];simp[h]
 rw[Yv Zo,Yv (by simp only[List.size_toArray,Y5];omega)]
def tab_ok {g:G}{w:World}(hg:GOK g)(hf:∀c arr,g.phi c=some arr→∃t fr,w.heap[c]? =some (.cells arr t fr)):Lib.TabIs prog w "internal/strconv.uint64pow10" .u64 Lib.pow10Tab:=by
 obtain⟨hr,arr,hphi,hsz⟩:=hg 4 zxg rfl;obtain⟨c,o,arr',he,hphi',hpw⟩:=hr.inv_fp;cases he;have e:arr'=arr:=by
  have:some arr'=some arr:=by rw[←hphi,←hphi']
  exact Yj this
 subst e;rw[zxf]at hpw hsz;have ha:=ints_arr (by simpa using hsz) hpw;obtain⟨t,fr,hh⟩:=hf 4 arr' hphi;show World.var? prog w "internal/strconv.uint64pow10" =_;have hn:prog.globalNamed "internal/strconv.uint64pow10" =some 4:=Zk;unfold World.var?;rw[hn];simp only[Option.bind_some,hh];rw[ha]
def zlx:∀u:Nat,decDigits u=dec u:=fun u=>by
 induction u using Nat.strongRecOn with
 |_ u ih=>
  rw[decDigits];split
  ·rename_i h;rw[zbF h]
  rename_i h;rw[zdS Zo,ih (u/10) Zo]
def small_c(i:Nat)(hi:i<100)(w:World):Calls prog 207 #[.int .i64 i] w fun e w'=>e=.returned (.string ⟨(decDigits i).toArray⟩)∧w'=w:=Any.internal_strconv_small laysI283 i hi w
def zpi(u:Nat)(h1:1≤u)(h2:u<18446744073709551616)(w:World)(htab:Lib.TabIs prog w "internal/strconv.uint64pow10" .u64 Lib.pow10Tab):Calls prog 208 #[.int .u64 u] w fun e w'=>e=.returned (.int .i64 (Lib.nDigits u))∧w'=w:=Any.internal_strconv_numDigits laysI284 u h1 h2 w htab
def zi7(blk off cap:Nat)(u:Nat)(d:Array UInt8)(w:World)(hH:Holds (fun(b:UInt8)=>Value.int .u8 (b.toNat:Int)) w blk off d)(hu:u<10^d.size)(hu64:u<18446744073709551616)(hsz:d.size<4611686018427387904):Calls prog 209 #[.slice (some ⟨blk,off,none⟩) d.size cap,.int .u64 u] w fun e w'=>
 e=.returned (.tuple #[])∧∃(n v':Nat)(dk:Array UInt8),w'=(putRow (fun(b:UInt8)=>Value.int .u8 (b.toNat:Int)) w blk off dk).drewN n∧FmtInv d.size u 0 v' dk:=Any.internal_strconv_formatBase10 laysI285 blk off cap u d w hH hu hu64 hsz
def fin_pos0(w:World)(o:Obj)(dk:Array UInt8)(k:Nat):∃os,(putRow (fun(b:UInt8)=>Value.int .u8 (b.toNat:Int)) (w.alloc o) w.heap.size 0 dk).drewN k=grow (w.drewN k) os:=by rw[alloc_eq_grow];obtain⟨os',_,e⟩:=putRow_grow_new (fun(b:UInt8)=>Value.int .u8 (b.toNat:Int)) w #[o] w.heap.size 0 dk (Yc _);exact⟨os',by rw[e];rfl⟩
def fmtU_c(u:Nat)(hu64:u<18446744073709551616)(w:World)(htab:Lib.TabIs prog w "internal/strconv.uint64pow10" .u64 Lib.pow10Tab):Calls prog 196 #[.int .u64 u,.int .i64 10] w fun e w'=>e=.returned (.string ⟨(decDigits u).toArray⟩)∧∃k os,w'=grow (w.drewN k) os:=by
 by_cases hi:u<100
 ·have hwr:IntKind.i64.wrap (u:Int)=(u:Int):=by rw[IntKind.wrap_i64];omega
  go_enter func196,ntmps196;go_wp2_with (go_at_call 207;refine(small_c u hi _).mono ?_;rintro e w' ⟨rfl,rfl⟩);go_ret;exact⟨rfl,0,#[],by simp[World.drewN_zero]⟩
 have hu1:1≤u:=Zo;have hnd20:Lib.nDigits u≤20:=by have:=Lib.numDigits_eq u hu1 hu64;split at this<;>omega
 have hal:prog.arrayLen 217=24:=Zk;have hsl1:∀W,(Instr.sliceAt 217 (.pointer (some ⟨w.heap.size,0,none⟩)) none (some (.int .i64 (Lib.nDigits u:Int))) none).run prog W=.ok (.slice (some ⟨w.heap.size,0,none⟩) (Lib.nDigits u) 24) W:=fun W=>by rw[run_sliceAt_array_h W 217 ⟨w.heap.size,0,none⟩ Zk .i64 (Lib.nDigits u:Int) Zo (by rw[hal];omega)];rfl
 have hH0:Holds (fun(b:UInt8)=>Value.int .u8 (b.toNat:Int)) (w.alloc (.cells Lib.zeros24 217)) w.heap.size 0 (Array.replicate (Lib.nDigits u) 0):=fun j hj=>by
  have hj':j<Lib.nDigits u:=by simpa using hj
  refine⟨?_,World.frozen?_alloc_new _ _ _ _⟩;rw[World.cell?_alloc_new,Yan,zeros24_at _ Zo,getElem!_pos _ j hj];simp
 have hfmt:=zi7 w.heap.size 0 24 u (Array.replicate (Lib.nDigits u) 0) (w.alloc (.cells Lib.zeros24 217)) hH0 (by rw[Yb6];exact Lib.lt_pow_nDigits u) hu64 (by rw[Yb6];omega);rw[Yb6]at hfmt;go_enter func196,ntmps196;go_wp2_with (go_at_call 208;refine(zpi u hu1 hu64 _ (Lib.tabIs_alloc htab _)).mono ?_;rintro e w' ⟨rfl,rfl⟩);refine hfmt.mono ?_;rintro e w' ⟨rfl,k,v',dk,rfl,hF⟩;have hcv:(convert 28 9 (.slice (some ⟨w.heap.size,0,none⟩) (Lib.nDigits u) 24)).run prog ((putRow (fun(b:UInt8)=>Value.int .u8 (b.toNat:Int)) (w.alloc (.cells Lib.zeros24 217)) w.heap.size 0 dk).drewN k)=.ok (.string ⟨(Lib.decDigits u).toArray⟩) ((putRow (fun(b:UInt8)=>Value.int .u8 (b.toNat:Int)) (w.alloc (.cells Lib.zeros24 217)) w.heap.size 0 dk).drewN k):=by have h:=run_convert_bytes_back (P:=prog) ((putRow (fun(b:UInt8)=>Value.int .u8 (b.toNat:Int)) (w.alloc (.cells Lib.zeros24 217)) w.heap.size 0 dk).drewN k) 28 9 5 ⟨w.heap.size,0,none⟩ 24 (Lib.decDigits u) Zk Zk Zk (fun j hj=>by rw[Lib.row_is_numeral hF j hj,Lib.add_plain,World.cell?_drewN];exact cell?_putRow (fun(b:UInt8)=>Value.int .u8 (b.toNat:Int)) _ w.heap.size 0 _ dk hH0 (by rw[hF.size,Yb6]) j (by rw[hF.size];rw[Lib.decDigits_length]at hj;exact hj));rw[Lib.decDigits_length]at h;exact h
 go_wp2;go_ret;obtain⟨os,eo⟩:=fin_pos0 w (.cells Lib.zeros24 217) dk k;exact⟨rfl,k,os,eo⟩
def fmtUi_ok(u:Nat)(h:u<18446744073709551616):PCall prog 196 [.int .u64 u,.int .i64 10] (.ret (.str (dec u))):=by
 refine Xq call196 rfl fun g w vs hg hf hvs hp=>?_;obtain⟨x,y,rfl,r,q⟩:=args2 hvs hp;obtain rfl:=r.inv_int;obtain rfl:=q.inv_int;refine(fmtU_c u h w (tab_ok hg hf)).mono fun e w' ⟨he,k,os,hw⟩=>⟨_,he,.str ?_,?_⟩
 ·rw[zlx]
 rw[hw];exact bel_grow w k os
def cFmtI:ZV:=zC (fun d:Nat=>[.int .u64 d,.int .i64 10]) (fun d=>d<18446744073709551616) (fun d=>.ret (.str (dec d)))
def cFmtI_ok:ZC cFmtI 196:=zn fmtUi_ok
def cFmtI_eq(d:Nat)(h:d<18446744073709551616):cFmtI [.int .u64 d,.int .i64 10]=some (.ret (.str (dec d))):=zo (pat:=fun d:Nat=>[V.int .u64 d,.int .i64 10]) (fun x y h=>by simp at h;omega) d h
def fmtOK:FmtOK:=fun d hd=>by refine Xc (rs:=[.tmp 4]) [0,1,4] [] mixed (zg cFmtI_ok zh) (zf) call185 func185 rfl ntmps185 rfl ?_;simp(disch:=try exact Zq)only[go_sem,cFmtI_eq]
def zq1:ziF:=fun n h=>text_ok fmtOK repOK n h
end Go.Proofs

namespace Go.Proofs
open Tryz Go.Ab Go.Pl Go.Shelf Go.RowKit
def renU:Ren where
 f:=fun x=>match x with|197=>115|260=>139|n=>n
 t:=fun x=>match x with|0=>0|3=>3|4=>4|5=>5|9=>9|21=>21|46=>83|105=>146|119=>183|138=>185|139=>186|n=>n
 g:=fun x=>match x with|3=>1|4=>2|n=>n
def laysU197:Lays.n197 prog renU:=by constructor<;>first|kernel_rfl|(intro w;kernel_rfl)|(constructor<;>first|kernel_rfl|(intro w;kernel_rfl))
def zib {g:G}{w:World}(hg:GOK g)(hf:∀c arr,g.phi c=some arr→∃t fr,w.heap[c]? =some (.cells arr t fr)){k:Nat}{cs:ZA}(e:GL k=some cs)(i:Nat)(kd:IntKind)(n:Int)(h:cs[i]? =some (.int kd n)):w.cell? ⟨k,i,none⟩=some (.int kd n):=by
 obtain⟨hr,arr,hphi,hsz⟩:=hg k cs e;obtain⟨c,o,arr',he,hphi',hpw⟩:=hr.inv_fp;cases he;have e':arr'=arr:=by
  have:some arr'=some arr:=by rw[←hphi,←hphi']
  exact Yj this
 subst e';obtain⟨v,hv,r⟩:=hpw i _ h;obtain rfl:=r.inv_int;obtain⟨t,fr,hh⟩:=hf k arr' hphi;simp only[World.cell?,hh];simpa using hv
def first_eq:∀c:Fin 256,firstN c.val=Lib.firstT c.val:=by decide+kernel
def first_at(c:Fin 256):zrK[c.val]? =some (.int .u8 (Lib.firstT c.val)):=by rw[←first_eq c];simp[zrK]
def acc_eq:∀c:Fin 16,([128,191,160,191,128,159,144,191,128,143]++List.replicate 22 0)[2*c.val]? =some (Lib.accLo c.val)∧([128,191,160,191,128,159,144,191,128,143]++List.replicate 22 0)[2*c.val+1]? =some (Lib.accHi c.val):=by decide+kernel
def acc_at(c:Fin 16):accV[2*c.val]? =some (.int .u8 (Lib.accLo c.val))∧accV[2*c.val+1]? =some (.int .u8 (Lib.accHi c.val)):=by obtain⟨h1,h2⟩:=acc_eq c;unfold accV;rw[YX,YX,h1,h2];exact⟨rfl,rfl⟩
def u8_tabs {g:G}{w:World}(hg:GOK g)(hf:∀c arr,g.phi c=some arr→∃t fr,w.heap[c]? =some (.cells arr t fr)):Lib.Utf8Tabs 1 2 w:=
 ⟨fun c hc=>zib hg hf (cs:=zrK) rfl c .u8 _ (first_at ⟨c,hc⟩),fun i hi=>⟨zib hg hf (cs:=accV) rfl (2*i) .u8 _ (acc_at ⟨i,hi⟩).1,zib hg hf (cs:=accV) rfl (2*i+1) .u8 _ (acc_at ⟨i,hi⟩).2⟩⟩
def zAQ {w w':World}(h:Below w.heap.size w w'):Bel w.heap.size w w':=⟨h.os,⟨h.tape,Yc _⟩,h.output,h.size,h.block⟩
def dg8(s:ZL):Nat×Nat:=Lib.decodeGo ⟨s.toArray⟩
def dec_ok(s:ZL):PCall prog 115 [.str s] (.ret (.tup [.int .i32 (dg8 s).1,.int .i64 (dg8 s).2])):=by
 refine Xq call115 rfl fun g w vs hg hf hvs hp=>?_;obtain⟨x,rfl,r⟩:=args1 hvs hp;obtain⟨ba,rfl,hba⟩:=r.inv_str;have hbe:(⟨s.toArray⟩:ByteArray)=ba:=by rw[←hba]
 refine(Any.utf8_DecodeRuneInString laysU197 ba w (u8_tabs hg hf)).mono fun e w' ⟨he,hw⟩=>⟨_,he,Xf rfl fun i y hy=>?_,zAQ hw⟩;have hd:dg8 s=Lib.decodeGo ba:=by unfold dg8;rw[hbe]
 rw[hd]at hy;match i,hy with
 |0,hy=>cases hy;exact⟨_,rfl,.int _ _⟩
 |1,hy=>cases hy;exact⟨_,rfl,.int _ _⟩
def cDec:ZV:=zC (fun s:ZL=>[.str s]) (fun _=>True) fun s=>.ret (.tup [.int .i32 (dg8 s).1,.int .i64 (dg8 s).2])
def cDec_eq(s:ZL):cDec [.str s]=some (.ret (.tup [.int .i32 (dg8 s).1,.int .i64 (dg8 s).2])):=zo (pat:=fun s:ZL=>[V.str s]) (fun x y h=>by simpa using h) s trivial
def cDec_ok:ZC cDec 115:=zn fun s _=>dec_ok s
def zrV(s:ZL)(pos:Nat)(h:pos<s.length):dg8 (s.drop pos)=dec8 s pos:=by
 have hs:(⟨(s.drop pos).toArray⟩:ByteArray).size=s.length-pos:=by show (s.drop pos).toArray.size=_;simp
 have hz:(⟨s.toArray⟩:ByteArray).size=s.length:=by show s.toArray.size=_;simp
 have hg:∀k,(⟨(s.drop pos).toArray⟩:ByteArray).get! (0+k)=(⟨s.toArray⟩:ByteArray).get! (pos+k):=fun k=>by show (s.drop pos).toArray[0+k]! =s.toArray[pos+k]!;rw[Yan];simp[List.getElem!_eq_getElem?_getD]
 unfold dg8 dec8 Lib.decodeGo;rw[Yh (by rw[hs];omega),Lib.decode_at,Lib.decode_at,hs,hz,hg 1,hg 2,hg 3];have:=hg 0;rw[Yan,Y3]at this;rw[this,YbA]
def okP(p:Nat×Nat):Bool:= !decide ((p.1:Int)=65533)||decide (1<(p.2:Int))
def piece_ok(s:ZL):PCall prog 91 [.str s] (.ret (.tup [.int .i32 (dg8 s).1,.int .i64 (dg8 s).2,.bool (okP (dg8 s))])):=by refine Xc (rs:=[.tmp 2,.tmp 3,.tmp 4]) [0,2,3,4] [] mixed (zg cDec_ok zh) (zf) call91 func91 rfl ntmps91 rfl ?_;simp(disch:=try exact Zq)only[go_sem,cDec_eq];rfl
def cPiece:ZV:=zC (fun s:ZL=>[.str s]) (fun _=>True) fun s=>.ret (.tup [.int .i32 (dg8 s).1,.int .i64 (dg8 s).2,.bool (okP (dg8 s))])
def zfR(s:ZL):cPiece [.str s]=some (.ret (.tup [.int .i32 (dg8 s).1,.int .i64 (dg8 s).2,.bool (okP (dg8 s))])):=zo (pat:=fun s:ZL=>[V.str s]) (fun x y h=>by simpa using h) s trivial
def zfQ:ZC cPiece 91:=zn fun s _=>piece_ok s
def zw6(s:ZL)(H:Hp):zdX prog 9 (.str s) H=some ⟨.ptr H.next 0,H.new (.si s 0),[],[]⟩:=by have h1:mapT prog 9=none:=Zk;have h2:prog.underlying 9=some .string:=Zk;unfold zdX;rw[h1,h2]
def znD(s:ZL)(pos:Nat)(h:pos<s.length):1≤(dec8 s pos).2∧pos+(dec8 s pos).2≤s.length:=by
 have hz:(⟨s.toArray⟩:ByteArray).size=s.length:=by show s.toArray.size=_;simp
 unfold dec8;rw[Lib.decode_at,hz];unfold Lib.decodeN;repeat' split
 all_goals (simp only;omega)
def zbM(s:ZL):Nat→Nat→Int
 |0,_=>0
 |k+1,pos=>if pos<s.length then(if okP (dec8 s pos)=false then 3 else zbM s k (pos+(dec8 s pos).2))else 0
def zd8(s:ZL):Int:=if 16384<s.length then 2 else zbM s s.length 0
def zjk(s:ZL)(k pos:Nat)(h:¬pos<s.length):zbM s k pos=0:=by
 cases k with
 |zero=>rfl
 |succ k=>rw[zbM,Yh h]
def slL(l:List ZL):V:=match l with|[]=>.nilS|_::_=>.sl 1 0 l.length 1 none
def slB(s:ZL)(pos:Nat)(l:List ZL):Hp:=match l with|[]=>⟨[(0,.si s pos)],1⟩|_::_=>⟨[(1,.cells (strs l)),(0,.si s pos)],2⟩
def split_ok(s:ZL)(hs:s.length≤1000000000):PCall prog 79 [.str s] (.ret (.tup [.any,.any,.int .i64 (zd8 s)])):=by
 refine Xc (rs:=[.tmp 2,.tmp 3,.tmp 4]) [0,2,3,4,5,6,8,9,12,14,15,16,32] [] mixed (zg zfQ zh) (zf) call79 func79 rfl ntmps79 rfl ?_;simp only[go_sem];by_cases h1:16384<s.length
 ·have e:zd8 s=2:=Yi h1;have d0:decide (16384<(s.length:Int))=true:=Yf Zo;rw[e];simp(disch:=try exact Zq)only[go_sem,d0]
 have e:zd8 s=zbM s s.length 0:=Yh h1;have d0:decide (16384<(s.length:Int))=false:=Ye Zo;rw[e];simp(disch:=try exact Zq)only[go_sem,d0,zw6];refine AXs.loop mixed (zg zfQ zh) (zf) (ι:=Nat×Nat×List ZL) (fun i=>[(14,.ptr 0 0),(2,slL i.2.2),(0,.str s)]) (fun i=>slB s i.2.1 i.2.2) (fun i=>i.2.1≤s.length∧s.length≤i.2.1+i.1∧i.2.2.length≤i.2.1∧zbM s i.1 i.2.1=zbM s s.length 0) (fun i=>i.1) (s.length,0,[]) Zk ⟨Yk _,by show s.length≤0+s.length;omega,Yk _,rfl⟩ (Xa [] rfl rfl ?_ ?_) ?_
 ·show subE _ _ _ [(14,.ptr 0 0),(2,.nilS),(0,.str s)];simp only[go_sem]
 ·show subH _ _ _ [(0,.si s 0)];simp only[go_sem]
 rintro⟨k,pos,l⟩ ⟨g1,g2,g3,g4⟩;dsimp only at g1 g2 g3 g4;have g5:=g3;cases l with
 |nil=>
  dsimp only[slL,slB];by_cases hp:pos<s.length
  ·obtain⟨w1,w2⟩:=znD s pos hp;obtain⟨k,rfl⟩:∃k',k=k'+1:=⟨k-1,Zo⟩;have hdg:dg8 (s.drop pos)=dec8 s pos:=zrV s pos hp;have hst:zbM s (k+1) pos=if okP (dec8 s pos)=false then 3 else zbM s k (pos+(dec8 s pos).2):=by rw[zbM,Yi hp]
   rw[g4]at hst;have eP:(pos:Int)+((dec8 s pos).2:Nat)=((pos+(dec8 s pos).2:Nat):Int):=Zo;cases hok:okP (dec8 s pos)with
   |false=>
    have d65:decide (((dec8 s pos).1:Int)=65533)=true:=by unfold okP at hok;rw[YbK]at hok;simpa using hok.1
    rw[Yi hok]at hst;simp(disch:=try exact Zq)only[go_sem,hp,zfR,Ym,hdg,hok,d65];refine⟨Zo,?_⟩;rw[hst]
   |true=>
    rw[Yh (by rw[hok];decide)]at hst;simp(disch:=try exact Zq)only[go_sem,hp,zfR,Ym,hdg,hok,eP];refine⟨Zo,Zo,zi (k,pos+(dec8 s pos).2,[(s.take (pos+(dec8 s pos).2)).drop pos]) ⟨by show pos+_≤_;omega,by show s.length≤pos+_+k;omega,by simp at g3 ⊢;omega,hst.symm⟩ (by show k<k+1;omega) (Xa [(1,2)] rfl rfl ?_ ?_)⟩
    ·show subE _ _ _ [(14,.ptr 0 0),(2,slL ([(s.take (pos+(dec8 s pos).2)).drop pos])),(0,.str s)];dsimp only[slL];simp only[go_sem,Yn,Yd,YY,YZ]
    dsimp only;simp only[go_sem];rfl
  have hz:=zjk s k pos hp;rw[g4]at hz;simp(disch:=try exact Zq)only[go_sem,hp];refine AXa.go mixed (zg zfQ zh) (zf) Zk ?_;rw[hz];simp(disch:=try exact Zq)only[go_sem]
 |cons x l=>
  rw[Yn]at g5;dsimp only[slL,slB];by_cases hp:pos<s.length
  ·obtain⟨w1,w2⟩:=znD s pos hp;obtain⟨k,rfl⟩:∃k',k=k'+1:=⟨k-1,Zo⟩;have hdg:dg8 (s.drop pos)=dec8 s pos:=zrV s pos hp;have hst:zbM s (k+1) pos=if okP (dec8 s pos)=false then 3 else zbM s k (pos+(dec8 s pos).2):=by rw[zbM,Yi hp]
   rw[g4]at hst;have eP:(pos:Int)+((dec8 s pos).2:Nat)=((pos+(dec8 s pos).2:Nat):Int):=Zo;cases hok:okP (dec8 s pos)with
   |false=>
    have d65:decide (((dec8 s pos).1:Int)=65533)=true:=by unfold okP at hok;rw[YbK]at hok;simpa using hok.1
    rw[Yi hok]at hst;simp(disch:=try exact Zq)only[go_sem,hp,zfR,Ym,hdg,hok,d65];refine⟨Zo,?_⟩;rw[hst]
   |true=>
    rw[Yh (by rw[hok];decide)]at hst;simp(disch:=try exact Zq)only[go_sem,hp,zfR,Ym,hdg,hok,eP];refine⟨Zo,Zo,Zo,zi (k,pos+(dec8 s pos).2,x::(l++[(s.take (pos+(dec8 s pos).2)).drop pos])) ⟨by show pos+_≤_;omega,by show s.length≤pos+_+k;omega,by simp at g3 ⊢;omega,hst.symm⟩ (by show k<k+1;omega) (Xa [(1,3)] rfl rfl ?_ ?_)⟩
    ·show subE _ _ _ [(14,.ptr 0 0),(2,slL (x::(l++[(s.take (pos+(dec8 s pos).2)).drop pos]))),(0,.str s)];dsimp only[slL];simp only[go_sem,Yn,Yd,YY,YZ]
    dsimp only;simp only[go_sem]
  have hz:=zjk s k pos hp;rw[g4]at hz;simp(disch:=try exact Zq)only[go_sem,hp];refine AXa.go mixed (zg zfQ zh) (zf) Zk ?_;rw[hz];simp(disch:=try exact Zq)only[go_sem]
end Go.Proofs

namespace Go.Ab
open Go.Cnt
variable {P:Program}{C:Cfg}{env:Env}{H:Hp}
def zot:=@zax
def muK(fl:Bool)(o:Option Blk)(b:Nat)(x y:Str)(v:V)(H:Hp)(orig:Option XR):Option XR:=
 match fl,o with
 |true,some (.mp es clock)=>(match ze8 (.agg [.str x,.str y]) es 0 with
  |some (some p)=>some ⟨undefV,H.put b (.mp (updE p.1 (.agg [.str x,.str y]) v es) clock),[b],[b]⟩
  |some none=>some ⟨undefV,H.put b (.mp (es++[(clock,.agg [.str x,.str y],v)]) (clock+1)),[b],[b]⟩
  |none=>orig)
 |_,_=>orig
def zhp(t:TypeId)(x k v:Operand):step1 C P env (.mapUpdate t x k v) H=mkSR false ((ev env x).cond∧(ev env k).cond∧(ev env v).cond) (XR.ar H (zax P t (ev env x).val (ev env k).val (ev env v).val H)) H:=zaa rfl (by simp[Op.operands,needs]) rfl
abbrev Ens:=List (Str×Int)
def valS:Ens→Str→Int
 |[],_=>0
 |e::l,k=>if e.1=k then e.2 else valS l k
def hasS:Ens→Str→Bool
 |[],_=>false
 |e::l,k=>if e.1=k then true else hasS l k
def posS:Ens→Str→Nat
 |[],_=>0
 |e::l,k=>if e.1=k then 0 else posS l k+1
def stoS:Ens→Str→Int→Ens
 |[],k,n=>[(k,n)]
 |e::l,k,n=>if e.1=k then(e.1,n)::l else e::stoS l k n
def zqT:∀ {l:Ens} {k:Str},hasS l k=false→valS l k=0
 |[],_,_=>rfl
 |e::l,k,h=>by
  rw[hasS]at h;by_cases hk:e.1=k
  ·rw[Yi hk]at h;cases h
  rw[Yh hk]at h;rw[valS,Yh hk,zqT h]
def zkj(k:Str)(n:Int):∀l:Ens,hasS l k=false→stoS l k n=l++[(k,n)]
 |[],_=>rfl
 |e::l,h=>by
  rw[hasS]at h;by_cases hk:e.1=k
  ·rw[Yi hk]at h;cases h
  rw[Yh hk]at h;rw[stoS,Yh hk,zkj k n l h];rfl
def zd6(k:Str)(n:Int):∀l:Ens,hasS l k=true→(stoS l k n).length=l.length
 |[],h=>by cases h
 |e::l,h=>by
  rw[hasS]at h;by_cases hk:e.1=k
  ·rw[stoS,Yi hk];rfl
  rw[Yh hk]at h;rw[stoS,Yh hk,Yn,zd6 k n l h];rfl
def zkc:∀(l:Ens)(k j:Str)(n:Int),valS (stoS l k n) j=if k=j then n else valS l j
 |[],k,j,n=>by simp[stoS,valS]
 |e::l,k,j,n=>by
  rw[stoS];by_cases hk:e.1=k
  ·rw[Yi hk,valS,valS];by_cases hj:k=j
   ·rw[Yi hj,Yi (hk.trans hj)]
   rw[Yh hj,Yh (fun h=>hj (hk.symm.trans h)),Yh (fun h=>hj (hk.symm.trans h))]
  rw[Yh hk,valS,valS,zkc l k j n];by_cases hj:k=j
  ·subst hj;simp[hk]
  simp[hj]
def mpS:Nat→Ens→List (Nat×V×V)
 |_,[]=>[]
 |i,e::l=>(i,.str e.1,.int .i64 e.2)::mpS (i+1) l
def zyh:∀(i:Nat)(l:Ens),(mpS i l).length=l.length
 |_,[]=>rfl
 |i,e::l=>by rw[mpS,Yn,zyh];rfl
def zjx:∀(i:Nat)(l r:Ens),mpS i (l++r)=mpS i l++mpS (i+l.length) r
 |_,[],_=>rfl
 |i,e::l,r=>by rw[Ya4,mpS,zjx,mpS,Yn,show i+(l.length+1)=i+1+l.length by omega];rfl
def keyEq_s(a c:Str):zyt (.str a) (.str c)=some (decide (c=a)):=by
 show some (a==c)=_;by_cases h:a=c
 ·subst h;simp
 have h':¬c=a:=fun e=>h e.symm;have e:(a==c)=false:=by simp[h]
 rw[e];simp[h']
def zid(a:Str):∀(i:Nat)(l:Ens)(j:Nat),ze8 (.str a) (mpS i l) j=some (match hasS l a with|true=>some (j+posS l a,.int .i64 (valS l a))|false=>none)
 |i,[],j=>rfl
 |i,e::l,j=>by
  rw[mpS,ze8,keyEq_s,hasS,posS,valS];by_cases h:e.1=a
  ·rw[Yi h,Yi h,Yi h,Yf h];rfl
  rw[Yh h,Yh h,Yh h,Ye h];show ze8 _ _ _=_;rw[zid a (i+1) l (j+1),show j+1+posS l a=j+(posS l a+1)by omega]
def ztT(P:Program)(t:TypeId):Bool:=
 match mapT P t with
 |some (kt,et)=>keyT P kt (.str [])&&(match zaJ P et with|some (.int .i64 0)=>true|_=>false)
 |none=>false
def zrt {t:TypeId}(h:ztT P t=true)(a:Str):∃kt et,mapT P t=some (kt,et)∧keyT P kt (.str a)=true∧zaJ P et=some (.int .i64 0):=by
 unfold ztT at h;split at h
 ·rename_i kt et hm;simp only[Yg]at h;refine⟨kt,et,hm,?_,?_⟩
  ·have:=h.1;unfold keyT zej at this ⊢;simp only at this ⊢;split at this
   ·rename_i h2;simp_all
   ·rename_i h2;simp_all
   ·simp_all
   cases this
  have:=h.2;split at this
  ·assumption
  cases this
 cases h
def luS(fl:Bool)(o:Option Blk)(b:Nat)(x:Str)(H:Hp)(orig:Option XR):Option XR:=
 match fl,o with
 |true,some (.mp es _)=>(match ze8 (.str x) es 0 with|some (some p)=>some ⟨p.2,H,[b],[]⟩|some none=>some ⟨.int .i64 0,H,[b],[]⟩|none=>orig)
 |_,_=>orig
def ztt(t:TypeId)(b:Nat)(x:Str)(bs:ZH)(n:Nat):zbb P t (.map b) (.str x) false ⟨bs,n⟩=luS (ztT P t) (zL bs b) b x ⟨bs,n⟩ (xLookup0 P t (.map b) (.str x) false ⟨bs,n⟩):=by
 unfold luS;split
 ·rename_i es c hf ho;obtain⟨kt,et,h1,h2,h3⟩:=zrt hf x;have hg:(⟨bs,n⟩:Hp).get b=some (.mp es c):=(zF bs b).trans ho;split
  ·rename_i p hp;unfold zbb;simp only[h1,h2,h3,hg,hp];rfl
  ·rename_i hp;unfold zbb;simp only[h1,h2,h3,hg,hp];rfl
  rfl
 rfl
def luS_mp(l:Ens)(c b:Nat)(x:Str)(orig:Option XR):luS true (some (.mp (mpS 0 l) c)) b x H orig=some ⟨.int .i64 (valS l x),H,[b],[]⟩:=by
 unfold luS;simp only[zid];cases h:hasS l x with
 |true=>simp
 |false=>simp[zqT h]
def zqV(k:Str)(n:Int):∀(i:Nat)(l:Ens),hasS l k=true→updE (posS l k) (.str k) (.int .i64 n) (mpS i l)=mpS i (stoS l k n)
 |i,[],h=>by cases h
 |i,e::l,h=>by
  rw[hasS]at h;rw[mpS,posS,stoS];by_cases hk:e.1=k
  ·rw[Yi hk,Yi hk,updE,mpS,hk]
  rw[Yh hk]at h;rw[Yh hk,Yh hk,updE,mpS,zqV k n (i+1) l h]
def muS(fl:Bool)(o:Option Blk)(b:Nat)(x:Str)(v:V)(H:Hp)(orig:Option XR):Option XR:=
 match fl,o with
 |true,some (.mp es clock)=>(match ze8 (.str x) es 0 with
  |some (some p)=>some ⟨undefV,H.put b (.mp (updE p.1 (.str x) v es) clock),[b],[b]⟩
  |some none=>some ⟨undefV,H.put b (.mp (es++[(clock,.str x,v)]) (clock+1)),[b],[b]⟩
  |none=>orig)
 |_,_=>orig
def zkG(t:TypeId)(b:Nat)(x:Str)(v:V)(bs:ZH)(n:Nat):zax P t (.map b) (.str x) v ⟨bs,n⟩=muS (ztT P t) (zL bs b) b x v ⟨bs,n⟩ (zot P t (.map b) (.str x) v ⟨bs,n⟩):=by
 unfold muS;split
 ·rename_i es c hf ho;obtain⟨kt,et,h1,h2,h3⟩:=zrt hf x;have hg:(⟨bs,n⟩:Hp).get b=some (.mp es c):=(zF bs b).trans ho;split
  ·rename_i p hp;unfold zax;simp only[h1,h2,hg,hp]
  ·rename_i hp;unfold zax;simp only[h1,h2,hg,hp]
  rfl
 rfl
def muS_mp(l:Ens)(b:Nat)(x:Str)(n:Int)(orig:Option XR):muS true (some (.mp (mpS 0 l) l.length)) b x (.int .i64 n) H orig=some ⟨undefV,H.put b (.mp (mpS 0 (stoS l x n)) (stoS l x n).length),[b],[b]⟩:=by
 unfold muS;simp only[zid];cases h:hasS l x with
 |true=>simp only[Yan];rw[zqV x n 0 l h,zd6 x n l h]
 |false=>rw[zkj x n l h,zjx];simp[mpS]
attribute [go_sem] zhp ztt luS_mp zkG muS_mp zyh
end Go.Ab

namespace Go.Proofs
open Go.Ab Go.Cnt
def all_t {p:Ent→Bool}:∀ {l:List Ent},(∀i,i<l.length→p (nthE l i)=true)→l.all p=true
 |[],_=>rfl
 |e::l,h=>by rw[Ybs,all_t (l:=l) fun i hi=>h (i+1) (by simpa using hi)];have:=h 0 Zs;simpa[nthE]using this
def nthE_mem {l:List Ent}{i:Nat}(h:i<l.length):nthE l i∈l:=by unfold nthE;rw[Ya,Yb h];exact Y6 h
def all_f {p:Ent→Bool}{l:List Ent}{i:Nat}(hi:i<l.length)(h:p (nthE l i)=false):l.all p=false:=by
 cases e:l.all p with
 |false=>rfl
 |true=>rw[Yo.1 e _ (nthE_mem hi)]at h;cases h
end Go.Proofs

namespace Go.Cnt
def insS:List Str→Str→List Str
 |[],s=>[s]
 |x::l,s=>if Op.bytesLess x s=true then x::insS l s else if x=s then x::l else s::x::l
def IncS(l:List Str):Prop:=l.Pairwise fun a b=>Op.bytesLess a b=true
def mem_insS:∀ {l:List Str} {s y:Str},y∈insS l s↔y=s∨y∈l
 |[],s,y=>by simp[insS]
 |x::l,s,y=>by
  rw[insS];split
  ·rw[Yy,mem_insS (l:=l),Yy];constructor
   ·rintro(h|h|h)
    ·exact .inr (.inl h)
    ·exact .inl h
    exact .inr (.inr h)
   rintro(h|h|h)
   ·exact .inr (.inl h)
   ·exact .inl h
   exact .inr (.inr h)
  split
  ·rename_i h;subst h;constructor
   ·exact .inr
   rintro(rfl|h)
   ·exact YA ..
   exact h
  rw[Yy]
def zlp:∀ {l:List Str} (_:IncS l) (s:Str),IncS (insS l s)
 |[],_,s=>by simp[insS,IncS]
 |x::l,h,s=>by
  have h':=List.pairwise_cons.1 h;rw[insS];split
  ·rename_i hx;refine List.pairwise_cons.2 ⟨fun y hy=>?_,zlp h'.2 s⟩;rcases mem_insS.1 hy with rfl|hy
   ·exact hx
   exact h'.1 y hy
  rename_i hx;split
  ·exact h
  rename_i hne;have hs:Op.bytesLess s x=true:=by
   rcases zn7 x s with k|k|k
   ·exact absurd k hx
   ·exact absurd k hne
   exact k
  refine List.pairwise_cons.2 ⟨fun y hy=>?_,h⟩;rcases Yy.1 hy with rfl|hy
  ·exact hs
  exact zfS hs (h'.1 y hy)
def zsp {a b:Str}(h:Op.bytesLess a b=true):Op.bytesLess b a=false:=by
 cases e:Op.bytesLess b a with
 |false=>rfl
 |true=>have:=zfS h e;rw[zcQ]at this;cases this
def IncS.ext:∀ {l r:List Str},IncS l→IncS r→(∀y,y∈l↔y∈r)→l=r
 |[],[],_,_,_=>rfl
 |[],b::r,_,_,h=>absurd ((h b).2 (YA ..)) Zs
 |a::l,[],_,_,h=>absurd ((h a).1 (YA ..)) Zs
 |a::l,b::r,hl,hr,h=>by
  have hl':=List.pairwise_cons.1 hl;have hr':=List.pairwise_cons.1 hr;have hab:a=b:=by
   rcases Yy.1 ((h a).1 (YA ..))with k|k
   ·exact k
   rcases Yy.1 ((h b).2 (YA ..))with m|m
   ·exact m.symm
   have:=zsp (hr'.1 a k);rw[hl'.1 b m]at this;cases this
  subst hab;have:l=r:=IncS.ext hl'.2 hr'.2 fun y=>by
   have hy:=h y;rw[Yy,Yy]at hy;constructor
   ·intro k;rcases hy.1 (.inr k)with rfl|m
    ·have:=hl'.1 y k;rw[zcQ]at this;cases this
    exact m
   intro k;rcases hy.2 (.inr k)with rfl|m
   ·have:=hr'.1 y k;rw[zcQ]at this;cases this
   exact m
  rw[this]
def zlo(l:List Str)(s:Str):(insS l s).length≤l.length+1:=by
 induction l with
 |nil=>simp[insS]
 |cons x l ih=>
  rw[insS];split;·simp;omega
  split<;>simp
def zkL(l:List Str)(s:Str)(p:Nat):Prop:=p≤l.length∧(∀j,j<p→Op.bytesLess (l.getD j []) s=true)∧(p<l.length→Op.bytesLess (l.getD p []) s=false)
def zpH:∀(l:List Str)(s:Str)(p:Nat),zkL l s p→(p<l.length∧l.getD p []=s→insS l s=l)∧(¬(p<l.length∧l.getD p []=s)→insS l s=l.take p++s::l.drop p)
 |[],s,p,h=>by
  have hp:p=0:=by have:=h.1;simpa using this
  subst hp;simp[insS]
 |x::l,s,0,h=>by
  have h0:Op.bytesLess x s=false:=h.2.2 Zs;rw[insS,h0];simp only[YS,if_false,Ycs,Yn,YbE,Y1,YaK];constructor
  ·rintro⟨_,he⟩;rw[Yi he]
  intro hn;rw[Yh fun he=>hn ⟨Zs,he⟩]
 |x::l,s,p+1,h=>by
  have h0:Op.bytesLess x s=true:=h.2.1 0 Zo;obtain⟨k1,k2⟩:=zpH l s p ⟨by have:=h.1;simpa using this,fun j hj=>by have:=h.2.1 (j+1) Zo;rwa [List.getD_cons_succ]at this,fun hl=>by have:=h.2.2 (by simpa using hl);rwa [List.getD_cons_succ]at this⟩;rw[insS,h0];simp only[if_true,List.getD_cons_succ,Yn,Ycb,Ycr,Ya4];constructor
  ·rintro⟨a,b⟩;rw[k1 ⟨Zo,b⟩]
  intro hn;rw[k2 fun⟨a,b⟩=>hn ⟨Zo,b⟩]
end Go.Cnt

namespace Go.Proofs
open Go.Ab Go.Cnt
def zno {l:List Str}{i:Nat}(h:i<l.length):l.getD i []∈l:=by rw[Ya,Yb h];exact Y6 h
def zkx(l:List Str)(n:Nat)(x:Str):(strs l).set n (.str x)=strs (l.set n x):=by simp[strs,List.map_set]
def zen:∀(l:List Str)(i:Nat),i<l.length→l.drop i=l.getD i []::l.drop (i+1)
 |[],_,h=>by simp at h
 |x::l,0,_=>rfl
 |x::l,i+1,h=>by have:=zen l i (by simpa using h);simpa using this
section
variable {C:Cfg}{P:Program}{K:Out→St→Prop}{st:List Fr}{ops:Array Oper}{os:List Oper}{env:Env}{h:Hp}
def zA0(d:Tmp):AXg1 C P K st ops os (some d) (some false) .bad env h=AXr C P K st ops os ((d,undefV)::env) h:=zsx d .bad
def zAX(i:Nat)(d:Tmp)(acc:List (Nat×Foot)):AXg2 C P K st ops os i (some d) (some false) .bad acc env h=AXd C P K st ops os (i+1) acc ((d,undefV)::env) h:=by show (false=false∧_)=_;simp only[Yaf];rfl
theorem zp3(nd:Prop):callM none nd h=.bad:=rfl
theorem ztA:zea .any=[]:=rfl
def nthV_end(l:List Str):nthV (strs l) l.length=.any:=by rw[zbt];simp[strs]
end
attribute [go_sem] zA0 zAX zp3 ztA nthV_end
def ztS {l:List Str}(hl:IncS l){s:Str}{p:Nat}(h:zkL l s p):s∈l↔p<l.length∧l.getD p []=s:=by
 constructor
 ·intro hm;obtain⟨i,hi,rfl⟩:=Yaw.1 hm;have hg:l.getD i []=l[i]:=by rw[Ya,Yb hi];rfl
  rcases Ybb i p with h1|h1|h1
  ·have:=h.2.1 i h1;rw[hg,zcQ]at this;cases this
  ·subst h1;exact⟨hi,hg⟩
  have hp:p<l.length:=Zo;have a:=List.pairwise_iff_getElem.1 hl p i hp hi h1;have b:=h.2.2 hp;rw[Ya,Yb hp]at b;simp only[YbP]at b;rw[a]at b;cases b
 rintro⟨h1,rfl⟩;exact zno h1
def slArgs(b n:Nat)(k:Option Nat)(s:Str):LRel (Rn (fun i=>[b].getD i 0) (· <1)) [V.sl 0 0 n 1 k,.str s] [.sl b 0 n 1 k,.str s]:=by
 refine⟨rfl,fun i y z hy hz=>?_⟩;match i with
 |0=>cases hy;cases hz;exact .sl (π:=fun i=>[b].getD i 0) (b:=0) (YaH.2 rfl) (.inr rfl)
 |1=>cases hy;cases hz;exact .same (.str _)
 |i+2=>simp at hy
end Go.Proofs

namespace Go.Proofs
open Tryz Go.Ab Go.Pl Go.Cnt
def cSplit:ZV:=zC (fun s:ZL=>[.str s]) (fun s=>s.length≤1000000000) fun s=>.ret (.tup [.any,.any,.int .i64 (zd8 s)])
def zzP(s:ZL)(h:s.length≤1000000000):cSplit [.str s]=some (.ret (.tup [.any,.any,.int .i64 (zd8 s)])):=zo (pat:=fun s:ZL=>[V.str s]) (fun x y h=>by simpa using h) s h
def zzO:ZC cSplit 79:=zn fun s h=>split_ok s h
def symN(s:ZL):Bool:= !decide (s=[])&&decide (s.length≤40)&&decide (zd8 s=0)
def zs3(s:ZL)(h:s.length≤1000000000):PCall prog 57 [.str s] (.ret (.bool (symN s))):=by
 refine Xc (rs:=[.tmp 2]) [0,2,5,12] [] mixed (zg zzO zh) (zf) call57 func57 rfl ntmps57 rfl ?_;unfold symN;by_cases h1:s=[]
 ·have d1:decide (s=[])=true:=Yf h1;rw[d1];simp(disch:=try exact Zq)only[go_sem,d1]
 have d1:decide (s=[])=false:=Ye h1;rw[d1];by_cases h2:s.length≤40
 ·have d2:decide (40<(s.length:Int))=false:=Ye Zo;rw[Yf h2];simp(disch:=try exact Zq)only[go_sem,d1,d2,zzP]
 have d2:decide (40<(s.length:Int))=true:=Yf Zo;rw[Ye h2];simp(disch:=try exact Zq)only[go_sem,d1,d2]
def cSymN:ZV:=zC (fun s:ZL=>[.str s]) (fun s=>s.length≤1000000000) fun s=>.ret (.bool (symN s))
def zr6(s:ZL)(h:s.length≤1000000000):cSymN [.str s]=some (.ret (.bool (symN s))):=zo (pat:=fun s:ZL=>[V.str s]) (fun x y h=>by simpa using h) s h
def zlG:ZC cSymN 57:=zn fun s h=>zs3 s h
def zBg {p:ZL→Bool}{l:List ZL}(h:∀j,j<l.length→p (l.getD j [])=true):l.all p=true:=by rw[Yo];intro x hx;obtain⟨j,hj,rfl⟩:=Yaw.1 hx;have:=h j hj;simpa[hj]using this
def zBh {p:ZL→Bool}{l:List ZL}{i:Nat}(hi:i<l.length)(h:p (l.getD i [])=false):l.all p=false:=by
 rw[List.all_eq_false];refine⟨l[i],Y6 hi,?_⟩;have:l.getD i []=l[i]:=by simp[hi]
 rw[this]at h;simp[h]
def allYN_ok(l:List ZL)(hl:l.length≤1000000000)(hs:∀j,(l.getD j []).length≤1000000000):PCall prog 56 [.fs (strs l) l.length,.fn 57 []] (.ret (.bool (l.all symN))):=by
 refine Xc (rs:=[.tmp 4]) [0,1,4,6,7,8,9,10,16] [] mixed (zg zlG zh) (zf) call56 func56 rfl ntmps56 rfl ?_;simp(disch:=try exact Zq)only[go_sem];refine AXs.loop mixed (zg zlG zh) (zf) (ι:=Nat) (fun i=>[(9,.int .i64 i),(8,.int .i64 l.length),(7,.fs (strs l) l.length),(1,.fn 57 [])]) (fun _=>⟨[],0⟩) (fun i=>i≤l.length∧∀j,j<i→symN (l.getD j [])=true) (fun i=>l.length-i) 0 Zk ⟨Yk _,fun j hj=>Zo⟩ (Xa [] rfl rfl ?_ ?_) ?_
 ·simp only[go_sem]
 ·simp only[go_sem]
 rintro i ⟨h1,h2⟩;simp(disch:=try exact Zq)only[go_sem];refine Xb (fun hc=>?_) (fun hc=>?_)
 ·have hi:i<l.length:=Zo;have hsi:=hs i;have ei:(i:Int)+1=((i+1:Nat):Int):=Zo;cases hn:symN (l.getD i [])with
  |true=>
   simp(disch:=try exact Zq)only[go_sem,zr6,hn,ei];refine⟨Zo,Zo,zi (i+1) ⟨hi,fun j hj=>?_⟩ Zo (Xa [] rfl rfl Zg Zg)⟩;rcases YaX j i with h|h
   ·exact h2 j h
   rw[show j=i by omega];exact hn
  |false=>have:=zBh hi hn;simp(disch:=try exact Zq)only[go_sem,zr6,hn,this];exact⟨Zo,Zo⟩
 obtain rfl:i=l.length:=Zo;have:=zBg h2;simp(disch:=try exact Zq)only[go_sem];refine AXa.go mixed (zg zlG zh) (zf) Zk ?_;simp(disch:=try exact Zq)only[go_sem,this]
def cAllYN:ZV:=zC (fun l:List ZL=>[.fs (strs l) l.length,.fn 57 []]) (fun l=>l.length≤1000000000∧∀j,(l.getD j []).length≤1000000000) fun l=>.ret (.bool (l.all symN))
def ziw(l:List ZL)(hl:l.length≤1000000000)(hs:∀j,(l.getD j []).length≤1000000000):cAllYN [.fs (strs l) l.length,.fn 57 []]=some (.ret (.bool (l.all symN))):=
 zo (pat:=fun l:List ZL=>[V.fs (strs l) l.length,.fn 57 []]) (fun x y h=>by simp at h;exact za1 h.1) l ⟨hl,hs⟩
def zAB:ZC cAllYN 56:=zn fun l h=>allYN_ok l h.1 h.2
def mapS1_t:ztT prog 50=true:=Zk
attribute [local go_sem] mapS1_t
def symT(l:List ZL)(i:Nat):Ens:=((l.take i).zipIdx 1).foldl (fun m p=>stoS m p.1 (p.2:Nat)) []
def zhn(l:List ZL)(i:Nat)(h:i<l.length):symT l (i+1)=stoS (symT l i) (l.getD i []) ((i+1:Nat):Int):=by
 unfold symT;rw[YaG,Yb h,List.zipIdx_append,List.foldl_append];have:(l.take i).length=i:=by simp;omega
 rw[this];simp[h,Nat.add_comm]
def makeR(x:Int)(H:Hp):zbz prog 50 (.int .i64 x) H=some ⟨.map H.next,H.new (.mp (mpS 0 []) 0),[],[]⟩:=by have h:mapT prog 50=some (9,3):=Zk;unfold zbz;rw[h];rfl
def zhB {π:Nat→Nat}{N:Nat→Prop}(l:Ens)(c:Nat):RnB π N (.mp (mpS 0 l) c) (.mp (mpS 0 l) c)↔True:=by
 refine⟨fun _=>trivial,fun _=>?_⟩;have hpu:∀(i:Nat)(l:Ens),(∀x∈(mpS i l).map (·.2.1),Ab.Pure x)∧∀x∈(mpS i l).map (·.2.2),Ab.Pure x:=by
  intro i l;induction l generalizing i with
  |nil=>exact⟨fun x h=>(nomatch h),fun x h=>(nomatch h)⟩
  |cons e l ih=>
   refine⟨fun x h=>?_,fun x h=>?_⟩
   ·rw[mpS,YN]at h;rcases Yy.1 h with rfl|h
    ·exact .str _
    exact(ih (i+1)).1 x h
   rw[mpS,YN]at h;rcases Yy.1 h with rfl|h
   ·exact .int _ _
   exact(ih (i+1)).2 x h
 exact .mp rfl (zA (hpu 0 l).1) (zA (hpu 0 l).2)
attribute [local go_sem] zhB
def zxF(l:List ZL)(hl:l.length≤1000000000):NCall prog 58 [.fs (strs l) l.length] [] [] (.map 0) ⟨[(0,.mp (mpS 0 (symT l l.length)) (symT l l.length).length)],1⟩:=by
 refine NCall.walk (rs:=[.tmp 2]) [0,2,3,4,5,9,10,11,12] [] 0 mixed (zh) (zf) call58 func58 rfl ntmps58 rfl Zk Zs Zs Zs ?_;simp(disch:=try exact Zq)only[go_sem,makeR];refine AXs.loop mixed (zh) (zf) (ι:=Nat) (fun i=>[(11,.int .i64 i),(10,.int .i64 l.length),(9,.fs (strs l) l.length),(3,.map 0)]) (fun i=>⟨[(0,.mp (mpS 0 (symT l i)) (symT l i).length)],1⟩) (fun i=>i≤l.length) (fun i=>l.length-i) 0 Zk (Yk _) (Sub.of [] rfl ?_ ?_ Zd (fun b hb hw=>absurd hb (Ybf b))) ?_
 ·simp only[go_sem]
 ·show subH _ _ _ [(0,.mp (mpS 0 []) 0)];simp only[go_sem]
 intro i h1;simp(disch:=try exact Zq)only[go_sem];refine Xb (fun hc=>?_) (fun hc=>?_)
 ·have hi:i<l.length:=Zo;have ei:(i:Int)+1=((i+1:Nat):Int):=Zo;have hsu:=zhn l i hi;simp(disch:=try exact Zq)only[go_sem,ei];refine⟨Zo,Zo,zi (i+1) hi Zo (Sub.of [] rfl ?_ ?_ Zd (fun b hb hw=>absurd hb (Ybf b)))⟩
  ·simp only[go_sem]
  rw[hsu];simp only[go_sem]
 obtain rfl:i=l.length:=Zo;simp(disch:=try exact Zq)only[go_sem];refine AXa.go mixed (zh) (zf) Zk ?_;simp(disch:=try exact Zq)only[go_sem];exact⟨[(2,.map 0)],Sub.of [] rfl Zg Zg Zd (fun b hb hw=>absurd hb (Ybf b)),rfl⟩
def SymR(args:ZA)(H:Hp)(r:AR):Prop:=∃l:List ZL,args=[.fs (strs l) l.length]∧l.length≤1000000000∧(∀b x,H.get b=some x→b<H.next)∧r=⟨True,.map H.next,H.new (.mp (mpS 0 (symT l l.length)) (symT l l.length).length),[],[]⟩
def symR_ok:∀args H r,SymR args H r→HCall prog 58 args H r:=by
 rintro args H r ⟨l,rfl,hl,hk,rfl⟩;have tn:zu [] H.next H.next=0:=by unfold zu;rw[Yh Zo];simp
 refine HCall.of (zxF l hl) [] _ (.map H.next) H (H.new _) rfl Zs (zA fun x hx=>?_) (fun i x hx=>by simp at hx) ?_ (by show H.next+1+0=H.next+1;omega) (fun b' x' hx'=>?_) (fun b' hb' hw=>?_)
 ·rw[YW.1 hx];exact .fs (zaN l)
 ·have:=Rn.map (π:=zu [] H.next) (N:=fun b=>b∈[]∨(H.next≤b∧b<(H.new (.mp (mpS 0 (symT l l.length)) (symT l l.length).length)).next)) (b:=H.next) (.inr ⟨Yc _,Yz _⟩);rwa [tn]at this
 ·rw[Xd]at hx';split at hx'
  ·rename_i he;subst he;cases hx';refine .inr ⟨.inr ⟨Yc _,Yz _⟩,.mp (mpS 0 (symT l l.length)) (symT l l.length).length,?_,(zhB _ _).2 trivial⟩;rw[tn];rfl
  exact .inl ⟨hk b' _ hx',Zs,hx'⟩
 rw[Xd,Yh Zo]
def zoD(l:List ZL)(bs:ZH)(nx:Nat)(hl:l.length≤1000000000)(hk:((keysB bs).all fun b=>decide (b<nx))=true):conD SymR [.fs (strs l) l.length] ⟨bs,nx⟩=some ⟨True,.map nx,⟨(nx,.mp (mpS 0 (symT l l.length)) (symT l l.length).length)::bs,nx+1⟩,[],[]⟩:=by
 have hR:SymR [.fs (strs l) l.length] ⟨bs,nx⟩ ⟨True,.map nx,⟨(nx,.mp (mpS 0 (symT l l.length)) (symT l l.length).length)::bs,nx+1⟩,[],[]⟩:=⟨l,rfl,hl,zaX hk,rfl⟩;refine zat hR ?_;rintro r' ⟨l',e,_,_,rfl⟩;have:strs l=strs l':=by simp at e;exact e.1
 rw[za1 this];rfl
def zrJ:∀(l:Ens)(k:Str)(n:Int)(j:Str),hasS (stoS l k n) j=(decide (k=j)||hasS l j)
 |[],k,n,j=>by simp[stoS,hasS]
 |e::l,k,n,j=>by
  have ih:=zrJ l k n j;unfold stoS;by_cases h:e.1=k
  ·rw[Yi h];simp only[hasS];by_cases hj:k=j
   ·simp[h,hj]
   simp[h,hj]
  rw[Yh h];simp only[hasS,ih];by_cases hj:k=j
  ·simp[hj]
  by_cases he:e.1=j<;>simp[hj,he]
def zq4(l:List ZL)(j:ZL):∀i,i≤l.length→hasS (symT l i) j=decide (j∈l.take i)
 |0,_=>by simp[symT,hasS]
 |i+1,h=>by
  have ih:=zq4 l j i Zo;rw[zhn l i Zo,zrJ,ih,YaG,Yb (show i<l.length by omega)];have:l.getD i []=l[i]:=by simp[show i<l.length by omega]
  rw[this];by_cases h1:l[i]=j
  ·simp[h1]
  have h2:¬j=l[i]:=fun e=>h1 e.symm;rw[Ye h1,YaB];have e:(j∈l.take i++[l[i]])=(j∈l.take i):=by rw[Yar,YW];exact propext ⟨fun h=>h.resolve_right h2,.inl⟩
  exact(Ya2.2 (by rw[Option.toList_some,e])).symm
def zq3(l:List ZL):∀i,i≤l.length→(symT l i).length≤i∧((symT l i).length=i↔(l.take i).Nodup)
 |0,_=>by simp[symT]
 |i+1,h=>by
  obtain⟨h1,h2⟩:=zq3 l i Zo;have hh:=zq4 l (l.getD i []) i Zo;have hg:l.getD i []=l[i]:=by simp[show i<l.length by omega]
  have ht:l.take (i+1)=l.take i++[l[i]]:=by rw[YaG,Yb (show i<l.length by omega)];rfl
  rw[zhn l i Zo,ht,List.nodup_append];rw[hg]at hh ⊢;cases hc:hasS (symT l i) l[i]with
  |true=>
   rw[hc]at hh;have hm:l[i]∈l.take i:=by simpa using hh.symm
   rw[zd6 _ _ _ hc];refine⟨Zo,⟨fun e=>Zo,fun⟨_,_,h3⟩=>absurd rfl (h3 _ hm _ Zs)⟩⟩
  |false=>
   rw[hc]at hh;have hm:¬l[i]∈l.take i:=by simpa using hh.symm
   rw[zkj _ _ _ hc,Yd,YZ];refine⟨Zo,⟨fun e=>⟨h2.1 Zo,Zs,fun a ha b hb=>?_⟩,fun⟨h3,_,_⟩=>by rw[h2.2 h3]⟩⟩;rw[YW.1 hb];rintro rfl;exact hm ha
def zpp:mapSS prog 50=false:=Zk
theorem lmK_f(o:Option Blk)(b:Nat)(H:Hp)(orig:AR):lmK false o b H orig=orig:=rfl
def zqz(b:Nat)(es:List (Nat×V×V))(c:Nat)(bs:ZH)(n:Nat)(hb:zL bs b=some (.mp es c)):aLenM prog 50 (.map b) ⟨bs,n⟩=⟨True,.int .i64 es.length,⟨bs,n⟩,[b],[]⟩:=by have hu:prog.underlying 50=some (.map 9 3):=Zk;have hg:(⟨bs,n⟩:Hp).get b=some (.mp es c):=(zF bs b).trans hb;unfold aLenM aLen;rw[hu];simp only[hg]
def zl2(H:Hp):aLen prog 50 undefV.val H=.bad H:=by have hu:prog.underlying 50=some (.map 9 3):=Zk;unfold aLen;rw[hu];rfl
def tabB(t:List ZL):Bool:=decide (t.length≤500)&&t.all symN&&decide t.Nodup
def zv0(t:List ZL)(hl:t.length≤1000000000)(hs:∀j,(t.getD j []).length≤1000000000):PCall prog 21 [.fs (strs t) t.length] (.ret (.bool (tabB t))):=by
 have hnd:=(zq3 t t.length (Yc _)).2;rw[Ym]at hnd;have hd:decide (((symT t t.length).length:Int)=(t.length:Int))=decide t.Nodup:=by
  by_cases h:t.Nodup
  ·rw[Yf h];exact Yf (by have:=hnd.2 h;omega)
  rw[Ye h];exact Ye (fun e=>h (hnd.1 Zo))
 unfold tabB;refine Xc (rs:=[.tmp 2]) [0,2] [] mixed (zg zAB zh) (zJ (zV symR_ok) zf) call21 func21 rfl ntmps21 rfl ?_;by_cases h1:t.length≤500
 ·have d1:decide ((t.length:Int)≤500)=true:=Yf Zo;rw[Yf h1];cases h2:t.all symN with
  |true=>simp(disch:=try exact Zp)only[go_sem,d1,ziw,h2,zoD,hd,zpp,lmK_f,zqz,zl2]
  |false=>simp(disch:=try exact Zp)only[go_sem,d1,ziw,h2,zoD,hd,zpp,lmK_f,zqz,zl2]
 have d1:decide ((t.length:Int)≤500)=false:=Ye Zo;rw[Ye h1];simp(disch:=try exact Zp)only[go_sem,d1,ziw,zoD,hd,zpp,lmK_f,zqz,zl2]
def cSymV:ZV:=zC (fun t:List ZL=>[.fs (strs t) t.length]) (fun t=>t.length≤1000000000∧∀j,(t.getD j []).length≤1000000000) fun t=>.ret (.bool (tabB t))
def cSymV_eq(t:List ZL)(hl:t.length≤1000000000)(hs:∀j,(t.getD j []).length≤1000000000):cSymV [.fs (strs t) t.length]=some (.ret (.bool (tabB t))):=
 zo (pat:=fun t:List ZL=>[V.fs (strs t) t.length]) (fun x y h=>by simp at h;exact za1 h.1) t ⟨hl,hs⟩
def cSymV_ok:ZC cSymV 21:=zn fun t h=>zv0 t h.1 h.2
end Go.Proofs
