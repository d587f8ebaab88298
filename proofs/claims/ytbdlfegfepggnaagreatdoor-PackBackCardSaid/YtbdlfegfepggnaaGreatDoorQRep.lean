/- strings.Repeat of a zero, at most eight times. -/
import Derived.Test.YtbdlfegfepggnaaGreatDoorPlTenD
import Derived.Shelf.Strconv.Itoa3
import Derived.Shelf.LaysM
import Derived.Lib.ItoaMem
import Derived.WalkKit
import Derived.BigCall
import Derived.BigGuard
import Derived.Shelf.Unicode.DecodeAny
set_option linter.all false
set_option maxHeartbeats 16000000
set_option maxRecDepth 100000
noncomputable section
namespace Go.Proofs
open Tryz Go.Ab Go.Pl
def zev:zk prog 213:=ZF
def zew:zk prog 198:=ZF
def ipx(a c:UInt8)(l r:ZL):List.isPrefixOf [a] (List.append (c::l) r)=(a==c):=by show (a==c&&true)=_;rw[Yav]
def and1:Go.bits .and .u64 1 4294967295=1:=Zk
def and0:Go.bits .and .u64 0 4294967295=0:=Zk
def and_2:Go.bits .and .u64 2 4294967295=2:=Zk
def mul64_2:PCall prog 213 [.int .u64 1,.int .u64 2] (.ret (.tup [.int .u64 0,.int .u64 2])):=by refine Xa (rs:=[.tmp 4,.tmp 5]) [0,1,4,5,6,7,8,9,10,11,12,13] [] mixed (zh) (zg) zev func213 rfl ntmps213 rfl ?_;simp(disch:=try exact Zq)only[go_sem,and1,and0,and_2];kernel_rfl
def cM64_2:ZV:=zL (fun _:Unit=>[.int .u64 1,.int .u64 2]) (fun _=>True) (fun _=>.ret (.tup [.int .u64 0,.int .u64 2]))
def zxM:ZC cM64_2 213:=zn fun _ _=>mul64_2
def zxN:cM64_2 [.int .u64 1,.int .u64 2]=some (.ret (.tup [.int .u64 0,.int .u64 2])):=zo (pat:=fun _:Unit=>[V.int .u64 1,.int .u64 2]) (fun _ _ _=>rfl) () trivial
def mul_2:PCall prog 198 [.int .u64 1,.int .u64 2] (.ret (.tup [.int .u64 0,.int .u64 2])):=by refine Xa (rs:=[.tmp 4,.tmp 5]) [0,1,4,5,6,7,8,9] [] mixed (zf zxM zh) (zg) zew func198 rfl ntmps198 rfl ?_;simp(disch:=try exact Zq)only[go_sem,zxN]
def cM_2:ZV:=zL (fun _:Unit=>[.int .u64 1,.int .u64 2]) (fun _=>True) (fun _=>.ret (.tup [.int .u64 0,.int .u64 2]))
def cM_2_ok:ZC cM_2 198:=zn fun _ _=>mul_2
def cM_2_eq:cM_2 [.int .u64 1,.int .u64 2]=some (.ret (.tup [.int .u64 0,.int .u64 2])):=zo (pat:=fun _:Unit=>[V.int .u64 1,.int .u64 2]) (fun _ _ _=>rfl) () trivial
def rep_2:PCall prog 187 [.str [48],.int .i64 2] (.ret (.str (List.replicate 2 48))):=by refine Xa (rs:=[.tmp 4]) [0,1,4,5,6,7,8,9,10,11,12,14,18,34,40,42,43,49,58,67,76,85,96,104,113] [] mixed (zf cM_2_ok (zf zaN zh)) (zg) zdh func187 rfl ntmps187 rfl ?_;have hg:((([48]:ZL).getD 0 0).toNat:Int)=48:=rfl;have e1:((48:UInt8)==32)=false:=rfl;have e2:((48:UInt8)==45)=false:=rfl;have e3:((48:UInt8)==48)=true:=rfl;simp(disch:=try exact Zq)only[go_sem,cM_2_eq,hg,YaX,YaP,ipx,e1,e2,e3,Yaq,Yau,Yav];rfl
def and_3:Go.bits .and .u64 3 4294967295=3:=Zk
def mul64_3:PCall prog 213 [.int .u64 1,.int .u64 3] (.ret (.tup [.int .u64 0,.int .u64 3])):=by refine Xa (rs:=[.tmp 4,.tmp 5]) [0,1,4,5,6,7,8,9,10,11,12,13] [] mixed (zh) (zg) zev func213 rfl ntmps213 rfl ?_;simp(disch:=try exact Zq)only[go_sem,and1,and0,and_3];kernel_rfl
def cM64_3:ZV:=zL (fun _:Unit=>[.int .u64 1,.int .u64 3]) (fun _=>True) (fun _=>.ret (.tup [.int .u64 0,.int .u64 3]))
def zxK:ZC cM64_3 213:=zn fun _ _=>mul64_3
def zxL:cM64_3 [.int .u64 1,.int .u64 3]=some (.ret (.tup [.int .u64 0,.int .u64 3])):=zo (pat:=fun _:Unit=>[V.int .u64 1,.int .u64 3]) (fun _ _ _=>rfl) () trivial
def mul_3:PCall prog 198 [.int .u64 1,.int .u64 3] (.ret (.tup [.int .u64 0,.int .u64 3])):=by refine Xa (rs:=[.tmp 4,.tmp 5]) [0,1,4,5,6,7,8,9] [] mixed (zf zxK zh) (zg) zew func198 rfl ntmps198 rfl ?_;simp(disch:=try exact Zq)only[go_sem,zxL]
def cM_3:ZV:=zL (fun _:Unit=>[.int .u64 1,.int .u64 3]) (fun _=>True) (fun _=>.ret (.tup [.int .u64 0,.int .u64 3]))
def cM_3_ok:ZC cM_3 198:=zn fun _ _=>mul_3
def cM_3_eq:cM_3 [.int .u64 1,.int .u64 3]=some (.ret (.tup [.int .u64 0,.int .u64 3])):=zo (pat:=fun _:Unit=>[V.int .u64 1,.int .u64 3]) (fun _ _ _=>rfl) () trivial
def rep_3:PCall prog 187 [.str [48],.int .i64 3] (.ret (.str (List.replicate 3 48))):=by refine Xa (rs:=[.tmp 4]) [0,1,4,5,6,7,8,9,10,11,12,14,18,34,40,42,43,49,58,67,76,85,96,104,113] [] mixed (zf cM_3_ok (zf zaN zh)) (zg) zdh func187 rfl ntmps187 rfl ?_;have hg:((([48]:ZL).getD 0 0).toNat:Int)=48:=rfl;have e1:((48:UInt8)==32)=false:=rfl;have e2:((48:UInt8)==45)=false:=rfl;have e3:((48:UInt8)==48)=true:=rfl;simp(disch:=try exact Zq)only[go_sem,cM_3_eq,hg,YaX,YaP,ipx,e1,e2,e3,Yaq,Yau,Yav];rfl
def and_4:Go.bits .and .u64 4 4294967295=4:=Zk
def mul64_4:PCall prog 213 [.int .u64 1,.int .u64 4] (.ret (.tup [.int .u64 0,.int .u64 4])):=by refine Xa (rs:=[.tmp 4,.tmp 5]) [0,1,4,5,6,7,8,9,10,11,12,13] [] mixed (zh) (zg) zev func213 rfl ntmps213 rfl ?_;simp(disch:=try exact Zq)only[go_sem,and1,and0,and_4];kernel_rfl
def cM64_4:ZV:=zL (fun _:Unit=>[.int .u64 1,.int .u64 4]) (fun _=>True) (fun _=>.ret (.tup [.int .u64 0,.int .u64 4]))
def zxI:ZC cM64_4 213:=zn fun _ _=>mul64_4
def zxJ:cM64_4 [.int .u64 1,.int .u64 4]=some (.ret (.tup [.int .u64 0,.int .u64 4])):=zo (pat:=fun _:Unit=>[V.int .u64 1,.int .u64 4]) (fun _ _ _=>rfl) () trivial
def mul_4:PCall prog 198 [.int .u64 1,.int .u64 4] (.ret (.tup [.int .u64 0,.int .u64 4])):=by refine Xa (rs:=[.tmp 4,.tmp 5]) [0,1,4,5,6,7,8,9] [] mixed (zf zxI zh) (zg) zew func198 rfl ntmps198 rfl ?_;simp(disch:=try exact Zq)only[go_sem,zxJ]
def cM_4:ZV:=zL (fun _:Unit=>[.int .u64 1,.int .u64 4]) (fun _=>True) (fun _=>.ret (.tup [.int .u64 0,.int .u64 4]))
def cM_4_ok:ZC cM_4 198:=zn fun _ _=>mul_4
def cM_4_eq:cM_4 [.int .u64 1,.int .u64 4]=some (.ret (.tup [.int .u64 0,.int .u64 4])):=zo (pat:=fun _:Unit=>[V.int .u64 1,.int .u64 4]) (fun _ _ _=>rfl) () trivial
def rep_4:PCall prog 187 [.str [48],.int .i64 4] (.ret (.str (List.replicate 4 48))):=by refine Xa (rs:=[.tmp 4]) [0,1,4,5,6,7,8,9,10,11,12,14,18,34,40,42,43,49,58,67,76,85,96,104,113] [] mixed (zf cM_4_ok (zf zaN zh)) (zg) zdh func187 rfl ntmps187 rfl ?_;have hg:((([48]:ZL).getD 0 0).toNat:Int)=48:=rfl;have e1:((48:UInt8)==32)=false:=rfl;have e2:((48:UInt8)==45)=false:=rfl;have e3:((48:UInt8)==48)=true:=rfl;simp(disch:=try exact Zq)only[go_sem,cM_4_eq,hg,YaX,YaP,ipx,e1,e2,e3,Yaq,Yau,Yav];rfl
def and_5:Go.bits .and .u64 5 4294967295=5:=Zk
def mul64_5:PCall prog 213 [.int .u64 1,.int .u64 5] (.ret (.tup [.int .u64 0,.int .u64 5])):=by refine Xa (rs:=[.tmp 4,.tmp 5]) [0,1,4,5,6,7,8,9,10,11,12,13] [] mixed (zh) (zg) zev func213 rfl ntmps213 rfl ?_;simp(disch:=try exact Zq)only[go_sem,and1,and0,and_5];kernel_rfl
def cM64_5:ZV:=zL (fun _:Unit=>[.int .u64 1,.int .u64 5]) (fun _=>True) (fun _=>.ret (.tup [.int .u64 0,.int .u64 5]))
def zxG:ZC cM64_5 213:=zn fun _ _=>mul64_5
def zxH:cM64_5 [.int .u64 1,.int .u64 5]=some (.ret (.tup [.int .u64 0,.int .u64 5])):=zo (pat:=fun _:Unit=>[V.int .u64 1,.int .u64 5]) (fun _ _ _=>rfl) () trivial
def mul_5:PCall prog 198 [.int .u64 1,.int .u64 5] (.ret (.tup [.int .u64 0,.int .u64 5])):=by refine Xa (rs:=[.tmp 4,.tmp 5]) [0,1,4,5,6,7,8,9] [] mixed (zf zxG zh) (zg) zew func198 rfl ntmps198 rfl ?_;simp(disch:=try exact Zq)only[go_sem,zxH]
def cM_5:ZV:=zL (fun _:Unit=>[.int .u64 1,.int .u64 5]) (fun _=>True) (fun _=>.ret (.tup [.int .u64 0,.int .u64 5]))
def cM_5_ok:ZC cM_5 198:=zn fun _ _=>mul_5
def cM_5_eq:cM_5 [.int .u64 1,.int .u64 5]=some (.ret (.tup [.int .u64 0,.int .u64 5])):=zo (pat:=fun _:Unit=>[V.int .u64 1,.int .u64 5]) (fun _ _ _=>rfl) () trivial
def rep_5:PCall prog 187 [.str [48],.int .i64 5] (.ret (.str (List.replicate 5 48))):=by refine Xa (rs:=[.tmp 4]) [0,1,4,5,6,7,8,9,10,11,12,14,18,34,40,42,43,49,58,67,76,85,96,104,113] [] mixed (zf cM_5_ok (zf zaN zh)) (zg) zdh func187 rfl ntmps187 rfl ?_;have hg:((([48]:ZL).getD 0 0).toNat:Int)=48:=rfl;have e1:((48:UInt8)==32)=false:=rfl;have e2:((48:UInt8)==45)=false:=rfl;have e3:((48:UInt8)==48)=true:=rfl;simp(disch:=try exact Zq)only[go_sem,cM_5_eq,hg,YaX,YaP,ipx,e1,e2,e3,Yaq,Yau,Yav];rfl
def and_6:Go.bits .and .u64 6 4294967295=6:=Zk
def mul64_6:PCall prog 213 [.int .u64 1,.int .u64 6] (.ret (.tup [.int .u64 0,.int .u64 6])):=by refine Xa (rs:=[.tmp 4,.tmp 5]) [0,1,4,5,6,7,8,9,10,11,12,13] [] mixed (zh) (zg) zev func213 rfl ntmps213 rfl ?_;simp(disch:=try exact Zq)only[go_sem,and1,and0,and_6];kernel_rfl
def cM64_6:ZV:=zL (fun _:Unit=>[.int .u64 1,.int .u64 6]) (fun _=>True) (fun _=>.ret (.tup [.int .u64 0,.int .u64 6]))
def zxE:ZC cM64_6 213:=zn fun _ _=>mul64_6
def zxF:cM64_6 [.int .u64 1,.int .u64 6]=some (.ret (.tup [.int .u64 0,.int .u64 6])):=zo (pat:=fun _:Unit=>[V.int .u64 1,.int .u64 6]) (fun _ _ _=>rfl) () trivial
def mul_6:PCall prog 198 [.int .u64 1,.int .u64 6] (.ret (.tup [.int .u64 0,.int .u64 6])):=by refine Xa (rs:=[.tmp 4,.tmp 5]) [0,1,4,5,6,7,8,9] [] mixed (zf zxE zh) (zg) zew func198 rfl ntmps198 rfl ?_;simp(disch:=try exact Zq)only[go_sem,zxF]
def cM_6:ZV:=zL (fun _:Unit=>[.int .u64 1,.int .u64 6]) (fun _=>True) (fun _=>.ret (.tup [.int .u64 0,.int .u64 6]))
def cM_6_ok:ZC cM_6 198:=zn fun _ _=>mul_6
def cM_6_eq:cM_6 [.int .u64 1,.int .u64 6]=some (.ret (.tup [.int .u64 0,.int .u64 6])):=zo (pat:=fun _:Unit=>[V.int .u64 1,.int .u64 6]) (fun _ _ _=>rfl) () trivial
def rep_6:PCall prog 187 [.str [48],.int .i64 6] (.ret (.str (List.replicate 6 48))):=by refine Xa (rs:=[.tmp 4]) [0,1,4,5,6,7,8,9,10,11,12,14,18,34,40,42,43,49,58,67,76,85,96,104,113] [] mixed (zf cM_6_ok (zf zaN zh)) (zg) zdh func187 rfl ntmps187 rfl ?_;have hg:((([48]:ZL).getD 0 0).toNat:Int)=48:=rfl;have e1:((48:UInt8)==32)=false:=rfl;have e2:((48:UInt8)==45)=false:=rfl;have e3:((48:UInt8)==48)=true:=rfl;simp(disch:=try exact Zq)only[go_sem,cM_6_eq,hg,YaX,YaP,ipx,e1,e2,e3,Yaq,Yau,Yav];rfl
def and_7:Go.bits .and .u64 7 4294967295=7:=Zk
def mul64_7:PCall prog 213 [.int .u64 1,.int .u64 7] (.ret (.tup [.int .u64 0,.int .u64 7])):=by refine Xa (rs:=[.tmp 4,.tmp 5]) [0,1,4,5,6,7,8,9,10,11,12,13] [] mixed (zh) (zg) zev func213 rfl ntmps213 rfl ?_;simp(disch:=try exact Zq)only[go_sem,and1,and0,and_7];kernel_rfl
def cM64_7:ZV:=zL (fun _:Unit=>[.int .u64 1,.int .u64 7]) (fun _=>True) (fun _=>.ret (.tup [.int .u64 0,.int .u64 7]))
def zxC:ZC cM64_7 213:=zn fun _ _=>mul64_7
def zxD:cM64_7 [.int .u64 1,.int .u64 7]=some (.ret (.tup [.int .u64 0,.int .u64 7])):=zo (pat:=fun _:Unit=>[V.int .u64 1,.int .u64 7]) (fun _ _ _=>rfl) () trivial
def mul_7:PCall prog 198 [.int .u64 1,.int .u64 7] (.ret (.tup [.int .u64 0,.int .u64 7])):=by refine Xa (rs:=[.tmp 4,.tmp 5]) [0,1,4,5,6,7,8,9] [] mixed (zf zxC zh) (zg) zew func198 rfl ntmps198 rfl ?_;simp(disch:=try exact Zq)only[go_sem,zxD]
def cM_7:ZV:=zL (fun _:Unit=>[.int .u64 1,.int .u64 7]) (fun _=>True) (fun _=>.ret (.tup [.int .u64 0,.int .u64 7]))
def cM_7_ok:ZC cM_7 198:=zn fun _ _=>mul_7
def cM_7_eq:cM_7 [.int .u64 1,.int .u64 7]=some (.ret (.tup [.int .u64 0,.int .u64 7])):=zo (pat:=fun _:Unit=>[V.int .u64 1,.int .u64 7]) (fun _ _ _=>rfl) () trivial
def rep_7:PCall prog 187 [.str [48],.int .i64 7] (.ret (.str (List.replicate 7 48))):=by refine Xa (rs:=[.tmp 4]) [0,1,4,5,6,7,8,9,10,11,12,14,18,34,40,42,43,49,58,67,76,85,96,104,113] [] mixed (zf cM_7_ok (zf zaN zh)) (zg) zdh func187 rfl ntmps187 rfl ?_;have hg:((([48]:ZL).getD 0 0).toNat:Int)=48:=rfl;have e1:((48:UInt8)==32)=false:=rfl;have e2:((48:UInt8)==45)=false:=rfl;have e3:((48:UInt8)==48)=true:=rfl;simp(disch:=try exact Zq)only[go_sem,cM_7_eq,hg,YaX,YaP,ipx,e1,e2,e3,Yaq,Yau,Yav];rfl
def and_8:Go.bits .and .u64 8 4294967295=8:=Zk
def mul64_8:PCall prog 213 [.int .u64 1,.int .u64 8] (.ret (.tup [.int .u64 0,.int .u64 8])):=by refine Xa (rs:=[.tmp 4,.tmp 5]) [0,1,4,5,6,7,8,9,10,11,12,13] [] mixed (zh) (zg) zev func213 rfl ntmps213 rfl ?_;simp(disch:=try exact Zq)only[go_sem,and1,and0,and_8];kernel_rfl
def cM64_8:ZV:=zL (fun _:Unit=>[.int .u64 1,.int .u64 8]) (fun _=>True) (fun _=>.ret (.tup [.int .u64 0,.int .u64 8]))
def zxA:ZC cM64_8 213:=zn fun _ _=>mul64_8
def zxB:cM64_8 [.int .u64 1,.int .u64 8]=some (.ret (.tup [.int .u64 0,.int .u64 8])):=zo (pat:=fun _:Unit=>[V.int .u64 1,.int .u64 8]) (fun _ _ _=>rfl) () trivial
def mul_8:PCall prog 198 [.int .u64 1,.int .u64 8] (.ret (.tup [.int .u64 0,.int .u64 8])):=by refine Xa (rs:=[.tmp 4,.tmp 5]) [0,1,4,5,6,7,8,9] [] mixed (zf zxA zh) (zg) zew func198 rfl ntmps198 rfl ?_;simp(disch:=try exact Zq)only[go_sem,zxB]
def cM_8:ZV:=zL (fun _:Unit=>[.int .u64 1,.int .u64 8]) (fun _=>True) (fun _=>.ret (.tup [.int .u64 0,.int .u64 8]))
def cM_8_ok:ZC cM_8 198:=zn fun _ _=>mul_8
def cM_8_eq:cM_8 [.int .u64 1,.int .u64 8]=some (.ret (.tup [.int .u64 0,.int .u64 8])):=zo (pat:=fun _:Unit=>[V.int .u64 1,.int .u64 8]) (fun _ _ _=>rfl) () trivial
def rep_8:PCall prog 187 [.str [48],.int .i64 8] (.ret (.str (List.replicate 8 48))):=by refine Xa (rs:=[.tmp 4]) [0,1,4,5,6,7,8,9,10,11,12,14,18,34,40,42,43,49,58,67,76,85,96,104,113] [] mixed (zf cM_8_ok (zf zaN zh)) (zg) zdh func187 rfl ntmps187 rfl ?_;have hg:((([48]:ZL).getD 0 0).toNat:Int)=48:=rfl;have e1:((48:UInt8)==32)=false:=rfl;have e2:((48:UInt8)==45)=false:=rfl;have e3:((48:UInt8)==48)=true:=rfl;simp(disch:=try exact Zq)only[go_sem,cM_8_eq,hg,YaX,YaP,ipx,e1,e2,e3,Yaq,Yau,Yav];rfl
def rep_0:PCall prog 187 [.str [48],.int .i64 0] (.ret (.str (List.replicate 0 48))):=by refine Xa (rs:=[.tmp 4]) [0,1,4,5,6,7,8,9,10,11,12,14,18,34,40,42,43,49,58,67,76,85,96,104,113] [] mixed (zh) (zg) zdh func187 rfl ntmps187 rfl ?_;simp(disch:=try exact Zq)only[go_sem];rfl
def rep_1:PCall prog 187 [.str [48],.int .i64 1] (.ret (.str (List.replicate 1 48))):=by refine Xa (rs:=[.tmp 4]) [0,1,4,5,6,7,8,9,10,11,12,14,18,34,40,42,43,49,58,67,76,85,96,104,113] [] mixed (zh) (zg) zdh func187 rfl ntmps187 rfl ?_;simp(disch:=try exact Zq)only[go_sem];rfl
def repOK:RepOK:=fun k hk=>by
 match k,hk with
 |0,_=>exact rep_0
 |1,_=>exact rep_1
 |2,_=>exact rep_2
 |3,_=>exact rep_3
 |4,_=>exact rep_4
 |5,_=>exact rep_5
 |6,_=>exact rep_6
 |7,_=>exact rep_7
 |8,_=>exact rep_8
 |k+9,h=>exact absurd h Zo
end Go.Proofs

namespace Go.Proofs
open Tryz Go.Ab Go.Pl Go.Shelf Go.RowKit Go.Sort Go.Lib
def renI:Ren where
 f:=fun x=>match x with|283=>207|284=>208|285=>209|286=>210|129=>85|317=>217|318=>218|319=>219|320=>220|337=>222|338=>223|n=>n
 t:=fun x=>match x with|3=>3|9=>9|2=>2|4=>4|171=>217|0=>0|53=>129|37=>28|5=>5|173=>219|212=>228|51=>81|20=>20|213=>229|46=>83|232=>230|233=>231|n=>n
 g:=fun x=>match x with|17=>4|18=>5|19=>6|n=>n
def laysI284:LaysM.n284 prog renI:=by constructor<;>first|kernel_rfl|(intro w;kernel_rfl)|(constructor<;>first|kernel_rfl|(intro w;kernel_rfl))
def laysI285:Lays.n285 prog renI:=by constructor<;>first|kernel_rfl|(intro w;kernel_rfl)
def laysI283:Lays.n283 prog renI:=by constructor<;>first|kernel_rfl|(intro w;kernel_rfl)
def Xo {P:Program}{f:FuncId}{args:ZA}{v:V}(hc:zk P f)(hs:zaF v=true) (h:∀(g:G)(w:World)(vs:Array Value),GOK g→(∀c arr,g.phi c=some arr→∃t fr,w.heap[c]? =some (.cells arr t fr))→vs.size=args.length→PW g args (fun i=>vs[i]?)→Calls P f vs w fun e w'=>∃vc,e=.returned vc∧VRel g v vc∧Bel w.heap.size w w'):PCall P f args (.ret v):=fun g w vs h1 h2 h3 h4=>
 .inl ⟨hc vs w,(h g w vs h1 h2 h3 h4).mono fun e w' ⟨vc,he,hv,hb⟩=>⟨fun _=>none,vc,fun c a e=>(by cases e),hb,he,zfs hs hv⟩⟩
def bel_grow(w:World)(k:Nat)(os:Array Obj):Bel w.heap.size w (grow (w.drewN k) os):=
 ⟨rfl,⟨rfl,zsF (Nat.le_add_right _ _)⟩,rfl,by show w.heap.size≤(w.heap++os).size;simp,fun c hc=>by show (w.heap++os)[c]? =_;rw[YaS hc]⟩
def args1 {g:G}{a:V}{vs:Array Value}(hvs:vs.size=[a].length)(hp:PW g [a] (fun i=>vs[i]?)):∃x,vs=#[x]∧VRel g a x:=by
 obtain⟨x,hx,r⟩:=hp 0 a rfl;refine⟨x,Yao fun i=>?_,r⟩;match i with
 |0=>exact hx
 |i+1=>rw[Yr (by simp at hvs;omega)];rfl
def args2 {g:G}{a b:V}{vs:Array Value}(hvs:vs.size=[a,b].length)(hp:PW g [a,b] (fun i=>vs[i]?)):∃x y,vs=#[x,y]∧VRel g a x∧VRel g b y:=by
 obtain⟨x,hx,r⟩:=hp 0 a rfl;obtain⟨y,hy,q⟩:=hp 1 b rfl;refine⟨x,y,Yao fun i=>?_,r,q⟩;match i with
 |0=>exact hx
 |1=>exact hy
 |i+2=>rw[Yr (by simp at hvs;omega)];rfl
def zuS:zuT=Lib.pow10Tab.map (fun z=>V.int .u64 z):=Zk
def ints_arr {g:G}{k:IntKind}{zs:List Int}{arr:Array Value}(hs:arr.size=zs.length)(hp:PW g (zs.map fun z=>V.int k z) (fun i=>arr[0+i]?)):arr=(zs.map fun z=>Value.int k z).toArray:=by
 apply Yao;intro i;by_cases h:i<zs.length
 ·obtain⟨v,hv,r⟩:=hp i (.int k zs[i]) (by simp[h]);have hv':arr[0+i]? =some v:=hv;rw[Yae]at hv';rw[hv',r.inv_int];simp[h]
 rw[Yr Zo,Yr (by simp only[List.size_toArray,Yan];omega)]
def tab_ok {g:G}{w:World}(hg:GOK g)(hf:∀c arr,g.phi c=some arr→∃t fr,w.heap[c]? =some (.cells arr t fr)):Lib.TabIs prog w "internal/strconv.uint64pow10" .u64 Lib.pow10Tab:=by
 obtain⟨hr,arr,hphi,hsz⟩:=hg 4 zuT rfl;obtain⟨c,o,arr',he,hphi',hpw⟩:=hr.inv_fp;cases he;have e:arr'=arr:=by
  have:some arr'=some arr:=by rw[←hphi,←hphi']
  exact Yh this
 subst e;rw[zuS]at hpw hsz;have ha:=ints_arr (by simpa using hsz) hpw;obtain⟨t,fr,hh⟩:=hf 4 arr' hphi;show World.var? prog w "internal/strconv.uint64pow10" =_;have hn:prog.globalNamed "internal/strconv.uint64pow10" =some 4:=Zk;unfold World.var?;rw[hn];simp only[Option.bind_some,hh];rw[ha]
def zkn:∀u:Nat,decDigits u=dec u:=fun u=>by
 induction u using Nat.strongRecOn with
 |_ u ih=>
  rw[decDigits];split
  ·rename_i h;rw[zbA h]
  rename_i h;rw[zdM Zo,ih (u/10) Zo]
def small_c(i:Nat)(hi:i<100)(w:World):Calls prog 207 #[.int .i64 i] w fun e w'=>e=.returned (.string ⟨(decDigits i).toArray⟩)∧w'=w:=Any.internal_strconv_small laysI283 i hi w
def znG(u:Nat)(h1:1≤u)(h2:u<18446744073709551616)(w:World)(htab:Lib.TabIs prog w "internal/strconv.uint64pow10" .u64 Lib.pow10Tab):Calls prog 208 #[.int .u64 u] w fun e w'=>e=.returned (.int .i64 (Lib.nDigits u))∧w'=w:=Any.internal_strconv_numDigits laysI284 u h1 h2 w htab
def zia(blk off cap:Nat)(u:Nat)(d:Array UInt8)(w:World)(hH:Holds (fun(b:UInt8)=>Value.int .u8 (b.toNat:Int)) w blk off d)(hu:u<10^d.size)(hu64:u<18446744073709551616)(hsz:d.size<4611686018427387904):Calls prog 209 #[.slice (some ⟨blk,off,none⟩) d.size cap,.int .u64 u] w fun e w'=>
 e=.returned (.tuple #[])∧∃(n v':Nat)(dk:Array UInt8),w'=(putRow (fun(b:UInt8)=>Value.int .u8 (b.toNat:Int)) w blk off dk).drewN n∧FmtInv d.size u 0 v' dk:=Any.internal_strconv_formatBase10 laysI285 blk off cap u d w hH hu hu64 hsz
def fin_pos0(w:World)(o:Obj)(dk:Array UInt8)(k:Nat):∃os,(putRow (fun(b:UInt8)=>Value.int .u8 (b.toNat:Int)) (w.alloc o) w.heap.size 0 dk).drewN k=grow (w.drewN k) os:=by rw[alloc_eq_grow];obtain⟨os',_,e⟩:=putRow_grow_new (fun(b:UInt8)=>Value.int .u8 (b.toNat:Int)) w #[o] w.heap.size 0 dk (Yc _);exact⟨os',by rw[e];rfl⟩
def fmtU_c(u:Nat)(hu64:u<18446744073709551616)(w:World)(htab:Lib.TabIs prog w "internal/strconv.uint64pow10" .u64 Lib.pow10Tab):Calls prog 196 #[.int .u64 u,.int .i64 10] w fun e w'=>e=.returned (.string ⟨(decDigits u).toArray⟩)∧∃k os,w'=grow (w.drewN k) os:=by
 by_cases hi:u<100
 ·have hwr:IntKind.i64.wrap (u:Int)=(u:Int):=by rw[IntKind.wrap_i64];omega
  go_enter func196,ntmps196;go_wp2_with (go_at_call 207;refine(small_c u hi _).mono ?_;rintro e w' ⟨rfl,rfl⟩);go_ret;exact⟨rfl,0,#[],by simp[World.drewN_zero]⟩
 have hu1:1≤u:=Zo;have hnd20:Lib.nDigits u≤20:=by have:=Lib.numDigits_eq u hu1 hu64;split at this<;>omega
 have hal:prog.arrayLen 217=24:=Zk;have hsl1:∀W,(Instr.sliceAt 217 (.pointer (some ⟨w.heap.size,0,none⟩)) none (some (.int .i64 (Lib.nDigits u:Int))) none).run prog W=.ok (.slice (some ⟨w.heap.size,0,none⟩) (Lib.nDigits u) 24) W:=fun W=>by rw[run_sliceAt_array_h W 217 ⟨w.heap.size,0,none⟩ Zk .i64 (Lib.nDigits u:Int) Zo (by rw[hal];omega)];rfl
 have hH0:Holds (fun(b:UInt8)=>Value.int .u8 (b.toNat:Int)) (w.alloc (.cells Lib.zeros24 217)) w.heap.size 0 (Array.replicate (Lib.nDigits u) 0):=fun j hj=>by
  have hj':j<Lib.nDigits u:=by simpa using hj
  refine⟨?_,World.frozen?_alloc_new _ _ _ _⟩;rw[World.cell?_alloc_new,Yae,zeros24_at _ Zo,getElem!_pos _ j hj];simp
 have hfmt:=zia w.heap.size 0 24 u (Array.replicate (Lib.nDigits u) 0) (w.alloc (.cells Lib.zeros24 217)) hH0 (by rw[YbI];exact Lib.lt_pow_nDigits u) hu64 (by rw[YbI];omega);rw[YbI]at hfmt;go_enter func196,ntmps196;go_wp2_with (go_at_call 208;refine(znG u hu1 hu64 _ (Lib.tabIs_alloc htab _)).mono ?_;rintro e w' ⟨rfl,rfl⟩);refine hfmt.mono ?_;rintro e w' ⟨rfl,k,v',dk,rfl,hF⟩;have hcv:(convert 28 9 (.slice (some ⟨w.heap.size,0,none⟩) (Lib.nDigits u) 24)).run prog ((putRow (fun(b:UInt8)=>Value.int .u8 (b.toNat:Int)) (w.alloc (.cells Lib.zeros24 217)) w.heap.size 0 dk).drewN k)=.ok (.string ⟨(Lib.decDigits u).toArray⟩) ((putRow (fun(b:UInt8)=>Value.int .u8 (b.toNat:Int)) (w.alloc (.cells Lib.zeros24 217)) w.heap.size 0 dk).drewN k):=by have h:=run_convert_bytes_back (P:=prog) ((putRow (fun(b:UInt8)=>Value.int .u8 (b.toNat:Int)) (w.alloc (.cells Lib.zeros24 217)) w.heap.size 0 dk).drewN k) 28 9 5 ⟨w.heap.size,0,none⟩ 24 (Lib.decDigits u) Zk Zk Zk (fun j hj=>by rw[Lib.row_is_numeral hF j hj,Lib.add_plain,World.cell?_drewN];exact cell?_putRow (fun(b:UInt8)=>Value.int .u8 (b.toNat:Int)) _ w.heap.size 0 _ dk hH0 (by rw[hF.size,YbI]) j (by rw[hF.size];rw[Lib.decDigits_length]at hj;exact hj));rw[Lib.decDigits_length]at h;exact h
 go_wp2;go_ret;obtain⟨os,eo⟩:=fin_pos0 w (.cells Lib.zeros24 217) dk k;exact⟨rfl,k,os,eo⟩
def fmtUi_ok(u:Nat)(h:u<18446744073709551616):PCall prog 196 [.int .u64 u,.int .i64 10] (.ret (.str (dec u))):=by
 refine Xo call196 rfl fun g w vs hg hf hvs hp=>?_;obtain⟨x,y,rfl,r,q⟩:=args2 hvs hp;obtain rfl:=r.inv_int;obtain rfl:=q.inv_int;refine(fmtU_c u h w (tab_ok hg hf)).mono fun e w' ⟨he,k,os,hw⟩=>⟨_,he,.str ?_,?_⟩
 ·rw[zkn]
 rw[hw];exact bel_grow w k os
def cFmtI:ZV:=zL (fun d:Nat=>[.int .u64 d,.int .i64 10]) (fun d=>d<18446744073709551616) (fun d=>.ret (.str (dec d)))
def cFmtI_ok:ZC cFmtI 196:=zn fmtUi_ok
def cFmtI_eq(d:Nat)(h:d<18446744073709551616):cFmtI [.int .u64 d,.int .i64 10]=some (.ret (.str (dec d))):=zo (pat:=fun d:Nat=>[V.int .u64 d,.int .i64 10]) (fun x y h=>by simp at h;omega) d h
def fmtOK:FmtOK:=fun d hd=>by refine Xa (rs:=[.tmp 4]) [0,1,4] [] mixed (zf cFmtI_ok zh) (zg) call185 func185 rfl ntmps185 rfl ?_;simp(disch:=try exact Zq)only[go_sem,cFmtI_eq]
def zpg:zhK:=fun n h=>text_ok fmtOK repOK n h
end Go.Proofs

namespace Go.Proofs
open Tryz Go.Ab Go.Pl Go.Shelf Go.RowKit
def renU:Ren where
 f:=fun x=>match x with|197=>115|260=>139|n=>n
 t:=fun x=>match x with|0=>0|3=>3|4=>4|5=>5|9=>9|21=>21|46=>83|105=>146|119=>183|138=>185|139=>186|n=>n
 g:=fun x=>match x with|3=>1|4=>2|n=>n
def laysU197:Lays.n197 prog renU:=by constructor<;>first|kernel_rfl|(intro w;kernel_rfl)|(constructor<;>first|kernel_rfl|(intro w;kernel_rfl))
def zhq {g:G}{w:World}(hg:GOK g)(hf:∀c arr,g.phi c=some arr→∃t fr,w.heap[c]? =some (.cells arr t fr)){k:Nat}{cs:ZA}(e:GL k=some cs)(i:Nat)(kd:IntKind)(n:Int)(h:cs[i]? =some (.int kd n)):w.cell? ⟨k,i,none⟩=some (.int kd n):=by
 obtain⟨hr,arr,hphi,hsz⟩:=hg k cs e;obtain⟨c,o,arr',he,hphi',hpw⟩:=hr.inv_fp;cases he;have e':arr'=arr:=by
  have:some arr'=some arr:=by rw[←hphi,←hphi']
  exact Yh this
 subst e';obtain⟨v,hv,r⟩:=hpw i _ h;obtain rfl:=r.inv_int;obtain⟨t,fr,hh⟩:=hf k arr' hphi;simp only[World.cell?,hh];simpa using hv
def first_eq:∀c:Fin 256,firstN c.val=Lib.firstT c.val:=by decide+kernel
def first_at(c:Fin 256):zpX[c.val]? =some (.int .u8 (Lib.firstT c.val)):=by rw[←first_eq c];simp[zpX]
def acc_eq:∀c:Fin 16,([128,191,160,191,128,159,144,191,128,143]++List.replicate 22 0)[2*c.val]? =some (Lib.accLo c.val)∧([128,191,160,191,128,159,144,191,128,143]++List.replicate 22 0)[2*c.val+1]? =some (Lib.accHi c.val):=by decide+kernel
def acc_at(c:Fin 16):accV[2*c.val]? =some (.int .u8 (Lib.accLo c.val))∧accV[2*c.val+1]? =some (.int .u8 (Lib.accHi c.val)):=by obtain⟨h1,h2⟩:=acc_eq c;unfold accV;rw[YT,YT,h1,h2];exact⟨rfl,rfl⟩
def u8_tabs {g:G}{w:World}(hg:GOK g)(hf:∀c arr,g.phi c=some arr→∃t fr,w.heap[c]? =some (.cells arr t fr)):Lib.Utf8Tabs 1 2 w:=
 ⟨fun c hc=>zhq hg hf (cs:=zpX) rfl c .u8 _ (first_at ⟨c,hc⟩),fun i hi=>⟨zhq hg hf (cs:=accV) rfl (2*i) .u8 _ (acc_at ⟨i,hi⟩).1,zhq hg hf (cs:=accV) rfl (2*i+1) .u8 _ (acc_at ⟨i,hi⟩).2⟩⟩
def zya {w w':World}(h:Below w.heap.size w w'):Bel w.heap.size w w':=⟨h.os,⟨h.tape,Yc _⟩,h.output,h.size,h.block⟩
def dg8(s:ZL):Nat×Nat:=Lib.decodeGo ⟨s.toArray⟩
def dec_ok(s:ZL):PCall prog 115 [.str s] (.ret (.tup [.int .i32 (dg8 s).1,.int .i64 (dg8 s).2])):=by
 refine Xo call115 rfl fun g w vs hg hf hvs hp=>?_;obtain⟨x,rfl,r⟩:=args1 hvs hp;obtain⟨ba,rfl,hba⟩:=r.inv_str;have hbe:(⟨s.toArray⟩:ByteArray)=ba:=by rw[←hba]
 refine(Any.utf8_DecodeRuneInString laysU197 ba w (u8_tabs hg hf)).mono fun e w' ⟨he,hw⟩=>⟨_,he,Xf rfl fun i y hy=>?_,zya hw⟩;have hd:dg8 s=Lib.decodeGo ba:=by unfold dg8;rw[hbe]
 rw[hd]at hy;match i,hy with
 |0,hy=>cases hy;exact⟨_,rfl,.int _ _⟩
 |1,hy=>cases hy;exact⟨_,rfl,.int _ _⟩
def cDec:ZV:=zL (fun s:ZL=>[.str s]) (fun _=>True) fun s=>.ret (.tup [.int .i32 (dg8 s).1,.int .i64 (dg8 s).2])
def cDec_eq(s:ZL):cDec [.str s]=some (.ret (.tup [.int .i32 (dg8 s).1,.int .i64 (dg8 s).2])):=zo (pat:=fun s:ZL=>[V.str s]) (fun x y h=>by simpa using h) s trivial
def cDec_ok:ZC cDec 115:=zn fun s _=>dec_ok s
def zp5(s:ZL)(pos:Nat)(h:pos<s.length):dg8 (s.drop pos)=dec8 s pos:=by
 have hs:(⟨(s.drop pos).toArray⟩:ByteArray).size=s.length-pos:=by show (s.drop pos).toArray.size=_;simp
 have hz:(⟨s.toArray⟩:ByteArray).size=s.length:=by show s.toArray.size=_;simp
 have hg:∀k,(⟨(s.drop pos).toArray⟩:ByteArray).get! (0+k)=(⟨s.toArray⟩:ByteArray).get! (pos+k):=fun k=>by show (s.drop pos).toArray[0+k]! =s.toArray[pos+k]!;rw[Yae];simp[List.getElem!_eq_getElem?_getD]
 unfold dg8 dec8 Lib.decodeGo;rw[Ye (by rw[hs];omega),Lib.decode_at,Lib.decode_at,hs,hz,hg 1,hg 2,hg 3];have:=hg 0;rw[Yae,YS]at this;rw[this,YbW]
def okP(p:Nat×Nat):Bool:= !decide ((p.1:Int)=65533)||decide (1<(p.2:Int))
def piece_ok(s:ZL):PCall prog 91 [.str s] (.ret (.tup [.int .i32 (dg8 s).1,.int .i64 (dg8 s).2,.bool (okP (dg8 s))])):=by refine Xa (rs:=[.tmp 2,.tmp 3,.tmp 4]) [0,2,3,4] [] mixed (zf cDec_ok zh) (zg) call91 func91 rfl ntmps91 rfl ?_;simp(disch:=try exact Zq)only[go_sem,cDec_eq];rfl
def cPiece:ZV:=zL (fun s:ZL=>[.str s]) (fun _=>True) fun s=>.ret (.tup [.int .i32 (dg8 s).1,.int .i64 (dg8 s).2,.bool (okP (dg8 s))])
def ze7(s:ZL):cPiece [.str s]=some (.ret (.tup [.int .i32 (dg8 s).1,.int .i64 (dg8 s).2,.bool (okP (dg8 s))])):=zo (pat:=fun s:ZL=>[V.str s]) (fun x y h=>by simpa using h) s trivial
def ze6:ZC cPiece 91:=zn fun s _=>piece_ok s
def zuN(s:ZL)(H:Hp):zdm prog 9 (.str s) H=some ⟨.ptr H.next 0,H.new (.si s 0),[],[]⟩:=by have h1:mapT prog 9=none:=Zk;have h2:prog.underlying 9=some .string:=Zk;unfold zdm;rw[h1,h2]
def zmi(s:ZL)(pos:Nat)(h:pos<s.length):1≤(dec8 s pos).2∧pos+(dec8 s pos).2≤s.length:=by
 have hz:(⟨s.toArray⟩:ByteArray).size=s.length:=by show s.toArray.size=_;simp
 unfold dec8;rw[Lib.decode_at,hz];unfold Lib.decodeN;repeat' split
 all_goals (simp only;omega)
def zbq(s:ZL):Nat→Nat→Int
 |0,_=>0
 |k+1,pos=>if pos<s.length then(if okP (dec8 s pos)=false then 3 else zbq s k (pos+(dec8 s pos).2))else 0
def zdz(s:ZL):Int:=if 16384<s.length then 2 else zbq s s.length 0
def ziq(s:ZL)(k pos:Nat)(h:¬pos<s.length):zbq s k pos=0:=by
 cases k with
 |zero=>rfl
 |succ k=>rw[zbq,Ye h]
def slL(l:List ZL):V:=match l with|[]=>.nilS|_::_=>.sl 1 0 l.length 1 none
def slB(s:ZL)(pos:Nat)(l:List ZL):Hp:=match l with|[]=>⟨[(0,.si s pos)],1⟩|_::_=>⟨[(1,.cells (strs l)),(0,.si s pos)],2⟩
def split_ok(s:ZL)(hs:s.length≤1000000000):PCall prog 79 [.str s] (.ret (.tup [.any,.any,.int .i64 (zdz s)])):=by
 refine Xa (rs:=[.tmp 2,.tmp 3,.tmp 4]) [0,2,3,4,5,6,8,9,12,14,15,16,32] [] mixed (zf ze6 zh) (zg) call79 func79 rfl ntmps79 rfl ?_;simp only[go_sem];by_cases h1:16384<s.length
 ·have e:zdz s=2:=Yi h1;have d0:decide (16384<(s.length:Int))=true:=Yf Zo;rw[e];simp(disch:=try exact Zq)only[go_sem,d0]
 have e:zdz s=zbq s s.length 0:=Ye h1;have d0:decide (16384<(s.length:Int))=false:=Yd Zo;rw[e];simp(disch:=try exact Zq)only[go_sem,d0,zuN];refine AXs.loop mixed (zf ze6 zh) (zg) (ι:=Nat×Nat×List ZL) (fun i=>[(14,.ptr 0 0),(2,slL i.2.2),(0,.str s)]) (fun i=>slB s i.2.1 i.2.2) (fun i=>i.2.1≤s.length∧s.length≤i.2.1+i.1∧i.2.2.length≤i.2.1∧zbq s i.1 i.2.1=zbq s s.length 0) (fun i=>i.1) (s.length,0,[]) Zk ⟨Yk _,by show s.length≤0+s.length;omega,Yk _,rfl⟩ (Xb [] rfl rfl ?_ ?_) ?_
 ·show subE _ _ _ [(14,.ptr 0 0),(2,.nilS),(0,.str s)];simp only[go_sem]
 ·show subH _ _ _ [(0,.si s 0)];simp only[go_sem]
 rintro⟨k,pos,l⟩ ⟨g1,g2,g3,g4⟩;dsimp only at g1 g2 g3 g4;have g5:=g3;cases l with
 |nil=>
  dsimp only[slL,slB];by_cases hp:pos<s.length
  ·obtain⟨w1,w2⟩:=zmi s pos hp;obtain⟨k,rfl⟩:∃k',k=k'+1:=⟨k-1,Zo⟩;have hdg:dg8 (s.drop pos)=dec8 s pos:=zp5 s pos hp;have hst:zbq s (k+1) pos=if okP (dec8 s pos)=false then 3 else zbq s k (pos+(dec8 s pos).2):=by rw[zbq,Yi hp]
   rw[g4]at hst;have eP:(pos:Int)+((dec8 s pos).2:Nat)=((pos+(dec8 s pos).2:Nat):Int):=Zo;cases hok:okP (dec8 s pos)with
   |false=>
    have d65:decide (((dec8 s pos).1:Int)=65533)=true:=by unfold okP at hok;rw[Yb9]at hok;simpa using hok.1
    rw[Yi hok]at hst;simp(disch:=try exact Zq)only[go_sem,hp,ze7,Ym,hdg,hok,d65];refine⟨Zo,?_⟩;rw[hst]
   |true=>
    rw[Ye (by rw[hok];decide)]at hst;simp(disch:=try exact Zq)only[go_sem,hp,ze7,Ym,hdg,hok,eP];refine⟨Zo,Zo,zi (k,pos+(dec8 s pos).2,[(s.take (pos+(dec8 s pos).2)).drop pos]) ⟨by show pos+_≤_;omega,by show s.length≤pos+_+k;omega,by simp at g3 ⊢;omega,hst.symm⟩ (by show k<k+1;omega) (Xb [(1,2)] rfl rfl ?_ ?_)⟩
    ·show subE _ _ _ [(14,.ptr 0 0),(2,slL ([(s.take (pos+(dec8 s pos).2)).drop pos])),(0,.str s)];dsimp only[slL];simp only[go_sem,Yv,Yg,Ya8,YQ]
    dsimp only;simp only[go_sem];rfl
  have hz:=ziq s k pos hp;rw[g4]at hz;simp(disch:=try exact Zq)only[go_sem,hp];refine AXa.go mixed (zf ze6 zh) (zg) Zk ?_;rw[hz];simp(disch:=try exact Zq)only[go_sem]
 |cons x l=>
  rw[Yv]at g5;dsimp only[slL,slB];by_cases hp:pos<s.length
  ·obtain⟨w1,w2⟩:=zmi s pos hp;obtain⟨k,rfl⟩:∃k',k=k'+1:=⟨k-1,Zo⟩;have hdg:dg8 (s.drop pos)=dec8 s pos:=zp5 s pos hp;have hst:zbq s (k+1) pos=if okP (dec8 s pos)=false then 3 else zbq s k (pos+(dec8 s pos).2):=by rw[zbq,Yi hp]
   rw[g4]at hst;have eP:(pos:Int)+((dec8 s pos).2:Nat)=((pos+(dec8 s pos).2:Nat):Int):=Zo;cases hok:okP (dec8 s pos)with
   |false=>
    have d65:decide (((dec8 s pos).1:Int)=65533)=true:=by unfold okP at hok;rw[Yb9]at hok;simpa using hok.1
    rw[Yi hok]at hst;simp(disch:=try exact Zq)only[go_sem,hp,ze7,Ym,hdg,hok,d65];refine⟨Zo,?_⟩;rw[hst]
   |true=>
    rw[Ye (by rw[hok];decide)]at hst;simp(disch:=try exact Zq)only[go_sem,hp,ze7,Ym,hdg,hok,eP];refine⟨Zo,Zo,Zo,zi (k,pos+(dec8 s pos).2,x::(l++[(s.take (pos+(dec8 s pos).2)).drop pos])) ⟨by show pos+_≤_;omega,by show s.length≤pos+_+k;omega,by simp at g3 ⊢;omega,hst.symm⟩ (by show k<k+1;omega) (Xb [(1,3)] rfl rfl ?_ ?_)⟩
    ·show subE _ _ _ [(14,.ptr 0 0),(2,slL (x::(l++[(s.take (pos+(dec8 s pos).2)).drop pos]))),(0,.str s)];dsimp only[slL];simp only[go_sem,Yv,Yg,Ya8,YQ]
    dsimp only;simp only[go_sem]
  have hz:=ziq s k pos hp;rw[g4]at hz;simp(disch:=try exact Zq)only[go_sem,hp];refine AXa.go mixed (zf ze6 zh) (zg) Zk ?_;rw[hz];simp(disch:=try exact Zq)only[go_sem]
end Go.Proofs
