/- strings.Repeat of a zero, at most eight times. -/
import Derived.Test.YthbimeikbkjnkaaGreatDoorPlPad
set_option linter.all false
namespace Go.Proofs
open Go.Ab Go.Pl
theorem zdW:zi Tryz.prog 249:=fun a w=>by kernel_rfl
theorem zdX:zi Tryz.prog 231:=fun a w=>by kernel_rfl
theorem ipx(a c:UInt8)(l r:List UInt8):List.isPrefixOf [a] (List.append (c::l) r)=(a==c):=by show (a==c&&true)=_;rw [Bool.and_true]
theorem and1:Go.bits .and .u64 1 4294967295=1:=by kernel_rfl
theorem and0:Go.bits .and .u64 0 4294967295=0:=by kernel_rfl
theorem and_2:Go.bits .and .u64 2 4294967295=2:=by kernel_rfl
set_option maxRecDepth 100000 in
theorem mul64_2:PCall Tryz.prog 249 [.int .u64 1,.int .u64 2] (.ret (.tup [.int .u64 0,.int .u64 2])):=by
 refine PCall.walk (rs:=[.tmp 4,.tmp 5]) [0,1,4,5,6,7,8,9,10,11,12,13] [] mixed (zh) (zf) zdW Tryz.func249 rfl Tryz.ntmps249 rfl (by kernel_rfl) (by simp) (by simp [push_cast]) ?_;simp (disch:=first|assumption|(push_cast<;>omega)|omega) only [go_sem,and1,and0,and_2];kernel_rfl
noncomputable def cM64_2:List V→Option PR:=zG (fun _:Unit=>[.int .u64 1,.int .u64 2]) (fun _=>True) (fun _=>.ret (.tup [.int .u64 0,.int .u64 2]))
theorem zwo:∀ args r,cM64_2 args=some r→PCall Tryz.prog 249 args r:=zk fun _ _=>mul64_2
theorem zwp:cM64_2 [.int .u64 1,.int .u64 2]=some (.ret (.tup [.int .u64 0,.int .u64 2])):=zn (pat:=fun _:Unit=>[V.int .u64 1,.int .u64 2]) (fun _ _ _=>rfl) () trivial
theorem mul_2:PCall Tryz.prog 231 [.int .u64 1,.int .u64 2] (.ret (.tup [.int .u64 0,.int .u64 2])):=by
 refine PCall.walk (rs:=[.tmp 4,.tmp 5]) [0,1,4,5,6,7,8,9] [] mixed (zg zwo zh) (zf) zdX Tryz.func231 rfl Tryz.ntmps231 rfl (by kernel_rfl) (by simp) (by simp [push_cast]) ?_;simp (disch:=first|assumption|(push_cast<;>omega)|omega) only [go_sem,zwp]
noncomputable def cM_2:List V→Option PR:=zG (fun _:Unit=>[.int .u64 1,.int .u64 2]) (fun _=>True) (fun _=>.ret (.tup [.int .u64 0,.int .u64 2]))
theorem cM_2_ok:∀ args r,cM_2 args=some r→PCall Tryz.prog 231 args r:=zk fun _ _=>mul_2
theorem cM_2_eq:cM_2 [.int .u64 1,.int .u64 2]=some (.ret (.tup [.int .u64 0,.int .u64 2])):=zn (pat:=fun _:Unit=>[V.int .u64 1,.int .u64 2]) (fun _ _ _=>rfl) () trivial
set_option maxRecDepth 100000 in
set_option maxHeartbeats 1000000 in
theorem rep_2:PCall Tryz.prog 211 [.str [48],.int .i64 2] (.ret (.str (List.replicate 2 48))):=by
 refine PCall.walk (rs:=[.tmp 4]) [0,1,4,5,6,7,8,9,10,11,12,14,18,34,40,42,43,49,58,67,76,85,96,104,113] [] mixed (zg cM_2_ok (zg zaR zh)) (zf) zc4 Tryz.func211 rfl Tryz.ntmps211 rfl (by kernel_rfl) (by simp) (by simp [push_cast]) ?_;have hg:((([48]:List UInt8).getD 0 0).toNat:Int)=48:=rfl;have e1:((48:UInt8)==32)=false:=rfl;have e2:((48:UInt8)==45)=false:=rfl;have e3:((48:UInt8)==48)=true:=rfl;simp (disch:=first|assumption|(push_cast<;>omega)|omega) only [go_sem,cM_2_eq,hg,List.isPrefixOf_cons₂,List.isPrefixOf_nil_left,ipx,e1,e2,e3,Bool.false_and,Bool.true_and,Bool.and_true];rfl
theorem and_3:Go.bits .and .u64 3 4294967295=3:=by kernel_rfl
set_option maxRecDepth 100000 in
theorem mul64_3:PCall Tryz.prog 249 [.int .u64 1,.int .u64 3] (.ret (.tup [.int .u64 0,.int .u64 3])):=by
 refine PCall.walk (rs:=[.tmp 4,.tmp 5]) [0,1,4,5,6,7,8,9,10,11,12,13] [] mixed (zh) (zf) zdW Tryz.func249 rfl Tryz.ntmps249 rfl (by kernel_rfl) (by simp) (by simp [push_cast]) ?_;simp (disch:=first|assumption|(push_cast<;>omega)|omega) only [go_sem,and1,and0,and_3];kernel_rfl
noncomputable def cM64_3:List V→Option PR:=zG (fun _:Unit=>[.int .u64 1,.int .u64 3]) (fun _=>True) (fun _=>.ret (.tup [.int .u64 0,.int .u64 3]))
theorem zwm:∀ args r,cM64_3 args=some r→PCall Tryz.prog 249 args r:=zk fun _ _=>mul64_3
theorem zwn:cM64_3 [.int .u64 1,.int .u64 3]=some (.ret (.tup [.int .u64 0,.int .u64 3])):=zn (pat:=fun _:Unit=>[V.int .u64 1,.int .u64 3]) (fun _ _ _=>rfl) () trivial
theorem mul_3:PCall Tryz.prog 231 [.int .u64 1,.int .u64 3] (.ret (.tup [.int .u64 0,.int .u64 3])):=by
 refine PCall.walk (rs:=[.tmp 4,.tmp 5]) [0,1,4,5,6,7,8,9] [] mixed (zg zwm zh) (zf) zdX Tryz.func231 rfl Tryz.ntmps231 rfl (by kernel_rfl) (by simp) (by simp [push_cast]) ?_;simp (disch:=first|assumption|(push_cast<;>omega)|omega) only [go_sem,zwn]
noncomputable def cM_3:List V→Option PR:=zG (fun _:Unit=>[.int .u64 1,.int .u64 3]) (fun _=>True) (fun _=>.ret (.tup [.int .u64 0,.int .u64 3]))
theorem cM_3_ok:∀ args r,cM_3 args=some r→PCall Tryz.prog 231 args r:=zk fun _ _=>mul_3
theorem cM_3_eq:cM_3 [.int .u64 1,.int .u64 3]=some (.ret (.tup [.int .u64 0,.int .u64 3])):=zn (pat:=fun _:Unit=>[V.int .u64 1,.int .u64 3]) (fun _ _ _=>rfl) () trivial
set_option maxRecDepth 100000 in
set_option maxHeartbeats 1000000 in
theorem rep_3:PCall Tryz.prog 211 [.str [48],.int .i64 3] (.ret (.str (List.replicate 3 48))):=by
 refine PCall.walk (rs:=[.tmp 4]) [0,1,4,5,6,7,8,9,10,11,12,14,18,34,40,42,43,49,58,67,76,85,96,104,113] [] mixed (zg cM_3_ok (zg zaR zh)) (zf) zc4 Tryz.func211 rfl Tryz.ntmps211 rfl (by kernel_rfl) (by simp) (by simp [push_cast]) ?_;have hg:((([48]:List UInt8).getD 0 0).toNat:Int)=48:=rfl;have e1:((48:UInt8)==32)=false:=rfl;have e2:((48:UInt8)==45)=false:=rfl;have e3:((48:UInt8)==48)=true:=rfl;simp (disch:=first|assumption|(push_cast<;>omega)|omega) only [go_sem,cM_3_eq,hg,List.isPrefixOf_cons₂,List.isPrefixOf_nil_left,ipx,e1,e2,e3,Bool.false_and,Bool.true_and,Bool.and_true];rfl
theorem and_4:Go.bits .and .u64 4 4294967295=4:=by kernel_rfl
set_option maxRecDepth 100000 in
theorem mul64_4:PCall Tryz.prog 249 [.int .u64 1,.int .u64 4] (.ret (.tup [.int .u64 0,.int .u64 4])):=by
 refine PCall.walk (rs:=[.tmp 4,.tmp 5]) [0,1,4,5,6,7,8,9,10,11,12,13] [] mixed (zh) (zf) zdW Tryz.func249 rfl Tryz.ntmps249 rfl (by kernel_rfl) (by simp) (by simp [push_cast]) ?_;simp (disch:=first|assumption|(push_cast<;>omega)|omega) only [go_sem,and1,and0,and_4];kernel_rfl
noncomputable def cM64_4:List V→Option PR:=zG (fun _:Unit=>[.int .u64 1,.int .u64 4]) (fun _=>True) (fun _=>.ret (.tup [.int .u64 0,.int .u64 4]))
theorem zwk:∀ args r,cM64_4 args=some r→PCall Tryz.prog 249 args r:=zk fun _ _=>mul64_4
theorem zwl:cM64_4 [.int .u64 1,.int .u64 4]=some (.ret (.tup [.int .u64 0,.int .u64 4])):=zn (pat:=fun _:Unit=>[V.int .u64 1,.int .u64 4]) (fun _ _ _=>rfl) () trivial
theorem mul_4:PCall Tryz.prog 231 [.int .u64 1,.int .u64 4] (.ret (.tup [.int .u64 0,.int .u64 4])):=by
 refine PCall.walk (rs:=[.tmp 4,.tmp 5]) [0,1,4,5,6,7,8,9] [] mixed (zg zwk zh) (zf) zdX Tryz.func231 rfl Tryz.ntmps231 rfl (by kernel_rfl) (by simp) (by simp [push_cast]) ?_;simp (disch:=first|assumption|(push_cast<;>omega)|omega) only [go_sem,zwl]
noncomputable def cM_4:List V→Option PR:=zG (fun _:Unit=>[.int .u64 1,.int .u64 4]) (fun _=>True) (fun _=>.ret (.tup [.int .u64 0,.int .u64 4]))
theorem cM_4_ok:∀ args r,cM_4 args=some r→PCall Tryz.prog 231 args r:=zk fun _ _=>mul_4
theorem cM_4_eq:cM_4 [.int .u64 1,.int .u64 4]=some (.ret (.tup [.int .u64 0,.int .u64 4])):=zn (pat:=fun _:Unit=>[V.int .u64 1,.int .u64 4]) (fun _ _ _=>rfl) () trivial
set_option maxRecDepth 100000 in
set_option maxHeartbeats 1000000 in
theorem rep_4:PCall Tryz.prog 211 [.str [48],.int .i64 4] (.ret (.str (List.replicate 4 48))):=by
 refine PCall.walk (rs:=[.tmp 4]) [0,1,4,5,6,7,8,9,10,11,12,14,18,34,40,42,43,49,58,67,76,85,96,104,113] [] mixed (zg cM_4_ok (zg zaR zh)) (zf) zc4 Tryz.func211 rfl Tryz.ntmps211 rfl (by kernel_rfl) (by simp) (by simp [push_cast]) ?_;have hg:((([48]:List UInt8).getD 0 0).toNat:Int)=48:=rfl;have e1:((48:UInt8)==32)=false:=rfl;have e2:((48:UInt8)==45)=false:=rfl;have e3:((48:UInt8)==48)=true:=rfl;simp (disch:=first|assumption|(push_cast<;>omega)|omega) only [go_sem,cM_4_eq,hg,List.isPrefixOf_cons₂,List.isPrefixOf_nil_left,ipx,e1,e2,e3,Bool.false_and,Bool.true_and,Bool.and_true];rfl
theorem and_5:Go.bits .and .u64 5 4294967295=5:=by kernel_rfl
set_option maxRecDepth 100000 in
theorem mul64_5:PCall Tryz.prog 249 [.int .u64 1,.int .u64 5] (.ret (.tup [.int .u64 0,.int .u64 5])):=by
 refine PCall.walk (rs:=[.tmp 4,.tmp 5]) [0,1,4,5,6,7,8,9,10,11,12,13] [] mixed (zh) (zf) zdW Tryz.func249 rfl Tryz.ntmps249 rfl (by kernel_rfl) (by simp) (by simp [push_cast]) ?_;simp (disch:=first|assumption|(push_cast<;>omega)|omega) only [go_sem,and1,and0,and_5];kernel_rfl
noncomputable def cM64_5:List V→Option PR:=zG (fun _:Unit=>[.int .u64 1,.int .u64 5]) (fun _=>True) (fun _=>.ret (.tup [.int .u64 0,.int .u64 5]))
theorem zwi:∀ args r,cM64_5 args=some r→PCall Tryz.prog 249 args r:=zk fun _ _=>mul64_5
theorem zwj:cM64_5 [.int .u64 1,.int .u64 5]=some (.ret (.tup [.int .u64 0,.int .u64 5])):=zn (pat:=fun _:Unit=>[V.int .u64 1,.int .u64 5]) (fun _ _ _=>rfl) () trivial
theorem mul_5:PCall Tryz.prog 231 [.int .u64 1,.int .u64 5] (.ret (.tup [.int .u64 0,.int .u64 5])):=by
 refine PCall.walk (rs:=[.tmp 4,.tmp 5]) [0,1,4,5,6,7,8,9] [] mixed (zg zwi zh) (zf) zdX Tryz.func231 rfl Tryz.ntmps231 rfl (by kernel_rfl) (by simp) (by simp [push_cast]) ?_;simp (disch:=first|assumption|(push_cast<;>omega)|omega) only [go_sem,zwj]
noncomputable def cM_5:List V→Option PR:=zG (fun _:Unit=>[.int .u64 1,.int .u64 5]) (fun _=>True) (fun _=>.ret (.tup [.int .u64 0,.int .u64 5]))
theorem cM_5_ok:∀ args r,cM_5 args=some r→PCall Tryz.prog 231 args r:=zk fun _ _=>mul_5
theorem cM_5_eq:cM_5 [.int .u64 1,.int .u64 5]=some (.ret (.tup [.int .u64 0,.int .u64 5])):=zn (pat:=fun _:Unit=>[V.int .u64 1,.int .u64 5]) (fun _ _ _=>rfl) () trivial
set_option maxRecDepth 100000 in
set_option maxHeartbeats 1000000 in
theorem rep_5:PCall Tryz.prog 211 [.str [48],.int .i64 5] (.ret (.str (List.replicate 5 48))):=by
 refine PCall.walk (rs:=[.tmp 4]) [0,1,4,5,6,7,8,9,10,11,12,14,18,34,40,42,43,49,58,67,76,85,96,104,113] [] mixed (zg cM_5_ok (zg zaR zh)) (zf) zc4 Tryz.func211 rfl Tryz.ntmps211 rfl (by kernel_rfl) (by simp) (by simp [push_cast]) ?_;have hg:((([48]:List UInt8).getD 0 0).toNat:Int)=48:=rfl;have e1:((48:UInt8)==32)=false:=rfl;have e2:((48:UInt8)==45)=false:=rfl;have e3:((48:UInt8)==48)=true:=rfl;simp (disch:=first|assumption|(push_cast<;>omega)|omega) only [go_sem,cM_5_eq,hg,List.isPrefixOf_cons₂,List.isPrefixOf_nil_left,ipx,e1,e2,e3,Bool.false_and,Bool.true_and,Bool.and_true];rfl
theorem and_6:Go.bits .and .u64 6 4294967295=6:=by kernel_rfl
set_option maxRecDepth 100000 in
theorem mul64_6:PCall Tryz.prog 249 [.int .u64 1,.int .u64 6] (.ret (.tup [.int .u64 0,.int .u64 6])):=by
 refine PCall.walk (rs:=[.tmp 4,.tmp 5]) [0,1,4,5,6,7,8,9,10,11,12,13] [] mixed (zh) (zf) zdW Tryz.func249 rfl Tryz.ntmps249 rfl (by kernel_rfl) (by simp) (by simp [push_cast]) ?_;simp (disch:=first|assumption|(push_cast<;>omega)|omega) only [go_sem,and1,and0,and_6];kernel_rfl
noncomputable def cM64_6:List V→Option PR:=zG (fun _:Unit=>[.int .u64 1,.int .u64 6]) (fun _=>True) (fun _=>.ret (.tup [.int .u64 0,.int .u64 6]))
theorem zwg:∀ args r,cM64_6 args=some r→PCall Tryz.prog 249 args r:=zk fun _ _=>mul64_6
theorem zwh:cM64_6 [.int .u64 1,.int .u64 6]=some (.ret (.tup [.int .u64 0,.int .u64 6])):=zn (pat:=fun _:Unit=>[V.int .u64 1,.int .u64 6]) (fun _ _ _=>rfl) () trivial
theorem mul_6:PCall Tryz.prog 231 [.int .u64 1,.int .u64 6] (.ret (.tup [.int .u64 0,.int .u64 6])):=by
 refine PCall.walk (rs:=[.tmp 4,.tmp 5]) [0,1,4,5,6,7,8,9] [] mixed (zg zwg zh) (zf) zdX Tryz.func231 rfl Tryz.ntmps231 rfl (by kernel_rfl) (by simp) (by simp [push_cast]) ?_;simp (disch:=first|assumption|(push_cast<;>omega)|omega) only [go_sem,zwh]
noncomputable def cM_6:List V→Option PR:=zG (fun _:Unit=>[.int .u64 1,.int .u64 6]) (fun _=>True) (fun _=>.ret (.tup [.int .u64 0,.int .u64 6]))
theorem cM_6_ok:∀ args r,cM_6 args=some r→PCall Tryz.prog 231 args r:=zk fun _ _=>mul_6
theorem cM_6_eq:cM_6 [.int .u64 1,.int .u64 6]=some (.ret (.tup [.int .u64 0,.int .u64 6])):=zn (pat:=fun _:Unit=>[V.int .u64 1,.int .u64 6]) (fun _ _ _=>rfl) () trivial
set_option maxRecDepth 100000 in
set_option maxHeartbeats 1000000 in
theorem rep_6:PCall Tryz.prog 211 [.str [48],.int .i64 6] (.ret (.str (List.replicate 6 48))):=by
 refine PCall.walk (rs:=[.tmp 4]) [0,1,4,5,6,7,8,9,10,11,12,14,18,34,40,42,43,49,58,67,76,85,96,104,113] [] mixed (zg cM_6_ok (zg zaR zh)) (zf) zc4 Tryz.func211 rfl Tryz.ntmps211 rfl (by kernel_rfl) (by simp) (by simp [push_cast]) ?_;have hg:((([48]:List UInt8).getD 0 0).toNat:Int)=48:=rfl;have e1:((48:UInt8)==32)=false:=rfl;have e2:((48:UInt8)==45)=false:=rfl;have e3:((48:UInt8)==48)=true:=rfl;simp (disch:=first|assumption|(push_cast<;>omega)|omega) only [go_sem,cM_6_eq,hg,List.isPrefixOf_cons₂,List.isPrefixOf_nil_left,ipx,e1,e2,e3,Bool.false_and,Bool.true_and,Bool.and_true];rfl
theorem and_7:Go.bits .and .u64 7 4294967295=7:=by kernel_rfl
set_option maxRecDepth 100000 in
theorem mul64_7:PCall Tryz.prog 249 [.int .u64 1,.int .u64 7] (.ret (.tup [.int .u64 0,.int .u64 7])):=by
 refine PCall.walk (rs:=[.tmp 4,.tmp 5]) [0,1,4,5,6,7,8,9,10,11,12,13] [] mixed (zh) (zf) zdW Tryz.func249 rfl Tryz.ntmps249 rfl (by kernel_rfl) (by simp) (by simp [push_cast]) ?_;simp (disch:=first|assumption|(push_cast<;>omega)|omega) only [go_sem,and1,and0,and_7];kernel_rfl
noncomputable def cM64_7:List V→Option PR:=zG (fun _:Unit=>[.int .u64 1,.int .u64 7]) (fun _=>True) (fun _=>.ret (.tup [.int .u64 0,.int .u64 7]))
theorem zwe:∀ args r,cM64_7 args=some r→PCall Tryz.prog 249 args r:=zk fun _ _=>mul64_7
theorem zwf:cM64_7 [.int .u64 1,.int .u64 7]=some (.ret (.tup [.int .u64 0,.int .u64 7])):=zn (pat:=fun _:Unit=>[V.int .u64 1,.int .u64 7]) (fun _ _ _=>rfl) () trivial
theorem mul_7:PCall Tryz.prog 231 [.int .u64 1,.int .u64 7] (.ret (.tup [.int .u64 0,.int .u64 7])):=by
 refine PCall.walk (rs:=[.tmp 4,.tmp 5]) [0,1,4,5,6,7,8,9] [] mixed (zg zwe zh) (zf) zdX Tryz.func231 rfl Tryz.ntmps231 rfl (by kernel_rfl) (by simp) (by simp [push_cast]) ?_;simp (disch:=first|assumption|(push_cast<;>omega)|omega) only [go_sem,zwf]
noncomputable def cM_7:List V→Option PR:=zG (fun _:Unit=>[.int .u64 1,.int .u64 7]) (fun _=>True) (fun _=>.ret (.tup [.int .u64 0,.int .u64 7]))
theorem cM_7_ok:∀ args r,cM_7 args=some r→PCall Tryz.prog 231 args r:=zk fun _ _=>mul_7
theorem cM_7_eq:cM_7 [.int .u64 1,.int .u64 7]=some (.ret (.tup [.int .u64 0,.int .u64 7])):=zn (pat:=fun _:Unit=>[V.int .u64 1,.int .u64 7]) (fun _ _ _=>rfl) () trivial
set_option maxRecDepth 100000 in
set_option maxHeartbeats 1000000 in
theorem rep_7:PCall Tryz.prog 211 [.str [48],.int .i64 7] (.ret (.str (List.replicate 7 48))):=by
 refine PCall.walk (rs:=[.tmp 4]) [0,1,4,5,6,7,8,9,10,11,12,14,18,34,40,42,43,49,58,67,76,85,96,104,113] [] mixed (zg cM_7_ok (zg zaR zh)) (zf) zc4 Tryz.func211 rfl Tryz.ntmps211 rfl (by kernel_rfl) (by simp) (by simp [push_cast]) ?_;have hg:((([48]:List UInt8).getD 0 0).toNat:Int)=48:=rfl;have e1:((48:UInt8)==32)=false:=rfl;have e2:((48:UInt8)==45)=false:=rfl;have e3:((48:UInt8)==48)=true:=rfl;simp (disch:=first|assumption|(push_cast<;>omega)|omega) only [go_sem,cM_7_eq,hg,List.isPrefixOf_cons₂,List.isPrefixOf_nil_left,ipx,e1,e2,e3,Bool.false_and,Bool.true_and,Bool.and_true];rfl
theorem and_8:Go.bits .and .u64 8 4294967295=8:=by kernel_rfl
set_option maxRecDepth 100000 in
theorem mul64_8:PCall Tryz.prog 249 [.int .u64 1,.int .u64 8] (.ret (.tup [.int .u64 0,.int .u64 8])):=by
 refine PCall.walk (rs:=[.tmp 4,.tmp 5]) [0,1,4,5,6,7,8,9,10,11,12,13] [] mixed (zh) (zf) zdW Tryz.func249 rfl Tryz.ntmps249 rfl (by kernel_rfl) (by simp) (by simp [push_cast]) ?_;simp (disch:=first|assumption|(push_cast<;>omega)|omega) only [go_sem,and1,and0,and_8];kernel_rfl
noncomputable def cM64_8:List V→Option PR:=zG (fun _:Unit=>[.int .u64 1,.int .u64 8]) (fun _=>True) (fun _=>.ret (.tup [.int .u64 0,.int .u64 8]))
theorem zwc:∀ args r,cM64_8 args=some r→PCall Tryz.prog 249 args r:=zk fun _ _=>mul64_8
theorem zwd:cM64_8 [.int .u64 1,.int .u64 8]=some (.ret (.tup [.int .u64 0,.int .u64 8])):=zn (pat:=fun _:Unit=>[V.int .u64 1,.int .u64 8]) (fun _ _ _=>rfl) () trivial
theorem mul_8:PCall Tryz.prog 231 [.int .u64 1,.int .u64 8] (.ret (.tup [.int .u64 0,.int .u64 8])):=by
 refine PCall.walk (rs:=[.tmp 4,.tmp 5]) [0,1,4,5,6,7,8,9] [] mixed (zg zwc zh) (zf) zdX Tryz.func231 rfl Tryz.ntmps231 rfl (by kernel_rfl) (by simp) (by simp [push_cast]) ?_;simp (disch:=first|assumption|(push_cast<;>omega)|omega) only [go_sem,zwd]
noncomputable def cM_8:List V→Option PR:=zG (fun _:Unit=>[.int .u64 1,.int .u64 8]) (fun _=>True) (fun _=>.ret (.tup [.int .u64 0,.int .u64 8]))
theorem cM_8_ok:∀ args r,cM_8 args=some r→PCall Tryz.prog 231 args r:=zk fun _ _=>mul_8
theorem cM_8_eq:cM_8 [.int .u64 1,.int .u64 8]=some (.ret (.tup [.int .u64 0,.int .u64 8])):=zn (pat:=fun _:Unit=>[V.int .u64 1,.int .u64 8]) (fun _ _ _=>rfl) () trivial
set_option maxRecDepth 100000 in
set_option maxHeartbeats 1000000 in
theorem rep_8:PCall Tryz.prog 211 [.str [48],.int .i64 8] (.ret (.str (List.replicate 8 48))):=by
 refine PCall.walk (rs:=[.tmp 4]) [0,1,4,5,6,7,8,9,10,11,12,14,18,34,40,42,43,49,58,67,76,85,96,104,113] [] mixed (zg cM_8_ok (zg zaR zh)) (zf) zc4 Tryz.func211 rfl Tryz.ntmps211 rfl (by kernel_rfl) (by simp) (by simp [push_cast]) ?_;have hg:((([48]:List UInt8).getD 0 0).toNat:Int)=48:=rfl;have e1:((48:UInt8)==32)=false:=rfl;have e2:((48:UInt8)==45)=false:=rfl;have e3:((48:UInt8)==48)=true:=rfl;simp (disch:=first|assumption|(push_cast<;>omega)|omega) only [go_sem,cM_8_eq,hg,List.isPrefixOf_cons₂,List.isPrefixOf_nil_left,ipx,e1,e2,e3,Bool.false_and,Bool.true_and,Bool.and_true];rfl
theorem rep_0:PCall Tryz.prog 211 [.str [48],.int .i64 0] (.ret (.str (List.replicate 0 48))):=by
 refine PCall.walk (rs:=[.tmp 4]) [0,1,4,5,6,7,8,9,10,11,12,14,18,34,40,42,43,49,58,67,76,85,96,104,113] [] mixed (zh) (zf) zc4 Tryz.func211 rfl Tryz.ntmps211 rfl (by kernel_rfl) (by simp) (by simp [push_cast]) ?_;simp (disch:=first|assumption|(push_cast<;>omega)|omega) only [go_sem];rfl
theorem rep_1:PCall Tryz.prog 211 [.str [48],.int .i64 1] (.ret (.str (List.replicate 1 48))):=by
 refine PCall.walk (rs:=[.tmp 4]) [0,1,4,5,6,7,8,9,10,11,12,14,18,34,40,42,43,49,58,67,76,85,96,104,113] [] mixed (zh) (zf) zc4 Tryz.func211 rfl Tryz.ntmps211 rfl (by kernel_rfl) (by simp) (by simp [push_cast]) ?_;simp (disch:=first|assumption|(push_cast<;>omega)|omega) only [go_sem];rfl
theorem repOK:RepOK:=fun k hk=>by
 match k,hk with
 |0,_=>exact rep_0
 |1,_=>exact rep_1
 |2,_=>exact rep_2
 |3,_=>exact rep_3
 |4,_=>exact rep_4
 |5,_=>exact rep_5
 |6,_=>exact rep_6
 |7,_=>exact rep_7
 |8,_=>exact rep_8
 |k+9,h=>exact absurd h (by omega)
end Go.Proofs
