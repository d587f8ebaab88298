/- The set of all rules by which simp walks; loops; states told with less. -/
import Derived.Test.YthbimeikbkjnkaaGreatDoorPlCnt
set_option linter.all false
set_option maxHeartbeats 16000000
set_option maxRecDepth 100000
namespace Go.Ab
theorem Zq{p:Prop}(h:p:=by first|assumption|(push_cast<;>omega)|omega):p:=h
attribute [go_sem] axp_true zBv zpB zm7 zur zpD zlk zpA zus zpC
attribute [go_sem ↓] axs_seq zog zoj zqz zBt zof zi9 zoh zoi zja zol zqy zlQ zqA axs_cond axs_run axs_draw axr_nil axr_cons zBu axd_nil axd_cons zBE
attribute [go_sem ↓] axm_none axm_some axl_none axl_some axe_nil ztR zpn ztQ
attribute [go_sem] zmN lateA_f lateA_t lateB_f lateR_f lateR_t lateK_ok zpu zyJ zuj zyL zy4 zpJ zy3 zuQ isEn_box zuO zh9 zpI zy5 zuG zuI zuF zlp zuP zy2 znf zdj zfG zlr znd zls zi2 zuH zi4 zuM zi3 zuL zi1 zlq zh8 zuJ zuN zh7 zne zy6 zuK zpH zyZ zpG zyY zuE isLk_box zuC zh6 zpF zy0 zuu zuw zut zll zuD zyX znb zdi zfF zln zm8 zlo ziY zuv zi0 zuA ziZ zuz ziX zlm zh5 zux zuB zh4 zna zy1 zuy zpE zm9 zmO ziT zmM zk9 zpl zk7 zfx ziS zmP zkZ zk1 zkY zgI zk8 zmL zhT zcI zef zgK zhR zgL zga zk0 zgc zk5 zgb zk4 zf9 zgJ zfw zk2 zk6 zfv zhS zmQ zk3 ziR
attribute [go_sem] zsp zom axt_eq zBC zBD axf1_pan zBx zBy zBA zBB axf2_pan zBw axk_nil zsU zoH zBT accM_r accM_w List.isEmpty_nil List.isEmpty_cons wok_nil wok_cons znm guardV_t guardV_f zza zzb zpN ev_tmp ev_const ev_func zzr cv_bool cv_int cv_str cv_nilS cv_nilP cv_nilM cv_nilF cv_nilI cv_agg cv_tup cv1_bool cv1_int cv1_str cv1_nilS cv1_nilP cv1_nilM cv1_nilF cv1_nilI zyv zjE delE_nil zzF zwv zsO zyU zup trim_mk vc_bool vc_int vc_str vc_nilS vc_sl vc_fs vc_nilP vc_ptr vc_fp vc_nilM vc_map vc_fn vc_nilF vc_ifc vc_nilI vc_agg vc_tup vc_any vc_opt vv_bool vv_int vv_str vv_nilS vv_sl vv_fs vv_nilP vv_ptr vv_fp vv_nilM vv_map vv_fn vv_nilF vv_ifc vv_nilI vv_agg vv_tup vv_any vv_opt zbh zyw zjF put_mk putB_nil zmG zyQ zyR zjI new_mk next_mk mkSR_mk zsX zmj zsW zoP zwR zBn zvP zsY zoI ziJ zwS step1_un zkp zoM zhw zhv zkl zkm zkk zhy zhx zoL zko zwP zmk zwO zoO zgG zoK zsZ ztH zpc ztU zpo vals_nil zwq zzM zva callF_fn call1_eq nzs_nil nzs_cons nz_bool nz_int nz_str nz_nilS nz_sl nz_fs nz_nilP nz_ptr nz_fp nz_nilM nz_map nz_fn nz_nilF nz_ifc nz_nilI nz_agg nz_tup nz_any lend_sl zt7 zua zt5 zpt lend0_sl zyE zug zyF zyD lend0_fs lend0_fp ztx zxq zxo refs1_fs refs1_fp ztv ztw zxr refs1_sl zxp refs1_fn zxn ztu refs0_sl zxt zxu zxs ztA refs0_fs refs0_fp zyC zt9 zoT scalar_int ztc ztb zte ztd zBG zvV zBH atom_int atom_str zyB lend_int lend_str zyz lend_fs zyA lend_ptr lend_fp lend_map lend_fn lend_ifc zuf ztz zvn zp8 zz4 zz5 zvm zvk zvo zvp zz2 zz3 zyy zt4 zrH noΓ_at zrG noΔ_at ar_val ar_if bin_add bin_sub bin_mul bin_quo bin_rem bin_and bin_shl bin_shr bin_eql bin_neq bin_lss bin_leq bin_gtr bin_geq bin_sadd bin_seql bin_sneq bin_slss bin_sgtr bin_sgeq un_not un_neg max_int min_int pick_bl pick_lb pick_obl pick_olb cond_tl cond_fr zae zK zaj zmK zx5 zx4 zft zx3 load_ptr ldA_one ldA_agg load_fp ldF_one ldF_agg zwK stA_eq alloc_eq alK_some zqD zuh zui zwX zoQ zvZ zqC fiK_one fiK_agg zmx zrF faK_ptr faK_fp rl_index zsJ zoD whenE_eq whenI_eq rl_ia_sl iaS_some rl_ia_fs iaF_some iaC_some iaA_some ztr zoZ zxi zxh zmw zkA zoY slF_some zoX slS_some zo0 cvI_some ztm zxf zxe srS_some app_eq apK_some apS_nil apS_sl apL_some apM_some zBl buK_some rl_make zrl mkK_some zsy zsx zov rl_beql rl_bneq zkC zsj ar_bad nthV_nil any_bin pick_f zsQ zbR zzz zBM nats_nil zwA zzy strs_nil List.take_zero List.drop_nil List.take_nil Int.cast_ofNat_Int Int.natCast_zero List.length_take List.length_drop List.take_take List.drop_drop ok_bool ok_int ok_str ok_nilS ok_sl ok_fs ok_nilP ok_ptr ok_fp ok_nilM ok_map ok_fn ok_nilF ok_ifc ok_nilI ok_agg one_bool one_int one_str one_nilS one_sl one_fs one_nilP one_ptr one_fp one_nilM one_map one_fn one_nilF one_ifc one_nilI all_nil all_cons zvh zzX zzS zvc cells_sl cells_fs zvd zzU cells_fp zve zzW cells_fn zvg zzY zvf zzZ zmF zkH set_cons zkt nil_ptr nil_fp nil_fn box_eq bnd_none bnd_some zBp extract0 extract1 extract2 extract3 zwY zuY zzp zjO or_self or_true true_or or_false false_or implies_true imp_self forall_const Bool.not_eq_true' and_self decide_true decide_false cond_true cond_false Bool.true_and Bool.and_true Bool.false_and Bool.and_false Bool.true_or Bool.or_true Bool.false_or Bool.or_false Bool.not_true Bool.not_false true_and and_true false_and and_false ite_true ite_false if_true if_false ne_eq not_true_eq_false not_false_eq_true Bool.true_eq_false Bool.false_eq_true beq_self_eq_true Int.toNat_natCast Nat.zero_add Nat.add_zero Nat.mul_one Nat.one_mul Nat.sub_zero Nat.zero_le Nat.le_refl List.length_cons List.length_nil List.drop_zero List.nil_append List.append_nil List.cons_append Option.getD_some Option.getD_none Option.map_some Option.map_none
section
variable {C:Cfg}{P:Program}{K:Out→St→Prop}{st:List Fr}{ops:Array Oper}{env:Env}{h:Hp}
theorem axr_app(o:Oper)(r l:List Oper):AXr C P K st ops (List.append (o::r) l) env h=AXr C P K st ops (o::List.append r l) env h:=rfl
theorem axr_app0(l:List Oper):AXr C P K st ops (List.append [] l) env h=AXr C P K st ops l env h:=rfl
theorem axd_app(o:Oper)(r l:List Oper)(i:Nat)(acc:List (Nat×Foot)):AXd C P K st ops (List.append (o::r) l) i acc env h=AXd C P K st ops (o::List.append r l) i acc env h:=rfl
theorem axd_app0(l:List Oper)(i:Nat)(acc:List (Nat×Foot)):AXd C P K st ops (List.append [] l) i acc env h=AXd C P K st ops l i acc env h:=rfl
theorem axe_app(o:Oper)(r l:List Oper)(i0:Nat)(op0:Op)(j0 i:Nat)(acc:List (Nat×Foot))(k:Option LK):AXe C P K st ops i0 op0 j0 (List.append (o::r) l) i acc k env h=AXe C P K st ops i0 op0 j0 (o::List.append r l) i acc k env h:=rfl
theorem axe_app0(l:List Oper)(i0:Nat)(op0:Op)(j0 i:Nat)(acc:List (Nat×Foot))(k:Option LK):AXe C P K st ops i0 op0 j0 (List.append [] l) i acc k env h=AXe C P K st ops i0 op0 j0 l i acc k env h:=rfl
theorem zyK(o:Oper)(r l:List Oper)(j:Nat):ziV (List.append (o::r) l) j=ziV (o::List.append r l) j:=rfl
theorem zuk(l:List Oper)(j:Nat):ziV (List.append [] l) j=ziV l j:=rfl
theorem zyM(o:Oper)(r l:List Oper)(i:Nat)(x:Option Op)(j:Nat):ziW (List.append (o::r) l) i x j=ziW (o::List.append r l) i x j:=rfl
theorem zul(l:List Oper)(i:Nat)(x:Option Op)(j:Nat):ziW (List.append [] l) i x j=ziW l i x j:=rfl
theorem ztS(o:Oper)(r l:List Oper):zfy (List.append (o::r) l)=zfy (o::List.append r l):=rfl
theorem getO_app(o:Oper)(r l:List Oper)(i:Nat):getO (List.append (o::r) l) i=getO (o::List.append r l) i:=rfl
theorem zzd(l:List Oper)(i:Nat):getO (List.append [] l) i=getO l i:=rfl
end
attribute [go_sem ↓] axr_app axr_app0 axd_app axd_app0 axe_app axe_app0 zyK zuk zyM zul ztS getO_app zzd
def LoopK(C:Cfg)(ι:Type)(inv:ι→St)(p:ι→Prop)(m:ι→Nat)(i:ι)(K:Out→St→Prop):Out→St→Prop:=zgs (fun s'=>∃ j,p j∧m j<m i∧Sub C s' (inv j)) K
theorem AXs.loop {C:Cfg}{P:Program}{K:Out→St→Prop}{st:List Fr}{env:Env}{h:Hp}(hm:P.follows .mixedOrders=true)(hΓ:zdo P C.Γ)(hΔ:zba P C.Δ){x:Code}{ι:Type}(ienv:ι→Env)(ih:ι→Hp)(p:ι→Prop)(m:ι→Nat)(i0:ι)
 (hc:zar C.nt x=true) (h0:p i0) (hs:Sub C ⟨env,h⟩ ⟨ienv i0,ih i0⟩)
 (hb:∀ i,p i→AXs C P (LoopK C ι (fun i=>⟨ienv i,ih i⟩) p m i (unst C P K st)) [] x (ienv i) (ih i)):AXs C P K st (.loop x) env h:=
 AX.loop (fun i=>⟨ienv i,ih i⟩) p m i0 h0 hs fun i hp=>zc6 hm ⟨hΓ,hΔ⟩ x ⟨ienv i,ih i⟩ _ hc (hb i hp)
theorem zi {C:Cfg}{ι:Type}{inv:ι→St}{p:ι→Prop}{m:ι→Nat}{i:ι}{K:Out→St→Prop}{s:St}(j:ι)(h1:p j)(h2:m j<m i)(h3:Sub C s (inv j)):LoopK C ι inv p m i K .norm s:=⟨j,h1,h2,h3⟩
theorem zyt {C:Cfg}{P:Program}{ι:Type}{inv:ι→St}{p:ι→Prop}{m:ι→Nat}{i:ι}{K:Out→St→Prop}{st:List Fr}(env:Env)(h:Hp):LoopK C ι inv p m i (unst C P K st) .ret ⟨env,h⟩=AXs C P K st .ret env h:=rfl
theorem ztY {C:Cfg}{P:Program}{ι:Type}{inv:ι→St}{p:ι→Prop}{m:ι→Nat}{i:ι}{K:Out→St→Prop}{st:List Fr}(k:Nat)(env:Env)(h:Hp):LoopK C ι inv p m i (unst C P K st) (.exit k) ⟨env,h⟩=AXs C P K st (.exit k) env h:=rfl
theorem AXs.rounds {C:Cfg}{P:Program}{K:Out→St→Prop}{st:List Fr}{env:Env}{h:Hp}(hm:P.follows .mixedOrders=true)(hΓ:zdo P C.Γ)(hΔ:zba P C.Δ){x:Code}(n:List Unit)(hc:zar C.nt x=true)
 (hb:AXs C P (zop C P x (unst C P K st) n) [] x env h):AXs C P K st (.loop x) env h:=by
 rw [zf2]at hb
 have key:∀(n:List Unit) (s:St),AXf C P x s (zgr C P x (unst C P K st) n)→AXn C P x (unst C P K st) (n.length+1) s:=by
  intro n;induction n with
  |nil=>
   intro s hx;refine(zc6 hm ⟨hΓ,hΔ⟩ x s _ hc hx).mono fun o s' k=>?_;cases o with
   |norm=>exact k
   |_=>exact k
  |cons u n ih=>
   intro s hx;refine(zc6 hm ⟨hΓ,hΔ⟩ x s _ hc hx).mono fun o s' k=>?_;cases o with
   |norm=>exact ih s' k
   |_=>exact k
 exact AX.rounds (n.length+1) (key n ⟨env,h⟩ hb)
theorem zoU {C:Cfg}{P:Program}{x:Code}{K:Out→St→Prop}{st:List Fr}(u:Unit)(n:List Unit)(env:Env)(h:Hp):zop C P x (unst C P K st) (u::n) .norm ⟨env,h⟩=AXs C P (zop C P x (unst C P K st) n) [] x env h:=by rw [zf2,zgr];rfl
theorem zoV {C:Cfg}{P:Program}{x:Code}{K:Out→St→Prop}{st:List Fr}(n:List Unit)(i:Nat)(env:Env)(h:Hp):zop C P x (unst C P K st) n (.exit i) ⟨env,h⟩=AXs C P K st (.exit i) env h:=by rw [zf2];cases n<;>rw [zgr]<;>rfl
attribute [go_sem ↓] zoU zoV
attribute [go_sem] zsz lmK_mp rgK_mp rl_range rl_entry etK_it etM_mp zto zmh zkn zoJ zoN zwQ bsL_some ziN zBm zts znH ztn zwZ rl_grow gwK_some
attribute [go_sem] zyt ztY
theorem rn_bool {π:Nat→Nat}{N:Nat→Prop}(b:Bool)(v:V):Rn π N (.bool b) v↔v=.bool b:=⟨fun h=>by cases h;rfl,fun h=>by subst h;exact .same (.bool b)⟩
theorem rn_int {π:Nat→Nat}{N:Nat→Prop}(k:IntKind)(n:Int)(v:V):Rn π N (.int k n) v↔v=.int k n:=⟨fun h=>by cases h;rfl,fun h=>by subst h;exact .same (.int k n)⟩
theorem rn_str {π:Nat→Nat}{N:Nat→Prop}(l:List UInt8)(v:V):Rn π N (.str l) v↔v=.str l:=⟨fun h=>by cases h;rfl,fun h=>by subst h;exact .same (.str l)⟩
theorem rn_nilS {π:Nat→Nat}{N:Nat→Prop}(v:V):Rn π N .nilS v↔v=.nilS:=⟨fun h=>by cases h;rfl,fun h=>by subst h;exact .same .nilS⟩
theorem rn_nilP {π:Nat→Nat}{N:Nat→Prop}(v:V):Rn π N .nilP v↔v=.nilP:=⟨fun h=>by cases h;rfl,fun h=>by subst h;exact .same .nilP⟩
theorem rn_nilI {π:Nat→Nat}{N:Nat→Prop}(v:V):Rn π N .nilI v↔v=.nilI:=⟨fun h=>by cases h;rfl,fun h=>by subst h;exact .same .nilI⟩
theorem rn_fs {π:Nat→Nat}{N:Nat→Prop}(cs cs':List V)(n n':Nat):Rn π N (.fs cs n) (.fs cs' n')↔(cs'=cs∧n'=n)∧∀ x∈cs,Pure x:=
 ⟨fun h=>by cases h with|same h=>exact⟨⟨rfl,rfl⟩,(zf4 _ _).1 h⟩,fun h=>by obtain⟨⟨rfl,rfl⟩,h2⟩:=h;exact .same (.fs h2)⟩
theorem rn_nil0 {π:Nat→Nat}{N:Nat→Prop}(cs:List V)(n:Nat):Rn π N (.fs cs n) .nilS↔cs=[]∧n=0:=
 ⟨fun h=>by cases h with|nil0=>exact⟨rfl,rfl⟩,fun h=>by obtain⟨rfl,rfl⟩:=h;exact .nil0⟩
theorem rn_fp {π:Nat→Nat}{N:Nat→Prop}(cs:List V)(v:V):Rn π N (.fp cs) v↔v=.fp cs∧∀ x∈cs,Pure x:=⟨fun h=>by cases h with|same h=>exact⟨rfl,(zhM _).1 h⟩,fun h=>by obtain⟨rfl,h2⟩:=h;exact .same (.fp h2)⟩
theorem rn_sl {π:Nat→Nat}{N:Nat→Prop}(b o l s b' o' l' s':Nat)(k k':Option Nat):Rn π N (.sl b o l s k) (.sl b' o' l' s' k')↔N b∧b'=π b∧o'=o∧l'=l∧s'=s∧(k=none∨k=k'):=by
 constructor
 ·intro h;cases h with
  |same h=>cases h
  |sl hb hk=>exact⟨hb,rfl,rfl,rfl,rfl,hk⟩
 ·rintro⟨h1,rfl,rfl,rfl,rfl,h2⟩;exact .sl h1 h2
theorem rn_ptr {π:Nat→Nat}{N:Nat→Prop}(b o b' o':Nat):Rn π N (.ptr b o) (.ptr b' o')↔N b∧b'=π b∧o'=o:=by
 constructor
 ·intro h;cases h with
  |same h=>cases h
  |ptr hb=>exact⟨hb,rfl,rfl⟩
 ·rintro⟨h1,rfl,rfl⟩;exact .ptr h1
theorem rn_map {π:Nat→Nat}{N:Nat→Prop}(b b':Nat):Rn π N (.map b) (.map b')↔N b∧b'=π b:=by
 constructor
 ·intro h;cases h with
  |same h=>cases h
  |map hb=>exact⟨hb,rfl⟩
 ·rintro⟨h1,rfl⟩;exact .map h1
theorem lrel_nil {R:V→V→Prop}:LRel R [] []↔True:=⟨fun _=>trivial,fun _=>⟨rfl,fun i x y h=>by cases h⟩⟩
theorem zyr {R:V→V→Prop}(x y:V)(l r:List V):LRel R (x::l) (y::r)↔R x y∧LRel R l r:=by
 constructor
 ·intro h;exact⟨h.2 0 x y rfl rfl,by have:=h.1;simpa using this,fun i a b ha hb=>h.2 (i+1) a b ha hb⟩
 ·intro h;refine⟨by have:=h.2.1;simp [this],fun i a b ha hb=>?_⟩;cases i with
  |zero=>cases ha;cases hb;exact h.1
  |succ i=>exact h.2.2 i a b ha hb
theorem zt {π:Nat→Nat}{N:Nat→Prop}{l:List V}(h:∀ x∈l,Pure x):LRel (Rn π N) l l:=⟨rfl,fun i x y hx hy=>by rw [hx]at hy;cases hy;exact .same (h x (YR hx))⟩
theorem rn_fn {π:Nat→Nat}{N:Nat→Prop}(f f':FuncId)(cs cs':List V):Rn π N (.fn f cs) (.fn f' cs')↔f'=f∧LRel (Rn π N) cs cs':=by
 constructor
 ·intro h;cases h with
  |same h=>exact⟨rfl,zt ((zkI _ _).1 h)⟩
  |fn hl h=>exact⟨rfl,hl,h⟩
 ·rintro⟨rfl,h⟩;exact .fn h.1 h.2
theorem zxd {π:Nat→Nat}{N:Nat→Prop}(cs cs':List V):RnB π N (.cells cs) (.cells cs')↔LRel (Rn π N) cs cs':=⟨fun h=>by cases h;assumption,.cells⟩
theorem rnb_it {π:Nat→Nat}{N:Nat→Prop}(m m':Nat)(bs bs' l l':List Nat)(s s' t t':Nat)(c c':Option Nat):RnB π N (.it (some m) bs l s t c) (.it (some m') bs' l' s' t' c')↔N m∧m'=π m∧bs=bs'∧l=l'∧s=s'∧t=t'∧c=c':=
 ⟨fun h=>by cases h with|it h=>exact⟨h,rfl,rfl,rfl,rfl,rfl,rfl⟩,fun⟨h,h1,h2,h3,h4,h5,h6⟩=>by subst h1 h2 h3 h4 h5 h6;exact .it h⟩
theorem zfs(k:IntKind)(l:List Int):∀ x∈ints k l,Pure x:=by simp only [ints,Yab];rintro x ⟨n,_,rfl⟩;exact .int k n
theorem zat(k:IntKind)(l:List Nat):∀ x∈nats k l,Pure x:=by simp only [nats,Yab];rintro x ⟨n,_,rfl⟩;exact .int k n
theorem zM(l:List (List UInt8)):∀ x∈strs l,Pure x:=by simp only [strs,Yab];rintro x ⟨n,_,rfl⟩;exact .str n
theorem zxE(p:V→Prop):(∀ x∈([]:List V),p x)↔True:=by simp
theorem zjv(k:IntKind)(l:List Int):(∀ x∈ints k l,Pure x)↔True:=⟨fun _=>trivial,fun _=>zfs k l⟩
theorem zeF(k:IntKind)(l:List Nat):(∀ x∈nats k l,Pure x)↔True:=⟨fun _=>trivial,fun _=>zat k l⟩
theorem zju(l:List (List UInt8)):(∀ x∈strs l,Pure x)↔True:=⟨fun _=>trivial,fun _=>zM l⟩
attribute [go_sem] zjv zeF zju
theorem zuS {α:Type}(l:List α)(a b:Nat)(d:α):(l.drop a).getD b d=l.getD (a+b) d:=by simp [Ya]
theorem zuR {α:Type}(l:List α)(n i:Nat)(d:α)(h:i<n):(l.take n).getD i d=l.getD i d:=by simp [Ya,h]
theorem toNat_s1(n:Nat):((n:Int) - 1).toNat=n - 1:=by omega
theorem zq0(a b:Nat):((a:Int) - (b:Int)).toNat=a - b:=by omega
theorem toNat_s3(a b:Nat):((a:Int) - 1 - (b:Int)).toNat=a - 1 - b:=by omega
theorem toNat_a1(n:Nat):((n:Int)+1).toNat=n+1:=by omega
theorem toNat_a2(a b:Nat):((a:Int)+(b:Int)).toNat=a+b:=by omega
theorem zke(a b:Nat):((a:Int)+(b:Int)+1).toNat=a+b+1:=by omega
attribute [go_sem] zuS zuR toNat_s1 zq0 toNat_s3 toNat_a1 toNat_a2 zke
theorem zmX {π:Nat→Nat}{N:Nat→Prop}(k:IntKind)(l:List Int)(r:List V):LRel (Rn π N) (ints k l) r↔r=ints k l:=by
 constructor
 ·intro h;apply YaU;intro i;by_cases hi:i<(ints k l).length
  ·have hr:i<r.length:=by rw [←h.1];exact hi
   have:=h.2 i _ _ (Yb hi) (Yb hr);rw [Yb hi,Yb hr];simp only [ints,List.getElem_map]at this ⊢;rw [(rn_int _ _ _).1 this]
  ·have hr:¬i<r.length:=by rw [←h.1];exact hi
   simp [Ys (Y6 hi),Ys (Y6 hr)]
 ·rintro rfl;exact zt (zfs k l)
theorem zyq {π:Nat→Nat}{N:Nat→Prop}(k:IntKind)(l:List Nat)(r:List V):LRel (Rn π N) (nats k l) r↔r=nats k l:=by
 have:nats k l=ints k (l.map fun n:Nat=>(n:Int)):=by simp [nats,ints]
 rw [this];exact zmX k _ r
theorem zyp {π:Nat→Nat}{N:Nat→Prop}(l:List (List UInt8))(r:List V):LRel (Rn π N) (strs l) r↔r=strs l:=by
 constructor
 ·intro h;apply YaU;intro i;by_cases hi:i<(strs l).length
  ·have hr:i<r.length:=by rw [←h.1];exact hi
   have:=h.2 i _ _ (Yb hi) (Yb hr);rw [Yb hi,Yb hr];simp only [strs,List.getElem_map]at this ⊢;rw [(rn_str _ _).1 this]
  ·have hr:¬i<r.length:=by rw [←h.1];exact hi
   simp [Ys (Y6 hi),Ys (Y6 hr)]
 ·rintro rfl;exact zt (zM l)
def piL:List (Nat×Nat)→Nat→Nat
 |[],b=>b
 |(k,o)::r,b=>bif b==k then o else piL r b
theorem zxK(b:Nat):piL [] b=b:=rfl
theorem zra(k o:Nat)(r:List (Nat×Nat))(b:Nat):piL ((k,o)::r) b=bif b==k then o else piL r b:=rfl
def subE(π:Nat→Nat)(N:Nat→Prop)(env:Env):Env→Prop
 |[]=>True
 |(t,v)::r=>Rn π N v (zd0 env t)∧subE π N env r
theorem subE_nil(π:Nat→Nat)(N:Nat→Prop)(env:Env):subE π N env []=True:=rfl
theorem zwI(π:Nat→Nat)(N:Nat→Prop)(env:Env)(t:Nat)(v:V)(r:Env):subE π N env ((t,v)::r)=(Rn π N v (zd0 env t)∧subE π N env r):=rfl
def zsS(o:Option Blk)(k:Blk→Prop):Prop:=match o with|some x=>k x|none=>False
theorem zsR(x:Blk)(k:Blk→Prop):zsS (some x) k=k x:=rfl
def subH(π:Nat→Nat)(n:Nat)(bs:List (Nat×Blk)):List (Nat×Blk)→Prop
 |[]=>True
 |(b,x)::r=>b<n∧zsS (zas bs (π b)) (fun y=>RnB π (· <n) x y)∧subH π n bs r
theorem subH_nil(π:Nat→Nat)(n:Nat)(bs:List (Nat×Blk)):subH π n bs []=True:=rfl
theorem zwG(π:Nat→Nat)(n:Nat)(bs:List (Nat×Blk))(b:Nat)(x:Blk)(r:List (Nat×Blk)):subH π n bs ((b,x)::r)=(b<n∧zsS (zas bs (π b)) (fun y=>RnB π (· <n) x y)∧subH π n bs r):=rfl
theorem zmv {π:Nat→Nat}{N:Nat→Prop}{v:V}(h:Rn π N v .any):v=.any:=by cases h<;>rfl
theorem zwH {π:Nat→Nat}{N:Nat→Prop}{env:Env}:∀ {env':Env},subE π N env env'→∀ t v',env'.lookup t=some v'→v'=.any∨∃ v,env.lookup t=some v∧Rn π N v' v
 |[],_,t,v',h=>by cases h
 |(k,u)::r,hs,t,v',h=>by
  rw [Yq]at h;by_cases hk:t=k
  ·subst hk;simp only [Yaz,Yv]at h;subst h;have h1:=hs.1;rw [←zdC]at h1;cases e:env.lookup t with
   |some v=>rw [e]at h1;exact .inr ⟨v,rfl,h1⟩
   |none=>rw [e]at h1;exact .inl (zmv h1)
  ·have hb:(t==k)=false:=by simp [hk]
   simp only [hb]at h;exact zwH hs.2 t v' h
theorem zwF {π:Nat→Nat}{n:Nat}{bs:List (Nat×Blk)}:∀ {bs':List (Nat×Blk)},subH π n bs bs'→∀ b x',bs'.lookup b=some x'→b<n∧∃ x,zas bs (π b)=some x∧RnB π (· <n) x' x
 |[],_,b,x',h=>by cases h
 |(k,u)::r,hs,b,x',h=>by
  rw [Yq]at h;by_cases hk:b=k
  ·subst hk;simp only [Yaz,Yv]at h;subst h;obtain⟨h1,h2,_⟩:=hs;refine⟨h1,?_⟩;cases e:zas bs (π b)with
   |none=>rw [e]at h2;exact h2.elim
   |some y=>rw [e]at h2;exact⟨y,rfl,h2⟩
  ·have hb:(b==k)=false:=by simp [hk]
   simp only [hb]at h;exact zwF hs.2.2 b x' h
def keysB:List (Nat×Blk)→List Nat
 |[]=>[]
 |(k,_)::r=>k::keysB r
theorem zyS:keysB []=[]:=rfl
theorem zuo(k:Nat)(x:Blk)(r:List (Nat×Blk)):keysB ((k,x)::r)=k::keysB r:=rfl
theorem zfD:∀ {bs:List (Nat×Blk)} {b:Nat} {x:Blk},bs.lookup b=some x→b∈keysB bs
 |[],_,_,h=>by cases h
 |(k,u)::r,b,x,h=>by
  rw [Yq]at h;by_cases hk:b=k
  ·subst hk;simp [keysB]
  ·have hb:(b==k)=false:=by simp [hk]
   simp only [hb]at h;exact Yz _ (zfD h)
def piOK(pl:List (Nat×Nat))(nx:Nat)(ks:List Nat):Bool:=
 pl.all (fun p=>decide (nx≤p.1)&&decide (nx≤p.2))&&ks.all fun a=>ks.all fun b=>a==b|| !(piL pl a==piL pl b)
theorem zxJ {nx:Nat}:∀ {pl:List (Nat×Nat)},(pl.all fun p=>decide (nx≤p.1)&&decide (nx≤p.2))=true→∀ b,if b<nx then piL pl b=b else nx≤piL pl b
 |[],_,b=>by
  rw [zxK];split
  ·rfl
  ·rename_i h;exact Y6 h
 |(k,o)::r,h,b=>by
  simp only [YbO,Yc,Yh]at h;have ih:=zxJ h.2 b;rw [zra];by_cases hb:b=k
  ·subst hb;have h1:nx≤b:=h.1.1;rw [Yd (Nat.not_lt.2 h1)];simpa using h.1.2
  ·have:(b==k)=false:=by simp [hb]
   rw [this];exact ih
theorem Sub.of {C:Cfg}{env env':Env}{bs bs':List (Nat×Blk)}{n n':Nat}(pl:List (Nat×Nat))(hk:piOK pl C.nx (keysB bs')=true)(he:subE (piL pl) (· <n') env env')(hh:subH (piL pl) n' bs bs')(hn:C.nx≤n')
 (hel:∀ b,b<C.nx→b∉C.Wm→zas bs' b=zas bs b):Sub C ⟨env,⟨bs,n⟩⟩ ⟨env',⟨bs',n'⟩⟩:=by
 simp only [piOK,Yc]at hk
 refine⟨piL pl,zwH he,fun b x' e=>?_,zxJ hk.1,fun b b' x x' e e' hp=>?_,fun b hb hw=>?_,hn⟩
 ·obtain⟨h1,x,h2,h3⟩:=zwF hh b x' e
  exact⟨h1,x,by rw [zbh];exact h2,h3⟩
 ·have:=Yg.1 (Yg.1 hk.2 b (zfD e)) b' (zfD e')
  simp only [Yae,beq_iff_eq,Yaa,YcF,ne_eq]at this
  rcases this with h|h
  ·exact h
  ·exact absurd hp h
 ·rw [zbh,zbh];exact hel b hb hw
theorem Sub.oD {C:Cfg}{env env':Env}{bs bs':List (Nat×Blk)}{n n':Nat}(pl:List (Nat×Nat))(hk:piOK pl C.nx (keysB bs')=true)(he:subE (piL pl) (· <n') env env')(hh:subH (piL pl) n' bs bs')(hn:C.nx≤n':=by decide)
 (hel:∀ b,b<C.nx→b∉C.Wm→zas bs' b=zas bs b:=by intro b hb hw;rcases b with _|_|b<;>first|rfl|exact absurd (Yah.2 rfl) hw|exact absurd hb (by simp)):Sub C ⟨env,⟨bs,n⟩⟩ ⟨env',⟨bs',n'⟩⟩:=Sub.of pl hk he hh hn hel
theorem Sub.oE {C:Cfg}{env env':Env}{bs bs':List (Nat×Blk)}{n n':Nat}(pl:List (Nat×Nat))(hk:piOK pl C.nx (keysB bs')=true)(he:subE (piL pl) (· <n') env env')(hh:subH (piL pl) n' bs bs')(hn:C.nx≤n':=by decide)
 (hel:∀ b,b<C.nx→b∉C.Wm→zas bs' b=zas bs b:=by intro b hb hw;exact absurd (YaB.1 hb) (by simpa using hw)):Sub C ⟨env,⟨bs,n⟩⟩ ⟨env',⟨bs',n'⟩⟩:=Sub.of pl hk he hh hn hel
theorem Sub.of0 {C:Cfg}{env env':Env}{bs bs':List (Nat×Blk)}{n n':Nat}(pl:List (Nat×Nat))(h0:C.nx=0)(hk:piOK pl 0 (keysB bs')=true)(he:subE (piL pl) (· <n') env env')(hh:subH (piL pl) n' bs bs'):Sub C ⟨env,⟨bs,n⟩⟩ ⟨env',⟨bs',n'⟩⟩:=
 Sub.of pl (by rw [h0];exact hk) he hh (by omega) (fun b hb=>by omega)
attribute [go_sem] rn_bool rn_int rn_str rn_nilS rn_nilP rn_nilI rn_fs rn_nil0 rn_fp rn_sl rn_ptr rn_map rn_fn lrel_nil zyr zmX zyq zyp zxd rnb_it zxK zra subE_nil zwI zsR subH_nil zwG zyS zuo
theorem Frz.pureSl {H:Hp}{b off len sz:Nat}{kc:Option Nat}{cs cs':List V}(hg:H.get b=some (.cells cs))(hl:off+len*sz≤cs.length)(he:cs'=(cs.drop off).take (len*sz))(hp:∀ x∈cs',Pure x):Frz H (.sl b off len sz kc) (.fs cs' len):=by subst he;refine .sl hg hl (by simp;omega) fun i x y hx hy=>?_;rw [hx]at hy;cases hy;exact .pure (hp x (YR hx))
theorem frz_tup {H:Hp}{a a':V}{r r':List V}(h:Frz H a a')(hr:Frz H (.tup r) (.tup r')):Frz H (.tup (a::r)) (.tup (a'::r')):=by
 have hr':LRel (fun x y=>Frz H x y) r r':=by
  cases hr with
  |pure h=>refine⟨rfl,fun i x y hx hy=>?_⟩;rw [hx]at hy;cases hy;exact .pure ((zgX _).1 h x (YR hx))
  |tup hl h=>exact⟨hl.symm,h⟩
 refine .tup (by simp [hr'.1]) fun i x y hx hy=>?_;cases i with
 |zero=>cases hx;cases hy;exact h
 |succ i=>exact hr'.2 i x y hx hy
theorem frz_tup0 {H:Hp}:Frz H (.tup []) (.tup []):=.pure (.tup fun _ h=>by cases h)
theorem resL_nil(P:Program)(s:St):resL P s []=(True,[]):=rfl
theorem resL_tmp(P:Program)(env:Env)(h:Hp)(t:Tmp)(r:List ResultVar):resL P ⟨env,h⟩ (.tmp t::r)=((resL P ⟨env,h⟩ r).1,zd0 env t::(resL P ⟨env,h⟩ r).2):=by rw [resL, ←zdC]
theorem zxl(P:Program)(env:Env)(h:Hp)(c:Tmp)(t:TypeId)(r:List ResultVar):resL P ⟨env,h⟩ (.cell c t::r)=((zcr P t (zd0 env c) h).pre∧(resL P ⟨env,h⟩ r).1,(zcr P t (zd0 env c) h).v::(resL P ⟨env,h⟩ r).2):=by rw [resL, ←zdC]
theorem tupV_one(v:V):tupV [v]=v:=rfl
theorem tupV_nil:tupV []=.tup []:=rfl
theorem zwu(a b:V)(r:List V):tupV (a::b::r)=.tup (a::b::r):=rfl
attribute [go_sem] resL_nil resL_tmp zxl tupV_one tupV_nil zwu
def fzE(F:Nat→Prop)(n:Nat)(H:Hp)(env:Env):Env→Prop
 |[]=>True
 |(t,v)::r=>(Rn id (fun b=>¬F b∧b<n) v (zd0 env t)∨FrzF H F (zd0 env t) v)∧fzE F n H env r
theorem fzE_nil(F:Nat→Prop)(n:Nat)(H:Hp)(env:Env):fzE F n H env []=True:=rfl
theorem fzE_cons(F:Nat→Prop)(n:Nat)(H:Hp)(env:Env)(t:Nat)(v:V)(r:Env):fzE F n H env ((t,v)::r)=((Rn id (fun b=>¬F b∧b<n) v (zd0 env t)∨FrzF H F (zd0 env t) v)∧fzE F n H env r):=rfl
theorem znn {F:Nat→Prop}{n:Nat}{H:Hp}{env:Env}:∀ {env':Env},fzE F n H env env'→∀ t v',env'.lookup t=some v'→v'=.any∨∃ v,env.lookup t=some v∧(Rn id (fun b=>¬F b∧b<n) v' v∨FrzF H F v v')
 |[],_,t,v',h=>by cases h
 |(k,u)::r,hs,t,v',h=>by
  rw [Yq]at h;by_cases hk:t=k
  ·subst hk;simp only [Yaz,Yv]at h;subst h;have h1:=hs.1;rw [←zdC]at h1;cases e:env.lookup t with
   |some v=>rw [e]at h1;exact .inr ⟨v,rfl,h1⟩
   |none=>
    rw [e]at h1;simp only [YcS]at h1;rcases h1 with h1|h1
    ·exact .inl (zmv h1)
    ·cases h1;exact .inl rfl
  ·have hb:(t==k)=false:=by simp [hk]
   simp only [hb]at h;exact znn hs.2 t v' h
def fzH(F:Nat→Prop)(n:Nat)(bs:List (Nat×Blk)):List (Nat×Blk)→Prop
 |[]=>True
 |(b,x)::r=>b<n∧¬F b∧zsS (zas bs b) (fun y=>RnB id (fun b=>¬F b∧b<n) x y)∧fzH F n bs r
theorem fzH_nil(F:Nat→Prop)(n:Nat)(bs:List (Nat×Blk)):fzH F n bs []=True:=rfl
theorem fzH_cons(F:Nat→Prop)(n:Nat)(bs:List (Nat×Blk))(b:Nat)(x:Blk)(r:List (Nat×Blk)):fzH F n bs ((b,x)::r)=(b<n∧¬F b∧zsS (zas bs b) (fun y=>RnB id (fun b=>¬F b∧b<n) x y)∧fzH F n bs r):=rfl
theorem fzH_ok {F:Nat→Prop}{n:Nat}{bs:List (Nat×Blk)}:∀ {bs':List (Nat×Blk)},fzH F n bs bs'→∀ b x',bs'.lookup b=some x'→b<n∧¬F b∧∃ x,zas bs b=some x∧RnB id (fun b=>¬F b∧b<n) x' x
 |[],_,b,x',h=>by cases h
 |(k,u)::r,hs,b,x',h=>by
  rw [Yq]at h;by_cases hk:b=k
  ·subst hk;simp only [Yaz,Yv]at h;subst h;obtain⟨h1,h0,h2,_⟩:=hs;refine⟨h1,h0,?_⟩;cases e:zas bs b with
   |none=>rw [e]at h2;exact h2.elim
   |some y=>rw [e]at h2;exact⟨y,rfl,h2⟩
  ·have hb:(b==k)=false:=by simp [hk]
   simp only [hb]at h;exact fzH_ok hs.2.2.2 b x' h
theorem AXa.fz {C:Cfg}{P:Program}{K:Out→St→Prop}{st:List Fr}{y:Code}{env env':Env}{bs bs':List (Nat×Blk)}{n n':Nat}(fl:List Nat)(hW:C.Wm=[])(h0:C.nx=0)(hl:(fl.all fun b=>(zas bs b).isSome)=true)
 (he:fzE (· ∈fl) n' ⟨bs,n⟩ env env') (hh:fzH (· ∈fl) n' bs bs') (hx:AXa C P K st y env' ⟨bs',n'⟩):AXa C P K st y env ⟨bs,n⟩:=by
 refine AXa.freeze (F:=(· ∈fl)) hW ⟨znn he,fun b x' e=>?_,fun b hb=>⟨by omega,?_⟩,fun b hb=>by omega,by rw [h0];exact Yk _⟩ hx
 ·obtain⟨h1,h2,x,h3,h4⟩:=fzH_ok hh b x' e
  exact⟨h1,h2,x,by rw [zbh];exact h3,h4⟩
 ·have:=Yg.1 hl b hb
  rw [Yav]at this
  rw [zbh];exact this
theorem FrzF.slp {F:Nat→Prop}{b off len sz n:Nat}{kc:Option Nat}{cs' cs:List V}{bs:List (Nat×Blk)}{m:Nat}(hF:F b)(hg:zas bs b=some (.cells cs))(hn:n=len)(hl:off+len*sz≤cs.length)(he:cs'=(cs.drop off).take (len*sz))(hp:∀ x∈cs',Pure x):FrzF ⟨bs,m⟩ F (.sl b off len sz kc) (.fs cs' n):=by subst hn;subst he;refine .sl hF (by rw [zbh];exact hg) hl (by simp;omega) fun i x y hx hy=>?_;rw [hx]at hy;cases hy;exact .pure (hp x (YR hx))
attribute [go_sem] fzE_nil fzE_cons fzH_nil fzH_cons
theorem AXc.introP {C:Cfg}{P:Program}{K:Out→St→Prop}{st:List Fr}{x y:Code}{env:Env}{h:Hp}{p:Prop} [Decidable p](h1:p→AXs C P K st x env h)(h2:¬p→AXs C P K st y env h):AXc C P K st x y (.bool (decide p)) env h:=
 AXc.intro (fun e=>h1 (YaD e)) (fun e=>h2 (of_decide_eq_false e))
theorem AXc.introN {C:Cfg}{P:Program}{K:Out→St→Prop}{st:List Fr}{x y:Code}{env:Env}{h:Hp}{p:Prop} [Decidable p](h1:¬p→AXs C P K st x env h)(h2:p→AXs C P K st y env h):AXc C P K st x y (.bool (!decide p)) env h:=
 AXc.intro (fun e=>h1 (by simpa using e)) (fun e=>h2 (by simpa using e))
theorem wrap_i64(n:Int)(h1: -9223372036854775808≤n)(h2:n≤9223372036854775807):IntKind.wrap .i64 n=n:=by simp [IntKind.wrap,IntKind.bits,IntKind.signed];omega
theorem wrap_u64(n:Int)(h1:0≤n)(h2:n≤18446744073709551615):IntKind.wrap .u64 n=n:=by simp [IntKind.wrap,IntKind.bits,IntKind.signed];omega
theorem wrap_u8(n:Int)(h1:0≤n)(h2:n≤255):IntKind.wrap .u8 n=n:=by simp [IntKind.wrap,IntKind.bits,IntKind.signed];omega
theorem tdiv_nn(a b:Int)(h:0≤a):a.tdiv b=a / b:=Int.tdiv_eq_ediv_of_nonneg h
theorem tmod_nn(a b:Int)(h:0≤a):a.tmod b=a % b:=Int.tmod_eq_emod_of_nonneg h
attribute [go_sem] tdiv_nn tmod_nn wrap_i64 wrap_u64 wrap_u8
noncomputable def zu {α:Type}(pat:α→List V)(cond:α→Prop)(res:α→PR):List V→Option PR:=fun args=>
 open Classical in if h:∃ x,pat x=args∧cond x then some (res (Classical.choose h))else none
theorem zo {α:Type}{pat:α→List V}{cond:α→Prop}{res:α→PR}(hinj:∀ x y,pat x=pat y→x=y)(x:α)(hc:cond x):zu pat cond res (pat x)=some (res x):=by have h:∃ y,pat y=pat x∧cond y:=⟨x,rfl,hc⟩;unfold zu;rw [dif_pos h,hinj _ _ (YaZ h).1]
theorem zn {P:Program}{f:FuncId}{α:Type}{pat:α→List V}{cond:α→Prop}{res:α→PR}(h:∀ x,cond x→PCall P f (pat x) (res x)):∀ args r,zu pat cond res args=some r→PCall P f args r:=by
 intro args r e;unfold zu at e;split at e
 ·rename_i hx;have hs:=YaZ hx;cases e;have:=h _ hs.2;rw [hs.1]at this;exact this
 ·cases e
theorem zax {k:IntKind}{l r:List Nat}(h:nats k l=nats k r):l=r:=by
 induction l generalizing r with
 |nil=>cases r with
  |nil=>rfl
  |cons y r=>simp [nats]at h
 |cons x l ih=>
  cases r with
  |nil=>simp [nats]at h
  |cons y r=>simp only [nats,YM,Yu,V.int.injEq,Yan]at h;rw [ih h.2,show x=y by omega]
theorem zlu {k:IntKind}{l r:List Int}(h:ints k l=ints k r):l=r:=by
 induction l generalizing r with
 |nil=>cases r with
  |nil=>rfl
  |cons y r=>simp [ints]at h
 |cons x l ih=>
  cases r with
  |nil=>simp [ints]at h
  |cons y r=>simp only [ints,YM,Yu,V.int.injEq,Yan]at h;rw [ih h.2,h.1]
theorem zam {l r:List (List UInt8)}(h:strs l=strs r):l=r:=by
 induction l generalizing r with
 |nil=>cases r with
  |nil=>rfl
  |cons y r=>simp [strs]at h
 |cons x l ih=>
  cases r with
  |nil=>simp [strs]at h
  |cons y r=>simp only [strs,YM,Yu,V.str.injEq]at h;rw [ih h.2,h.1]
attribute [go_sem] Option.some_or Option.none_or
def EndR(P:Program)(rs:List ResultVar)(r:PR):Out→St→Prop
 | .norm,s| .ret,s=>(resL P s rs).1∧∃ v,r=.ret v∧Frz s.h (tupV (resL P s rs).2) v
 | .panic v0,s=>∃ v,r=.panic v∧Frz s.h v0 v
 |_,_=>False
theorem endR_ret(P:Program)(rs:List ResultVar)(v:V)(env:Env)(h:Hp):EndR P rs (.ret v) .ret ⟨env,h⟩=((resL P ⟨env,h⟩ rs).1∧Frz h (tupV (resL P ⟨env,h⟩ rs).2) v):=by
 apply propext;constructor
 ·rintro⟨h1,v',h2,h3⟩;cases h2;exact⟨h1,h3⟩
 ·rintro⟨h1,h3⟩;exact⟨h1,v,rfl,h3⟩
theorem zuZ(P:Program)(rs:List ResultVar)(v v0:V)(env:Env)(h:Hp):EndR P rs (.panic v) (.panic v0) ⟨env,h⟩=Frz h v0 v:=by
 apply propext;constructor
 ·rintro⟨v',h2,h3⟩;cases h2;exact h3
 ·intro h3;exact⟨v,rfl,h3⟩
theorem PCall.walk {P:Program}{nt:Nat}(keep:List Nat)(fz:List Nat){Γ:FuncId→List V→Option PR}{Δ:FuncId→List V→Hp→Option AR}{f:FuncId}{fn:Func}{c:Code}{args:List V}{r:PR}{rs:List ResultVar}
 (hm:P.follows .mixedOrders=true) (hΓ:zdo P Γ) (hΔ:zba P Δ) (hc:zk P f) (hf:P.funcs[f]? =some fn) (hb:fn.body=some c) (hnt:fn.ntmps=nt) (hrs:fn.results.toList=rs) (hok:zar nt c=true) (hle:args.length≤nt) (hpure:∀ x∈args,Pure x)
 (h:AXs ⟨nt,zbq keep,Γ,Δ,0,[],zbq fz⟩ P (EndR P rs r) [] c (zbX 0 args) ⟨[],0⟩):PCall P f args r:=by
 refine PCall.of (C:=⟨nt,zbq keep,Γ,Δ,0,[],zbq fz⟩) hc hf hb hnt hle hpure rfl rfl ?_
 refine AX.mono (zc6 (C:=⟨nt,zbq keep,Γ,Δ,0,[],zbq fz⟩) hm ⟨hΓ,hΔ⟩ c _ _ hok h) fun o s hk=>?_
 subst hrs
 cases o with
 |norm=>exact hk
 |ret=>exact hk
 |exit i=>exact hk.elim
 |panic v=>exact hk
theorem PCall.wD {P:Program}{nt:Nat}(keep:List Nat)(fz:List Nat){Γ:FuncId→List V→Option PR}{Δ:FuncId→List V→Hp→Option AR}{f:FuncId}{fn:Func}{c:Code}{args:List V}{r:PR}{rs:List ResultVar}
 (hm:P.follows .mixedOrders=true) (hΓ:zdo P Γ) (hΔ:zba P Δ) (hc:zk P f) (hf:P.funcs[f]? =some fn) (hb:fn.body=some c) (hnt:fn.ntmps=nt) (hrs:fn.results.toList=rs)
 (h:AXs ⟨nt,zbq keep,Γ,Δ,0,[],zbq fz⟩ P (EndR P rs r) [] c (zbX 0 args) ⟨[],0⟩)
 (hok:zar nt c=true:=by kernel_rfl) (hle:args.length≤nt:=by simp) (hpure:∀ x∈args,Pure x:=by simp [push_cast]):PCall P f args r:=PCall.walk (rs:=rs) keep fz hm hΓ hΔ hc hf hb hnt hrs hok hle hpure h
theorem zvX(i:Nat):zbX i []=[]:=rfl
theorem zqB(i:Nat)(a:V)(r:List V):zbX i (a::r)=(i,a)::zbX (i+1) r:=rfl
theorem frz_bool(H:Hp)(b b':Bool):Frz H (.bool b) (.bool b')↔b=b':=⟨fun h=>by cases h;rfl,fun h=>by subst h;exact .pure (.bool b)⟩
theorem frz_int(H:Hp)(k k':IntKind)(n n':Int):Frz H (.int k n) (.int k' n')↔k=k'∧n=n':=⟨fun h=>by cases h;exact⟨rfl,rfl⟩,fun h=>by obtain⟨rfl,rfl⟩:=h;exact .pure (.int k n)⟩
theorem frz_str(H:Hp)(l l':List UInt8):Frz H (.str l) (.str l')↔l=l':=⟨fun h=>by cases h;rfl,fun h=>by subst h;exact .pure (.str l)⟩
theorem frz_nilS(H:Hp):Frz H .nilS .nilS↔True:=⟨fun _=>trivial,fun _=>.pure .nilS⟩
theorem frz_nil0(H:Hp)(cs:List V)(n:Nat):Frz H .nilS (.fs cs n)↔cs=[]∧n=0:=⟨fun h=>by cases h;exact⟨rfl,rfl⟩,fun h=>by obtain⟨rfl,rfl⟩:=h;exact .nil0⟩
theorem frz_fs(H:Hp)(cs cs':List V)(n n':Nat):Frz H (.fs cs n) (.fs cs' n')↔(cs=cs'∧n=n')∧∀ x∈cs,Pure x:=
 ⟨fun h=>by cases h with|pure h=>exact⟨⟨rfl,rfl⟩,(zf4 _ _).1 h⟩,fun h=>by obtain⟨⟨rfl,rfl⟩,h2⟩:=h;exact .pure (.fs h2)⟩
theorem zpQ(H:Hp):Frz H (.tup []) (.tup [])↔True:=⟨fun _=>trivial,fun _=>frz_tup0⟩
theorem zno(H:Hp)(a a':V)(r r':List V):Frz H (.tup (a::r)) (.tup (a'::r'))↔Frz H a a'∧Frz H (.tup r) (.tup r'):=by
 constructor
 ·intro h;cases h with
  |pure h=>have:=(zgX _).1 h;exact⟨.pure (this a (by simp)),.pure (.tup fun x hx=>this x (by simp [hx]))⟩
  |tup hl h=>exact⟨h 0 a a' rfl rfl,.tup (by simpa using hl) fun i x y hx hy=>h (i+1) x y hx hy⟩
 ·rintro⟨h1,h2⟩;exact frz_tup h1 h2
theorem Frz.slp {b off len sz n:Nat}{kc:Option Nat}{cs' cs:List V}{bs:List (Nat×Blk)}{m:Nat}(hg:zas bs b=some (.cells cs))(hn:n=len)(hl:off+len*sz≤cs.length)(he:cs'=(cs.drop off).take (len*sz))(hp:∀ x∈cs',Pure x):Frz ⟨bs,m⟩ (.sl b off len sz kc) (.fs cs' n):=by subst hn;exact Frz.pureSl (by rw [zbh];exact hg) hl he hp
attribute [go_sem] endR_ret zuZ zvX zqB frz_bool frz_int frz_str frz_nilS frz_nil0 frz_fs zpQ zno
attribute [push_cast] zQ zcd zT zf4 zhM zkI zX zgX zeb zhK zeF zjv zju zxE
theorem sdC {p q:Prop}(k:q)(h:p:=by first|omega|exact⟨by omega,by omega⟩|kernel_rfl|rfl|assumption|(intro h;exact⟨h,by omega,by omega⟩)|(intro h;exact⟨h,by omega⟩)):p∧q:=⟨h,k⟩
end Go.Ab
