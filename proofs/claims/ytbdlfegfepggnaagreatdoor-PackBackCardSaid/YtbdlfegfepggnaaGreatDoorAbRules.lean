/- The set of all rules by which simp walks; loops; states told with less. -/
import Derived.Test.YtbdlfegfepggnaaGreatDoorPlCnt
set_option linter.all false
set_option maxHeartbeats 16000000
set_option maxRecDepth 100000
noncomputable section
namespace Go.Ab
def Zq{p:Prop}(h:p:=by first|assumption|(push_cast<;>omega)|omega):p:=h
attribute [go_sem] axp_true zye znV zlX zr6 znX zka znU zr7 znW
attribute [go_sem ↓] axs_seq zmI zmL zoF zyc zmH zic zmJ zmK zid zmM zoE zkF zoG axs_cond axs_run axs_draw axr_nil axr_cons zyd axd_nil axd_cons zyp
attribute [go_sem ↓] axm_none axm_some axl_none axl_some axe_nil zrH znJ zrG znI
attribute [go_sem] zlG lateA_f lateA_t lateB_f lateR_f lateR_t lateK_ok znS zvO zr0 zvQ zv8 zn3 zv7 zsv isEn_box zst zhn zn2 zv9 zsl zsn zsk zkf zsu zv6 zl5 zcO ze1 zkh zl3 zki zh7 zsm zh9 zsr zh8 zsq zh6 zkg zhm zso zss zhl zl4 zwa zsp zn1 zv3 zn0 zv2 zsj isLk_box zsh zhk znZ zv4 zr9 zsb zr8 zkb zsi zv1 zl1 zcN ze0 zkd zlY zke zh3 zsa zh5 zsf zh4 zse zh2 zkc zhj zsc zsg zhi zl0 zv5 zsd znY zlZ zlH zhZ zlF zj3 znH zj1 zeV zhY zlI zjT zjV zjS zfX zj2 zlE zg8 zcg zdE zfZ zg6 zf0 zfx zjU zfz zjZ zfy zjY zfw zfY zeU zjW zj0 zeT zg7 zlJ zjX zhX
attribute [go_sem] zqy zmP axt_eq zyn zyo zyi zyj zmN zmO zyl zym zyg axk_nil zyf zq2 zna zyF accM_r accM_w List.isEmpty_nil List.isEmpty_cons wok_nil wok_cons zl9 guardV_t guardV_f zwg zwh zn6 ev_tmp ev_const ev_func zww cv_bool cv_int cv_str cv_nilS cv_nilP cv_nilM cv_nilF cv_nilI cv_agg cv_tup cv1_bool cv1_int cv1_str cv1_nilS cv1_nilP cv1_nilM cv1_nilF cv1_nilI zvz ziE delE_nil zwG ztK zqX zvZ zr4 trim_mk vc_bool vc_int vc_str vc_nilS vc_sl vc_fs vc_nilP vc_ptr vc_fp vc_nilM vc_map vc_fn vc_nilF vc_ifc vc_nilI vc_agg vc_tup vc_any vc_opt vv_bool vv_int vv_str vv_nilS vv_sl vv_fs vv_nilP vv_ptr vv_fp vv_nilM vv_map vv_fn vv_nilF vv_ifc vv_nilI vv_agg vv_tup vv_any vv_opt zbF zvA ziF put_mk putB_nil zlx zvV zvW ziJ new_mk next_mk mkSR_mk zq5 zk8 zq4 znh ztY zx1 ztc zq7 znb zhP ztZ step1_un zjo zgE zgD zjk zjl zjj zgG zgF znf zjn ztX zk9 ztW zq6 ztV zng zfU znd zq8 zry znz zrK znK vals_nil ztG zwU zsK callF_fn call1_eq nzs_nil nzs_cons nz_bool nz_int nz_str nz_nilS nz_sl nz_fs nz_nilP nz_ptr nz_fp nz_nilM nz_map nz_fn nz_nilF nz_ifc nz_nilI nz_agg nz_tup nz_any lend_sl zrT lendS_ty zrV zrS znQ lend0_sl zvK zrY zvL zvJ lend0_fs lend0_fp zrq zux zuv refs1_fs refs1_fp zro zrp zuy refs1_sl zuw refs1_fn zuu zrn refs0_sl zuA zuC zuz zru refs0_fs refs0_fp zvI zrU znl scalar_int zrf zre zrh zrg zyr ztf zys atom_int atom_str zvH lend_int lend_str zvF lend_fs zvG lend_ptr lend_fp lend_map lend_ifc zrX zrt zsW zoq zxa zxb zsV zsU zsX zw8 zw9 zvE zrR zp2 noΓ_at zp1 noΔ_at ar_val ar_if bin_add bin_sub bin_mul bin_quo bin_rem bin_and bin_or bin_xor bin_shl bin_shr bin_eql bin_neq bin_lss bin_leq bin_gtr bin_geq bin_sadd bin_seql bin_sneq bin_slss bin_sgeq un_not un_neg un_xor max_int max3_int min_int pick_bl pick_lb pick_obl pick_olb cond_tl cond_fr zpM zb9 zcm zlD zvd zvb zva load_ptr ldA_one ldA_agg load_fp ldF_one ldF_agg ztT stA_eq alloc_eq alK_some zoL ziG zrZ zt5 zni zti zoK fiK_one fiK_agg zls zp0 faK_ptr faK_fp rl_index zqR zm3 whenE_eq whenI_eq rl_ia_sl iaS_some rl_ia_fs iaF_some zup zpV iaA_some zrl znq zuo zun zlr znp slF_some zno slS_some znr cvI_some zri zum srS_some app_eq apK_some apS_nil apS_sl apS_slk apL_some apM_some zoJ zhI ziH znj zxY buK_some rl_make zpD mkK_some zqF rl_beql zjC zqp ar_bad nthV_nil any_bin pick_f zqZ zcd zwC zyx nats_nil zeL zwB zyw strs_nil List.take_zero List.drop_nil List.take_nil Int.cast_ofNat_Int Int.natCast_zero List.length_take List.length_drop List.take_take List.drop_drop ok_bool ok_int ok_str ok_nilS ok_sl ok_fs ok_nilP ok_ptr ok_fp ok_nilM ok_map ok_fn ok_nilF ok_ifc ok_nilI ok_agg one_bool one_int one_str one_nilS one_sl one_fs one_nilP one_ptr one_fp one_nilM one_map one_fn one_nilF one_ifc one_nilI all_nil all_cons zsS zw3 zwY zsN cells_sl cells_fs zsO zw0 cells_fp zsP zw2 cells_fn zsR zw4 zsQ zw5 zlw zjI set_cons zju nil_ptr nil_fp nil_fn box_eq bnd_none bnd_some zx3 extract0 extract1 extract2 extract3 zt7 zsB zwq ziO or_self or_true true_or or_false false_or implies_true imp_self forall_const Bool.not_eq_true' and_self decide_true decide_false cond_true cond_false Bool.true_and Bool.and_true Bool.false_and Bool.and_false Bool.true_or Bool.or_true Bool.false_or Bool.or_false Bool.not_true Bool.not_false true_and and_true false_and and_false ite_true ite_false if_true if_false ne_eq not_true_eq_false not_false_eq_true Bool.true_eq_false Bool.false_eq_true beq_self_eq_true Int.toNat_natCast Nat.zero_add Nat.add_zero Nat.mul_one Nat.one_mul Nat.sub_zero Nat.zero_le Nat.le_refl List.length_cons List.length_nil List.drop_zero List.nil_append List.append_nil List.cons_append Option.getD_some Option.getD_none Option.map_some Option.map_none
section
variable {C:Cfg}{P:Program}{K:Out→St→Prop}{st:List Fr}{ops:Array Oper}{env:Env}{h:Hp}
theorem axr_app(o:Oper)(r l:List Oper):AXr C P K st ops (List.append (o::r) l) env h=AXr C P K st ops (o::List.append r l) env h:=rfl
theorem axr_app0(l:List Oper):AXr C P K st ops (List.append [] l) env h=AXr C P K st ops l env h:=rfl
theorem axd_app(o:Oper)(r l:List Oper)(i:Nat)(acc:List (Nat×Foot)):AXd C P K st ops (List.append (o::r) l) i acc env h=AXd C P K st ops (o::List.append r l) i acc env h:=rfl
theorem axd_app0(l:List Oper)(i:Nat)(acc:List (Nat×Foot)):AXd C P K st ops (List.append [] l) i acc env h=AXd C P K st ops l i acc env h:=rfl
theorem axe_app(o:Oper)(r l:List Oper)(i0:Nat)(op0:Op)(j0 i:Nat)(acc:List (Nat×Foot))(k:Option LK):AXe C P K st ops i0 op0 j0 (List.append (o::r) l) i acc k env h=AXe C P K st ops i0 op0 j0 (o::List.append r l) i acc k env h:=rfl
theorem axe_app0(l:List Oper)(i0:Nat)(op0:Op)(j0 i:Nat)(acc:List (Nat×Foot))(k:Option LK):AXe C P K st ops i0 op0 j0 (List.append [] l) i acc k env h=AXe C P K st ops i0 op0 j0 l i acc k env h:=rfl
theorem zvP(o:Oper)(r l:List Oper)(j:Nat):zh0 (List.append (o::r) l) j=zh0 (o::List.append r l) j:=rfl
theorem zr1(l:List Oper)(j:Nat):zh0 (List.append [] l) j=zh0 l j:=rfl
theorem zvR(o:Oper)(r l:List Oper)(i:Nat)(x:Option Op)(j:Nat):zh1 (List.append (o::r) l) i x j=zh1 (o::List.append r l) i x j:=rfl
theorem zr2(l:List Oper)(i:Nat)(x:Option Op)(j:Nat):zh1 (List.append [] l) i x j=zh1 l i x j:=rfl
theorem zrI(o:Oper)(r l:List Oper):zeW (List.append (o::r) l)=zeW (o::List.append r l):=rfl
theorem getO_app(o:Oper)(r l:List Oper)(i:Nat):getO (List.append (o::r) l) i=getO (o::List.append r l) i:=rfl
theorem zwk(l:List Oper)(i:Nat):getO (List.append [] l) i=getO l i:=rfl
end
attribute [go_sem ↓] axr_app axr_app0 axd_app axd_app0 axe_app axe_app0 zvP zr1 zvR zr2 zrI getO_app zwk
def LoopK(C:Cfg)(ι:Type)(inv:ι→St)(p:ι→Prop)(m:ι→Nat)(i:ι)(K:Out→St→Prop):Out→St→Prop:=zkP (fun s'=>∃j,p j∧m j<m i∧Sub C s' (inv j)) K
def AXs.loop {C:Cfg}{P:Program}{K:Out→St→Prop}{st:List Fr}{env:Env}{h:Hp}(hm:P.follows .mixedOrders=true)(hΓ:zcY P C.Γ)(hΔ:zay P C.Δ){x:Code}{ι:Type}(ienv:ι→Env)(ih:ι→Hp)(p:ι→Prop)(m:ι→Nat)(i0:ι) (hc:za0 C.nt x=true) (h0:p i0) (hs:Sub C ⟨env,h⟩ ⟨ienv i0,ih i0⟩) (hb:∀i,p i→AXs C P (LoopK C ι (fun i=>⟨ienv i,ih i⟩) p m i (unst C P K st)) [] x (ienv i) (ih i)):AXs C P K st (.loop x) env h:=
 AX.loop (fun i=>⟨ienv i,ih i⟩) p m i0 h0 hs fun i hp=>zdq hm ⟨hΓ,hΔ⟩ x ⟨ienv i,ih i⟩ _ hc (hb i hp)
def zi {C:Cfg}{ι:Type}{inv:ι→St}{p:ι→Prop}{m:ι→Nat}{i:ι}{K:Out→St→Prop}{s:St}(j:ι)(h1:p j)(h2:m j<m i)(h3:Sub C s (inv j)):LoopK C ι inv p m i K .norm s:=⟨j,h1,h2,h3⟩
theorem zvy {C:Cfg}{P:Program}{ι:Type}{inv:ι→St}{p:ι→Prop}{m:ι→Nat}{i:ι}{K:Out→St→Prop}{st:List Fr}(env:Env)(h:Hp):LoopK C ι inv p m i (unst C P K st) .ret ⟨env,h⟩=AXs C P K st .ret env h:=rfl
theorem zrN {C:Cfg}{P:Program}{ι:Type}{inv:ι→St}{p:ι→Prop}{m:ι→Nat}{i:ι}{K:Out→St→Prop}{st:List Fr}(k:Nat)(env:Env)(h:Hp):LoopK C ι inv p m i (unst C P K st) (.exit k) ⟨env,h⟩=AXs C P K st (.exit k) env h:=rfl
attribute [go_sem] zqG lmK_mp zrm rgK_mp etK_it zrj zk7 zjm zhQ znc zne zqI xnK_go xnK_end rnb_si bsL_some zhU zhS zx0 zw7 zt8 gwK_some
attribute [go_sem] zvy zrN
def rn_bool {π:Nat→Nat}{N:Nat→Prop}(b:Bool)(v:V):Rn π N (.bool b) v↔v=.bool b:=⟨fun h=>by cases h;rfl,fun h=>by subst h;exact .same (.bool b)⟩
def rn_int {π:Nat→Nat}{N:Nat→Prop}(k:IntKind)(n:Int)(v:V):Rn π N (.int k n) v↔v=.int k n:=⟨fun h=>by cases h;rfl,fun h=>by subst h;exact .same (.int k n)⟩
def rn_str {π:Nat→Nat}{N:Nat→Prop}(l:ZL)(v:V):Rn π N (.str l) v↔v=.str l:=⟨fun h=>by cases h;rfl,fun h=>by subst h;exact .same (.str l)⟩
def rn_nilS {π:Nat→Nat}{N:Nat→Prop}(v:V):Rn π N .nilS v↔v=.nilS:=⟨fun h=>by cases h;rfl,fun h=>by subst h;exact .same .nilS⟩
def rn_nilP {π:Nat→Nat}{N:Nat→Prop}(v:V):Rn π N .nilP v↔v=.nilP:=⟨fun h=>by cases h;rfl,fun h=>by subst h;exact .same .nilP⟩
def rn_nilM {π:Nat→Nat}{N:Nat→Prop}(v:V):Rn π N .nilM v↔v=.nilM:=⟨fun h=>by cases h;rfl,fun h=>by subst h;exact .same .nilM⟩
def rn_nilI {π:Nat→Nat}{N:Nat→Prop}(v:V):Rn π N .nilI v↔v=.nilI:=⟨fun h=>by cases h;rfl,fun h=>by subst h;exact .same .nilI⟩
def rn_fs {π:Nat→Nat}{N:Nat→Prop}(cs cs':ZA)(n n':Nat):Rn π N (.fs cs n) (.fs cs' n')↔(cs'=cs∧n'=n)∧∀x∈cs,Pure x:=
 ⟨fun h=>by cases h with|same h=>exact⟨⟨rfl,rfl⟩,(zfu _ _).1 h⟩,fun h=>by obtain⟨⟨rfl,rfl⟩,h2⟩:=h;exact .same (.fs h2)⟩
def rn_nil0 {π:Nat→Nat}{N:Nat→Prop}(cs:ZA)(n:Nat):Rn π N (.fs cs n) .nilS↔cs=[]∧n=0:=
 ⟨fun h=>by cases h with|nil0=>exact⟨rfl,rfl⟩,fun h=>by obtain⟨rfl,rfl⟩:=h;exact .nil0⟩
def rn_fp {π:Nat→Nat}{N:Nat→Prop}(cs:ZA)(v:V):Rn π N (.fp cs) v↔v=.fp cs∧∀x∈cs,Pure x:=⟨fun h=>by cases h with|same h=>exact⟨rfl,(zgZ _).1 h⟩,fun h=>by obtain⟨rfl,h2⟩:=h;exact .same (.fp h2)⟩
def rn_sl {π:Nat→Nat}{N:Nat→Prop}(b o l s b' o' l' s':Nat)(k k':Option Nat):Rn π N (.sl b o l s k) (.sl b' o' l' s' k')↔N b∧b'=π b∧o'=o∧l'=l∧s'=s∧(k=none∨k=k'):=by
 constructor
 ·intro h;cases h with
  |same h=>cases h
  |sl hb hk=>exact⟨hb,rfl,rfl,rfl,rfl,hk⟩
 rintro⟨h1,rfl,rfl,rfl,rfl,h2⟩;exact .sl h1 h2
def rn_ptr {π:Nat→Nat}{N:Nat→Prop}(b o b' o':Nat):Rn π N (.ptr b o) (.ptr b' o')↔N b∧b'=π b∧o'=o:=by
 constructor
 ·intro h;cases h with
  |same h=>cases h
  |ptr hb=>exact⟨hb,rfl,rfl⟩
 rintro⟨h1,rfl,rfl⟩;exact .ptr h1
def rn_map {π:Nat→Nat}{N:Nat→Prop}(b b':Nat):Rn π N (.map b) (.map b')↔N b∧b'=π b:=by
 constructor
 ·intro h;cases h with
  |same h=>cases h
  |map hb=>exact⟨hb,rfl⟩
 rintro⟨h1,rfl⟩;exact .map h1
def lrel_nil {R:V→V→Prop}:LRel R [] []↔True:=⟨fun _=>trivial,fun _=>⟨rfl,fun i x y h=>by cases h⟩⟩
def zvx {R:V→V→Prop}(x y:V)(l r:ZA):LRel R (x::l) (y::r)↔R x y∧LRel R l r:=by
 constructor
 ·intro h;exact⟨h.2 0 x y rfl rfl,by have:=h.1;simpa using this,fun i a b ha hb=>h.2 (i+1) a b ha hb⟩
 intro h;refine⟨by have:=h.2.1;simp[this],fun i a b ha hb=>?_⟩;cases i with
 |zero=>cases ha;cases hb;exact h.1
 |succ i=>exact h.2.2 i a b ha hb
def zB {π:Nat→Nat}{N:Nat→Prop}{l:ZA}(h:∀x∈l,Pure x):LRel (Rn π N) l l:=⟨rfl,fun i x y hx hy=>by rw[hx]at hy;cases hy;exact .same (h x (YV hx))⟩
def rn_fn {π:Nat→Nat}{N:Nat→Prop}(f f':FuncId)(cs cs':ZA):Rn π N (.fn f cs) (.fn f' cs')↔f'=f∧LRel (Rn π N) cs cs':=by
 constructor
 ·intro h;cases h with
  |same h=>exact⟨rfl,zB ((zcx _ _).1 h)⟩
  |fn hl h=>exact⟨rfl,hl,h⟩
 rintro⟨rfl,h⟩;exact .fn h.1 h.2
def rn_agg {π:Nat→Nat}{N:Nat→Prop}(cs cs':ZA):Rn π N (.agg cs) (.agg cs')↔LRel (Rn π N) cs cs':=by
 constructor
 ·intro h;cases h with
  |same h=>exact zB ((zac _).1 h)
  |agg hl h=>exact⟨hl,h⟩
 intro h;exact .agg h.1 h.2
def zul {π:Nat→Nat}{N:Nat→Prop}(cs cs':ZA):RnB π N (.cells cs) (.cells cs')↔LRel (Rn π N) cs cs':=⟨fun h=>by cases h;assumption,.cells⟩
def zly(k:IntKind)(l:List Int):∀x∈ints k l,Pure x:=by simp only[ints,YZ];rintro x ⟨n,_,rfl⟩;exact .int k n
def zaG(k:IntKind)(l:ZN):∀x∈nats k l,Pure x:=by simp only[nats,YZ];rintro x ⟨n,_,rfl⟩;exact .int k n
def zaP(l:List ZL):∀x∈strs l,Pure x:=by simp only[strs,YZ];rintro x ⟨n,_,rfl⟩;exact .str n
def zuQ(p:V→Prop):(∀x∈([]:ZA),p x)↔True:=Zs
def ziw(k:IntKind)(l:List Int):(∀x∈ints k l,Pure x)↔True:=⟨fun _=>trivial,fun _=>zly k l⟩
def zd2(k:IntKind)(l:ZN):(∀x∈nats k l,Pure x)↔True:=⟨fun _=>trivial,fun _=>zaG k l⟩
def ziv(l:List ZL):(∀x∈strs l,Pure x)↔True:=⟨fun _=>trivial,fun _=>zaP l⟩
attribute [go_sem] ziw zd2 ziv
def zsx {α:Type}(l:List α)(a b:Nat)(d:α):(l.drop a).getD b d=l.getD (a+b) d:=by simp[Ya]
def zsw {α:Type}(l:List α)(n i:Nat)(d:α)(h:i<n):(l.take n).getD i d=l.getD i d:=by simp[Ya,h]
def toNat_s1(n:Nat):((n:Int)-1).toNat=n-1:=Zo
def zpe(a b:Nat):((a:Int)-(b:Int)).toNat=a-b:=Zo
def toNat_s3(a b:Nat):((a:Int)-1-(b:Int)).toNat=a-1-b:=Zo
def toNat_a1(n:Nat):((n:Int)+1).toNat=n+1:=Zo
def toNat_a2(a b:Nat):((a:Int)+(b:Int)).toNat=a+b:=Zo
def zpf(a b:Nat):((a:Int)+(b:Int)+1).toNat=a+b+1:=Zo
attribute [go_sem] zsx zsw toNat_s1 zpe toNat_s3 toNat_a1 toNat_a2 zpf
def zlP {π:Nat→Nat}{N:Nat→Prop}(k:IntKind)(l:List Int)(r:ZA):LRel (Rn π N) (ints k l) r↔r=ints k l:=by
 constructor
 ·intro h;apply YaI;intro i;by_cases hi:i<(ints k l).length
  ·have hr:i<r.length:=by rw[←h.1];exact hi
   have:=h.2 i _ _ (Yb hi) (Yb hr);rw[Yb hi,Yb hr];simp only[ints,List.getElem_map]at this ⊢;rw[(rn_int _ _ _).1 this]
  have hr:¬i<r.length:=by rw[←h.1];exact hi
  simp[Yo (Y3 hi),Yo (Y3 hr)]
 rintro rfl;exact zB (zly k l)
def zvw {π:Nat→Nat}{N:Nat→Prop}(k:IntKind)(l:ZN)(r:ZA):LRel (Rn π N) (nats k l) r↔r=nats k l:=by
 have:nats k l=ints k (l.map fun n:Nat=>(n:Int)):=by simp[nats,ints]
 rw[this];exact zlP k _ r
def zvv {π:Nat→Nat}{N:Nat→Prop}(l:List ZL)(r:ZA):LRel (Rn π N) (strs l) r↔r=strs l:=by
 constructor
 ·intro h;apply YaI;intro i;by_cases hi:i<(strs l).length
  ·have hr:i<r.length:=by rw[←h.1];exact hi
   have:=h.2 i _ _ (Yb hi) (Yb hr);rw[Yb hi,Yb hr];simp only[strs,List.getElem_map]at this ⊢;rw[(rn_str _ _).1 this]
  have hr:¬i<r.length:=by rw[←h.1];exact hi
  simp[Yo (Y3 hi),Yo (Y3 hr)]
 rintro rfl;exact zB (zaP l)
def piL:List (Nat×Nat)→Nat→Nat
 |[],b=>b
 |(k,o)::r,b=>bif b==k then o else piL r b
theorem zny(b:Nat):piL [] b=b:=rfl
theorem zjL(k o:Nat)(r:List (Nat×Nat))(b:Nat):piL ((k,o)::r) b=bif b==k then o else piL r b:=rfl
def subE(π:Nat→Nat)(N:Nat→Prop)(env:Env):Env→Prop
 |[]=>True
 |(t,v)::r=>Rn π N v (zdG env t)∧subE π N env r
theorem subE_nil(π:Nat→Nat)(N:Nat→Prop)(env:Env):subE π N env []=True:=rfl
theorem ztS(π:Nat→Nat)(N:Nat→Prop)(env:Env)(t:Nat)(v:V)(r:Env):subE π N env ((t,v)::r)=(Rn π N v (zdG env t)∧subE π N env r):=rfl
def ztR(o:Option Blk)(k:Blk→Prop):Prop:=match o with|some x=>k x|none=>False
theorem zq1(x:Blk)(k:Blk→Prop):ztR (some x) k=k x:=rfl
def subH(π:Nat→Nat)(n:Nat)(bs:ZH):ZH→Prop
 |[]=>True
 |(b,x)::r=>b<n∧ztR (zG bs (π b)) (fun y=>RnB π (· <n) x y)∧subH π n bs r
theorem subH_nil(π:Nat→Nat)(n:Nat)(bs:ZH):subH π n bs []=True:=rfl
theorem ztQ(π:Nat→Nat)(n:Nat)(bs:ZH)(b:Nat)(x:Blk)(r:ZH):subH π n bs ((b,x)::r)=(b<n∧ztR (zG bs (π b)) (fun y=>RnB π (· <n) x y)∧subH π n bs r):=rfl
def zlq {π:Nat→Nat}{N:Nat→Prop}{v:V}(h:Rn π N v .any):v=.any:=by cases h<;>rfl
def zm8 {π:Nat→Nat}{N:Nat→Prop}{env:Env}:∀ {env':Env},subE π N env env'→∀t v',env'.lookup t=some v'→v'=.any∨∃v,env.lookup t=some v∧Rn π N v' v
 |[],_,t,v',h=>by cases h
 |(k,u)::r,hs,t,v',h=>by
  rw[YE]at h;by_cases hk:t=k
  ·subst hk;simp only[YaU,Yx]at h;subst h;have h1:=hs.1;rw[←zdb]at h1;cases e:env.lookup t with
   |some v=>rw[e]at h1;exact .inr ⟨v,rfl,h1⟩
   |none=>rw[e]at h1;exact .inl (zlq h1)
  have hb:(t==k)=false:=by simp[hk]
  simp only[hb]at h;exact zm8 hs.2 t v' h
def zm7 {π:Nat→Nat}{n:Nat}{bs:ZH}:∀ {bs':ZH},subH π n bs bs'→∀b x',bs'.lookup b=some x'→b<n∧∃x,zG bs (π b)=some x∧RnB π (· <n) x' x
 |[],_,b,x',h=>by cases h
 |(k,u)::r,hs,b,x',h=>by
  rw[YE]at h;by_cases hk:b=k
  ·subst hk;simp only[YaU,Yx]at h;subst h;obtain⟨h1,h2,_⟩:=hs;refine⟨h1,?_⟩;cases e:zG bs (π b)with
   |none=>rw[e]at h2;exact h2.elim
   |some y=>rw[e]at h2;exact⟨y,rfl,h2⟩
  have hb:(b==k)=false:=by simp[hk]
  simp only[hb]at h;exact zm7 hs.2.2 b x' h
def keysB:ZH→ZN
 |[]=>[]
 |(k,_)::r=>k::keysB r
theorem zvX:keysB []=[]:=rfl
theorem zr3(k:Nat)(x:Blk)(r:ZH):keysB ((k,x)::r)=k::keysB r:=rfl
def zcL:∀ {bs:ZH} {b:Nat} {x:Blk},bs.lookup b=some x→b∈keysB bs
 |[],_,_,h=>by cases h
 |(k,u)::r,b,x,h=>by
  rw[YE]at h;by_cases hk:b=k
  ·subst hk;simp[keysB]
  have hb:(b==k)=false:=by simp[hk]
  simp only[hb]at h;exact Yaa _ (zcL h)
def piOK(pl:List (Nat×Nat))(nx:Nat)(ks:ZN):Bool:=
 pl.all (fun p=>decide (nx≤p.1)&&decide (nx≤p.2))&&ks.all fun a=>ks.all fun b=>a==b|| !(piL pl a==piL pl b)
def zuY {nx:Nat}:∀ {pl:List (Nat×Nat)},(pl.all fun p=>decide (nx≤p.1)&&decide (nx≤p.2))=true→∀b,if b<nx then piL pl b=b else nx≤piL pl b
 |[],_,b=>by
  rw[zny];split
  ·rfl
  rename_i h;exact Y3 h
 |(k,o)::r,h,b=>by
  simp only[Ybg,Yj,Yn]at h;have ih:=zuY h.2 b;rw[zjL];by_cases hb:b=k
  ·subst hb;have h1:nx≤b:=h.1.1;rw[Ye (Nat.not_lt.2 h1)];simpa using h.1.2
  have:(b==k)=false:=by simp[hb]
  rw[this];exact ih
def Sub.of {C:Cfg}{env env':Env}{bs bs':ZH}{n n':Nat}(pl:List (Nat×Nat))(hk:piOK pl C.nx (keysB bs')=true)(he:subE (piL pl) (· <n') env env')(hh:subH (piL pl) n' bs bs')(hn:C.nx≤n') (hel:∀b,b<C.nx→b∉C.Wm→zG bs' b=zG bs b):Sub C ⟨env,⟨bs,n⟩⟩ ⟨env',⟨bs',n'⟩⟩:=by
 simp only[piOK,Yj]at hk;refine⟨piL pl,zm8 he,fun b x' e=>?_,fun b=>?_,fun b b' x x' e e' hp=>?_,fun b hb hw=>?_,hn⟩
 ·obtain⟨h1,x,h2,h3⟩:=zm7 hh b x' e;exact⟨h1,x,by rw[zbF];exact h2,h3⟩
 ·have:=zuY hk.1 b;split
  ·rename_i h;rwa [Yi h]at this
  rename_i h;rw[Ye h]at this;exact .inl this
 ·have:=Yl.1 (Yl.1 hk.2 b (zcL e)) b' (zcL e');simp only[Yaj,beq_iff_eq,YaV,Ybq,ne_eq]at this;rcases this with h|h
  ·exact h
  exact absurd hp h
 rw[zbF,zbF];exact hel b hb hw
def Sub.oD {C:Cfg}{env env':Env}{bs bs':ZH}{n n':Nat}(pl:List (Nat×Nat))(hk:piOK pl C.nx (keysB bs')=true)(he:subE (piL pl) (· <n') env env')(hh:subH (piL pl) n' bs bs')(hn:C.nx≤n':=by decide) (hel:∀b,b<C.nx→b∉C.Wm→zG bs' b=zG bs b:=by intro b hb hw;rcases b with _|_|b<;>first|rfl|exact absurd (YB.2 rfl) hw|exact absurd hb Zs):Sub C ⟨env,⟨bs,n⟩⟩ ⟨env',⟨bs',n'⟩⟩:=Sub.of pl hk he hh hn hel
def Xm {C:Cfg}{env env':Env}{bs bs':ZH}{n n':Nat}(pl:List (Nat×Nat))(hk:piOK pl C.nx (keysB bs')=true)(he:subE (piL pl) (· <n') env env')(hh:subH (piL pl) n' bs bs')(hn:C.nx≤n':=by decide) (hel:∀b,b<C.nx→b∉C.Wm→zG bs' b=zG bs b:=by intro b hb hw;exact absurd (YaA.1 hb) (by simpa using hw)):Sub C ⟨env,⟨bs,n⟩⟩ ⟨env',⟨bs',n'⟩⟩:=Sub.of pl hk he hh hn hel
def piOKW(pl:List (Nat×Nat))(nx:Nat)(W:ZN)(ks:ZN):Bool:=
 pl.all (fun p=>decide (nx≤p.1)&&(decide (nx≤p.2)||W.contains p.2))&&ks.all fun a=>ks.all fun b=>a==b|| !(piL pl a==piL pl b)
def zpx {nx:Nat}{W:ZN}:∀ {pl:List (Nat×Nat)},(pl.all fun p=>decide (nx≤p.1)&&(decide (nx≤p.2)||W.contains p.2))=true→∀b,if b<nx then piL pl b=b else(nx≤piL pl b∨piL pl b∈W)
 |[],_,b=>by
  rw[zny];split
  ·rfl
  rename_i h;exact .inl (Y3 h)
 |(k,o)::r,h,b=>by
  simp only[Ybg,Yj,Yn]at h;have ih:=zpx h.2 b;rw[zjL];by_cases hb:b=k
  ·subst hb;have h1:nx≤b:=h.1.1;rw[Ye (Nat.not_lt.2 h1)];simpa using h.1.2
  have:(b==k)=false:=by simp[hb]
  rw[this];exact ih
def Xg {C:Cfg}{env env':Env}{bs bs':ZH}{n n':Nat}(pl:List (Nat×Nat))(hk:piOKW pl C.nx C.Wm (keysB bs')=true)(he:subE (piL pl) (· <n') env env')(hh:subH (piL pl) n' bs bs')(hn:C.nx≤n') (hel:∀b,b<C.nx→b∉C.Wm→zG bs' b=zG bs b):Sub C ⟨env,⟨bs,n⟩⟩ ⟨env',⟨bs',n'⟩⟩:=by
 simp only[piOKW,Yj]at hk;refine⟨piL pl,zm8 he,fun b x' e=>?_,zpx hk.1,fun b b' x x' e e' hp=>?_,fun b hb hw=>?_,hn⟩
 ·obtain⟨h1,x,h2,h3⟩:=zm7 hh b x' e;exact⟨h1,x,by rw[zbF];exact h2,h3⟩
 ·have:=Yl.1 (Yl.1 hk.2 b (zcL e)) b' (zcL e');simp only[Yaj,beq_iff_eq,YaV,Ybq,ne_eq]at this;rcases this with h|h
  ·exact h
  exact absurd hp h
 rw[zbF,zbF];exact hel b hb hw
def Xb {C:Cfg}{env env':Env}{bs bs':ZH}{n n':Nat}(pl:List (Nat×Nat))(h0:C.nx=0)(hk:piOK pl 0 (keysB bs')=true)(he:subE (piL pl) (· <n') env env')(hh:subH (piL pl) n' bs bs'):Sub C ⟨env,⟨bs,n⟩⟩ ⟨env',⟨bs',n'⟩⟩:=
 Sub.of pl (by rw[h0];exact hk) he hh Zo (fun b hb=>Zo)
attribute [go_sem] rn_bool rn_int rn_str rn_nilS rn_nilP rn_nilM rn_nilI rn_fs rn_nil0 rn_fp rn_sl rn_ptr rn_map rn_fn rn_agg lrel_nil zvx zlP zvw zvv zul zny zjL subE_nil ztS zq1 subH_nil ztQ zvX zr3
def Xz {H:Hp}{b off len sz:Nat}{kc:Option Nat}{t:TypeId}{cs cs':ZA}(hg:H.get b=some (.ty t cs))(hl:off+len*sz≤cs.length)(he:cs'=(cs.drop off).take (len*sz))(hp:∀x∈cs',Pure x):Frz H (.sl b off len sz kc) (.fs cs' len):=by subst he;refine .slT hg hl (by simp;omega) fun i x y hx hy=>?_;rw[hx]at hy;cases hy;exact .pure (hp x (YV hx))
def Xr {H:Hp}{b off len sz:Nat}{kc:Option Nat}{cs cs':ZA}(hg:H.get b=some (.cells cs))(hl:off+len*sz≤cs.length)(he:cs'=(cs.drop off).take (len*sz))(hp:∀x∈cs',Pure x):Frz H (.sl b off len sz kc) (.fs cs' len):=by subst he;refine .sl hg hl (by simp;omega) fun i x y hx hy=>?_;rw[hx]at hy;cases hy;exact .pure (hp x (YV hx))
def zeq {H:Hp}{a a':V}{r r':ZA}(h:Frz H a a')(hr:Frz H (.tup r) (.tup r')):Frz H (.tup (a::r)) (.tup (a'::r')):=by
 have hr':LRel (fun x y=>Frz H x y) r r':=by
  cases hr with
  |pure h=>refine⟨rfl,fun i x y hx hy=>?_⟩;rw[hx]at hy;cases hy;exact .pure ((zga _).1 h x (YV hx))
  |tup hl h=>exact⟨hl.symm,h⟩
 refine .tup (by simp[hr'.1]) fun i x y hx hy=>?_;cases i with
 |zero=>cases hx;cases hy;exact h
 |succ i=>exact hr'.2 i x y hx hy
def frz_tup0 {H:Hp}:Frz H (.tup []) (.tup []):=.pure (.tup fun _ h=>by cases h)
theorem resL_nil(P:Program)(s:St):resL P s []=(True,[]):=rfl
def resL_tmp(P:Program)(env:Env)(h:Hp)(t:Tmp)(r:List ResultVar):resL P ⟨env,h⟩ (.tmp t::r)=((resL P ⟨env,h⟩ r).1,zdG env t::(resL P ⟨env,h⟩ r).2):=by rw[resL,←zdb]
def zuq(P:Program)(env:Env)(h:Hp)(c:Tmp)(t:TypeId)(r:List ResultVar):resL P ⟨env,h⟩ (.cell c t::r)=((zcW P t (zdG env c) h).pre∧(resL P ⟨env,h⟩ r).1,(zcW P t (zdG env c) h).v::(resL P ⟨env,h⟩ r).2):=by rw[resL,←zdb]
theorem tupV_one(v:V):tupV [v]=v:=rfl
theorem tupV_nil:tupV []=.tup []:=rfl
theorem ztJ(a b:V)(r:ZA):tupV (a::b::r)=.tup (a::b::r):=rfl
attribute [go_sem] resL_nil resL_tmp zuq tupV_one tupV_nil ztJ
def fzE(F:Nat→Prop)(n:Nat)(H:Hp)(env:Env):Env→Prop
 |[]=>True
 |(t,v)::r=>(Rn id (fun b=>¬F b∧b<n) v (zdG env t)∨FrzF H F (zdG env t) v)∧fzE F n H env r
theorem fzE_nil(F:Nat→Prop)(n:Nat)(H:Hp)(env:Env):fzE F n H env []=True:=rfl
theorem fzE_cons(F:Nat→Prop)(n:Nat)(H:Hp)(env:Env)(t:Nat)(v:V)(r:Env):fzE F n H env ((t,v)::r)=((Rn id (fun b=>¬F b∧b<n) v (zdG env t)∨FrzF H F (zdG env t) v)∧fzE F n H env r):=rfl
def zwn {F:Nat→Prop}{n:Nat}{H:Hp}{env:Env}:∀ {env':Env},fzE F n H env env'→∀t v',env'.lookup t=some v'→v'=.any∨∃v,env.lookup t=some v∧(Rn id (fun b=>¬F b∧b<n) v' v∨FrzF H F v v')
 |[],_,t,v',h=>by cases h
 |(k,u)::r,hs,t,v',h=>by
  rw[YE]at h;by_cases hk:t=k
  ·subst hk;simp only[YaU,Yx]at h;subst h;have h1:=hs.1;rw[←zdb]at h1;cases e:env.lookup t with
   |some v=>rw[e]at h1;exact .inr ⟨v,rfl,h1⟩
   |none=>
    rw[e]at h1;simp only[Ycj]at h1;rcases h1 with h1|h1
    ·exact .inl (zlq h1)
    cases h1;exact .inl rfl
  have hb:(t==k)=false:=by simp[hk]
  simp only[hb]at h;exact zwn hs.2 t v' h
def fzH(F:Nat→Prop)(n:Nat)(bs:ZH):ZH→Prop
 |[]=>True
 |(b,x)::r=>b<n∧¬F b∧ztR (zG bs b) (fun y=>RnB id (fun b=>¬F b∧b<n) x y)∧fzH F n bs r
theorem fzH_nil(F:Nat→Prop)(n:Nat)(bs:ZH):fzH F n bs []=True:=rfl
theorem fzH_cons(F:Nat→Prop)(n:Nat)(bs:ZH)(b:Nat)(x:Blk)(r:ZH):fzH F n bs ((b,x)::r)=(b<n∧¬F b∧ztR (zG bs b) (fun y=>RnB id (fun b=>¬F b∧b<n) x y)∧fzH F n bs r):=rfl
def zwm {F:Nat→Prop}{n:Nat}{bs:ZH}:∀ {bs':ZH},fzH F n bs bs'→∀b x',bs'.lookup b=some x'→b<n∧¬F b∧∃x,zG bs b=some x∧RnB id (fun b=>¬F b∧b<n) x' x
 |[],_,b,x',h=>by cases h
 |(k,u)::r,hs,b,x',h=>by
  rw[YE]at h;by_cases hk:b=k
  ·subst hk;simp only[YaU,Yx]at h;subst h;obtain⟨h1,h0,h2,_⟩:=hs;refine⟨h1,h0,?_⟩;cases e:zG bs b with
   |none=>rw[e]at h2;exact h2.elim
   |some y=>rw[e]at h2;exact⟨y,rfl,h2⟩
  have hb:(b==k)=false:=by simp[hk]
  simp only[hb]at h;exact zwm hs.2.2.2 b x' h
def AXa.fz {C:Cfg}{P:Program}{K:Out→St→Prop}{st:List Fr}{y:Code}{env env':Env}{bs bs':ZH}{n n':Nat}(fl:ZN)(hW:C.Wm=[])(h0:C.nx=0)(hl:(fl.all fun b=>(zG bs b).isSome)=true) (he:fzE (· ∈fl) n' ⟨bs,n⟩ env env') (hh:fzH (· ∈fl) n' bs bs') (hx:AXa C P K st y env' ⟨bs',n'⟩):AXa C P K st y env ⟨bs,n⟩:=by
 refine AXa.freeze (F:=(· ∈fl)) hW ⟨zwn he,fun b x' e=>?_,fun b hb=>⟨Zo,?_⟩,fun b hb=>Zo,by rw[h0];exact Yk _⟩ hx
 ·obtain⟨h1,h2,x,h3,h4⟩:=zwm hh b x' e;exact⟨h1,h2,x,by rw[zbF];exact h3,h4⟩
 have:=Yl.1 hl b hb;rw[YaD]at this;rw[zbF];exact this
def FrzF.slp {F:Nat→Prop}{b off len sz n:Nat}{kc:Option Nat}{cs' cs:ZA}{bs:ZH}{m:Nat}(hF:F b)(hg:zG bs b=some (.cells cs))(hn:n=len)(hl:off+len*sz≤cs.length)(he:cs'=(cs.drop off).take (len*sz))(hp:∀x∈cs',Pure x):FrzF ⟨bs,m⟩ F (.sl b off len sz kc) (.fs cs' n):=by subst hn;subst he;refine .sl hF (by rw[zbF];exact hg) hl (by simp;omega) fun i x y hx hy=>?_;rw[hx]at hy;cases hy;exact .pure (hp x (YV hx))
attribute [go_sem] fzE_nil fzE_cons fzH_nil fzH_cons
def Xc {C:Cfg}{P:Program}{K:Out→St→Prop}{st:List Fr}{x y:Code}{env:Env}{h:Hp}{p:Prop} [Decidable p](h1:p→AXs C P K st x env h)(h2:¬p→AXs C P K st y env h):AXc C P K st x y (.bool (decide p)) env h:=
 AXc.intro (fun e=>h1 (Yah e)) (fun e=>h2 (of_decide_eq_false e))
def Xl {C:Cfg}{P:Program}{K:Out→St→Prop}{st:List Fr}{x y:Code}{env:Env}{h:Hp}{p:Prop} [Decidable p](h1:¬p→AXs C P K st x env h)(h2:p→AXs C P K st y env h):AXc C P K st x y (.bool (!decide p)) env h:=
 AXc.intro (fun e=>h1 (by simpa using e)) (fun e=>h2 (by simpa using e))
def wrap_i64(n:Int)(h1: -9223372036854775808≤n)(h2:n≤9223372036854775807):IntKind.wrap .i64 n=n:=by simp[IntKind.wrap,IntKind.bits,IntKind.signed];omega
def wrap_u64(n:Int)(h1:0≤n)(h2:n≤18446744073709551615):IntKind.wrap .u64 n=n:=by simp[IntKind.wrap,IntKind.bits,IntKind.signed];omega
def wrap_u8(n:Int)(h1:0≤n)(h2:n≤255):IntKind.wrap .u8 n=n:=by simp[IntKind.wrap,IntKind.bits,IntKind.signed];omega
def tdiv_nn(a b:Int)(h:0≤a):a.tdiv b=a/b:=Int.tdiv_eq_ediv_of_nonneg h
def tmod_nn(a b:Int)(h:0≤a):a.tmod b=a%b:=Int.tmod_eq_emod_of_nonneg h
attribute [go_sem] tdiv_nn tmod_nn wrap_i64 wrap_u64 wrap_u8
def zL {α:Type}(pat:α→ZA)(cond:α→Prop)(res:α→PR):ZV:=fun args=>
 open Classical in if h:∃x,pat x=args∧cond x then some (res (Classical.choose h))else none
def zo {α:Type}{pat:α→ZA}{cond:α→Prop}{res:α→PR}(hinj:∀x y,pat x=pat y→x=y)(x:α)(hc:cond x):zL pat cond res (pat x)=some (res x):=by have h:∃y,pat y=pat x∧cond y:=⟨x,rfl,hc⟩;unfold zL;rw[dif_pos h,hinj _ _ (YaG h).1]
def zn {P:Program}{f:FuncId}{α:Type}{pat:α→ZA}{cond:α→Prop}{res:α→PR}(h:∀x,cond x→PCall P f (pat x) (res x)):∀args r,zL pat cond res args=some r→PCall P f args r:=by
 intro args r e;unfold zL at e;split at e
 ·rename_i hx;have hs:=YaG hx;cases e;have:=h _ hs.2;rw[hs.1]at this;exact this
 cases e
def zaY {k:IntKind}{l r:ZN}(h:nats k l=nats k r):l=r:=by
 induction l generalizing r with
 |nil=>cases r with
  |nil=>rfl
  |cons y r=>simp[nats]at h
 |cons x l ih=>
  cases r with
  |nil=>simp[nats]at h
  |cons y r=>simp only[nats,Y7,Yt,V.int.injEq,Yag]at h;rw[ih h.2,show x=y by omega]
def zbv {l r:List ZL}(h:strs l=strs r):l=r:=by
 induction l generalizing r with
 |nil=>cases r with
  |nil=>rfl
  |cons y r=>simp[strs]at h
 |cons x l ih=>
  cases r with
  |nil=>simp[strs]at h
  |cons y r=>simp only[strs,Y7,Yt,V.str.injEq]at h;rw[ih h.2,h.1]
attribute [go_sem] Option.some_or Option.none_or
def EndR(P:Program)(rs:List ResultVar)(r:PR):Out→St→Prop
 | .norm,s| .ret,s=>(resL P s rs).1∧∃v,r=.ret v∧Frz s.h (tupV (resL P s rs).2) v
 | .panic v0,s=>∃v,r=.panic v∧Frz s.h v0 v
 |_,_=>False
def zp3(P:Program)(rs:List ResultVar)(v:V)(env:Env)(h:Hp):EndR P rs (.ret v) .ret ⟨env,h⟩=((resL P ⟨env,h⟩ rs).1∧Frz h (tupV (resL P ⟨env,h⟩ rs).2) v):=by
 apply propext;constructor
 ·rintro⟨h1,v',h2,h3⟩;cases h2;exact⟨h1,h3⟩
 rintro⟨h1,h3⟩;exact⟨h1,v,rfl,h3⟩
def zwx(P:Program)(rs:List ResultVar)(v:V)(env:Env)(h:Hp):EndR P rs (.ret v) .norm ⟨env,h⟩=((resL P ⟨env,h⟩ rs).1∧Frz h (tupV (resL P ⟨env,h⟩ rs).2) v):=zp3 P rs v env h
def PCall.walk {P:Program}{nt:Nat}(keep:ZN)(fz:ZN){Γ:FuncId→ZA→Option PR}{Δ:FuncId→ZA→Hp→Option AR}{f:FuncId}{fn:Func}{c:Code}{args:ZA}{r:PR}{rs:List ResultVar} (hm:P.follows .mixedOrders=true) (hΓ:zcY P Γ) (hΔ:zay P Δ) (hc:zk P f) (hf:P.funcs[f]? =some fn) (hb:fn.body=some c) (hnt:fn.ntmps=nt) (hrs:fn.results.toList=rs) (hok:za0 nt c=true) (hle:args.length≤nt) (hpure:∀x∈args,Pure x) (h:AXs ⟨nt,za2 keep,Γ,Δ,0,[],za2 fz,[]⟩ P (EndR P rs r) [] c (zcq 0 args) ⟨[],0⟩):PCall P f args r:=by
 refine PCall.of (C:=⟨nt,za2 keep,Γ,Δ,0,[],za2 fz,[]⟩) hc hf hb hnt hle hpure rfl rfl rfl ?_;refine AX.mono (zdq (C:=⟨nt,za2 keep,Γ,Δ,0,[],za2 fz,[]⟩) hm ⟨hΓ,hΔ⟩ c _ _ hok h) fun o s hk=>?_;subst hrs;cases o with
 |norm=>exact hk
 |ret=>exact hk
 |exit i=>exact hk.elim
 |panic v=>exact hk
def Xa {P:Program}{nt:Nat}(keep:ZN)(fz:ZN){Γ:FuncId→ZA→Option PR}{Δ:FuncId→ZA→Hp→Option AR}{f:FuncId}{fn:Func}{c:Code}{args:ZA}{r:PR}{rs:List ResultVar} (hm:P.follows .mixedOrders=true) (hΓ:zcY P Γ) (hΔ:zay P Δ) (hc:zk P f) (hf:P.funcs[f]? =some fn) (hb:fn.body=some c) (hnt:fn.ntmps=nt) (hrs:fn.results.toList=rs) (h:AXs ⟨nt,za2 keep,Γ,Δ,0,[],za2 fz,[]⟩ P (EndR P rs r) [] c (zcq 0 args) ⟨[],0⟩) (hok:za0 nt c=true:=by kernel_rfl) (hle:args.length≤nt:=by simp) (hpure:∀x∈args,Pure x:=by simp[push_cast]):PCall P f args r:=PCall.walk (rs:=rs) keep fz hm hΓ hΔ hc hf hb hnt hrs hok hle hpure h
theorem ztg(i:Nat):zcq i []=[]:=rfl
theorem zoI(i:Nat)(a:V)(r:ZA):zcq i (a::r)=(i,a)::zcq (i+1) r:=rfl
def frz_any(H:Hp)(v:V):Frz H v .any↔True:=⟨fun _=>trivial,fun _=>.any⟩
def frz_bool(H:Hp)(b b':Bool):Frz H (.bool b) (.bool b')↔b=b':=⟨fun h=>by cases h;rfl,fun h=>by subst h;exact .pure (.bool b)⟩
def frz_int(H:Hp)(k k':IntKind)(n n':Int):Frz H (.int k n) (.int k' n')↔k=k'∧n=n':=⟨fun h=>by cases h;exact⟨rfl,rfl⟩,fun h=>by obtain⟨rfl,rfl⟩:=h;exact .pure (.int k n)⟩
def frz_str(H:Hp)(l l':ZL):Frz H (.str l) (.str l')↔l=l':=⟨fun h=>by cases h;rfl,fun h=>by subst h;exact .pure (.str l)⟩
def frz_nil0(H:Hp)(cs:ZA)(n:Nat):Frz H .nilS (.fs cs n)↔cs=[]∧n=0:=⟨fun h=>by cases h;exact⟨rfl,rfl⟩,fun h=>by obtain⟨rfl,rfl⟩:=h;exact .nil0⟩
def frz_fs(H:Hp)(cs cs':ZA)(n n':Nat):Frz H (.fs cs n) (.fs cs' n')↔(cs=cs'∧n=n')∧∀x∈cs,Pure x:=
 ⟨fun h=>by cases h with|pure h=>exact⟨⟨rfl,rfl⟩,(zfu _ _).1 h⟩,fun h=>by obtain⟨⟨rfl,rfl⟩,h2⟩:=h;exact .pure (.fs h2)⟩
def zoa(H:Hp):Frz H (.tup []) (.tup [])↔True:=⟨fun _=>trivial,fun _=>frz_tup0⟩
def zma(H:Hp)(a a':V)(r r':ZA):Frz H (.tup (a::r)) (.tup (a'::r'))↔Frz H a a'∧Frz H (.tup r) (.tup r'):=by
 constructor
 ·intro h;cases h with
  |pure h=>have:=(zga _).1 h;exact⟨.pure (this a Zs),.pure (.tup fun x hx=>this x (by simp[hx]))⟩
  |tup hl h=>exact⟨h 0 a a' rfl rfl,.tup (by simpa using hl) fun i x y hx hy=>h (i+1) x y hx hy⟩
 rintro⟨h1,h2⟩;exact zeq h1 h2
def Frz.slp {b off len sz n:Nat}{kc:Option Nat}{cs' cs:ZA}{bs:ZH}{m:Nat}(hg:zG bs b=some (.cells cs))(hn:n=len)(hl:off+len*sz≤cs.length)(he:cs'=(cs.drop off).take (len*sz))(hp:∀x∈cs',Pure x):Frz ⟨bs,m⟩ (.sl b off len sz kc) (.fs cs' n):=by subst hn;exact Xr (by rw[zbF];exact hg) hl he hp
attribute [go_sem] zp3 zwx ztg zoI frz_any frz_bool frz_int frz_str frz_nil0 frz_fs zoa zma
attribute [push_cast] zM zaz zO zfu zgZ zcx zac zga zdC zgX zd2 ziw ziv zuQ
def sdC {p q:Prop}(k:q)(h:p:=by first|omega|exact⟨Zo,Zo⟩|kernel_rfl|rfl|assumption|(intro h;exact⟨h,Zo,Zo⟩)|(intro h;exact⟨h,Zo⟩)):p∧q:=⟨h,k⟩
end Go.Ab
