/- The set of all rules by which simp walks; loops; states told with less. -/
import Derived.Test.YthbimeikbkjnkaaGreatDoorCPlCnt
set_option linter.all false
set_option maxHeartbeats 16000000
set_option maxRecDepth 100000
namespace Go.Ab
attribute [go_sem] axp_true zAn zo0 zmB ztq zo2 zkS zoZ ztr zo1
attribute [go_sem ↓] axs_seq znE znH zpN zAl znD ziL znF znG ziM znI zpM zlo zpO axs_cond axs_run axs_draw axr_nil axr_cons zAm axd_nil axd_cons zAw
attribute [go_sem ↓] axm_none axm_some axl_none axl_some axe_nil zsS zoN zsR
attribute [go_sem] zmg lateA_f lateA_t lateB_f lateR_f lateR_t lateK_ok zoU zxA ztk zxC zxT zo8 zxS ztP isEn_box ztN zhP zo7 zxU ztF ztH ztE zkX ztO zxR zmJ zc6 zfh zkZ zmH zk0 ziE ztG ziG ztL ziF ztK ziD zkY zhO ztI ztM zhN zmI zxV ztJ zo6 zxO zo5 zxN ztD isLk_box ztB zhM zo4 zxP ztt ztv zts zkT ztC zxM zmF zc5 zfg zkV zmC zkW ziA ztu ziC ztz ziB zty ziz zkU zhL ztw ztA zhK zmE zxQ ztx zo3 zmD zmh ziv zmf zkG zoL zkE zfa ziu zmi zkw zky zkv zgk zkF zme zhz zcy zdV zgm zhx zgn zfO zkx zfQ zkC zfP zkB zfN zgl ze9 zkz zkD ze8 zhy zmj zkA zit
attribute [go_sem] zrG znJ axt_eq zAu zAv axf1_pan zAp zAq zAs zAt axf2_pan zAo axk_nil zsa zn1 zAH accM_r accM_w List.isEmpty_nil List.isEmpty_cons wok_nil wok_cons zmO guardV_t guardV_f zx1 zx2 zpc ev_tmp ev_const ev_func zyi cv_bool cv_int cv_str cv_nilS cv_nilP cv_nilM cv_nilF cv_nilI cv_agg cv_tup cv1_bool cv1_int cv1_str cv1_nilS cv1_nilP cv1_nilM cv1_nilF cv1_nilI zxk zjb delE_nil zyy zvk zr4 zxJ zto trim_mk vc_bool vc_int vc_str vc_nilS vc_sl vc_fs vc_nilP vc_ptr vc_fp vc_nilM vc_map vc_fn vc_nilF vc_ifc vc_nilI vc_agg vc_tup vc_any vc_opt vv_bool vv_int vv_str vv_nilS vv_sl vv_fs vv_nilP vv_ptr vv_fp vv_nilM vv_map vv_fn vv_nilF vv_ifc vv_nilI vv_agg vv_tup vv_any vv_opt zaL zxl zjc put_mk putB_nil zl8 zxF zxG zjf new_mk next_mk mkSR_mk zse zlN zsd zn8 zvG zAf zuJ zsf zn2 zil zvH step1_un zj1 zn5 zg4 zg3 zjX zjY zjW zg6 zg5 zn4 zj0 zvE zlO zvD zn6 zgi zn3 zsg zsK zoz zsW zoO vals_nil zvf zyF zt6 callF_fn call1_eq nzs_nil nzs_cons nz_bool nz_int nz_str nz_nilS nz_sl nz_fs nz_nilP nz_ptr nz_fp nz_nilM nz_map nz_fn nz_nilF nz_ifc nz_nilI nz_agg nz_tup nz_any lend_sl ztb zte zs9 zoS lend0_sl zxv zth zxw zxu lend0_fs lend0_fp zsA zwa zv8 refs1_fs refs1_fp zsy zsz zwc refs1_sl zv9 refs1_fn zv7 zsx refs0_sl zwf zwg zwe zsD refs0_fs refs0_fp zxt ztd zoc scalar_int zsn zsm zsp zso zAy zuP zAz atom_int atom_str zxs lend_int lend_str zxq lend_fs zxr lend_ptr lend_fp lend_map lend_fn lend_ifc ztg zsC zul zpu zyZ zy0 zuk zui zum zun zyX zyY zxp zs8 zq5 noΓ_at zq4 noΔ_at ar_val ar_if bin_add bin_sub bin_mul bin_quo bin_rem bin_and bin_shl bin_shr bin_eql bin_neq bin_lss bin_leq bin_gtr bin_geq bin_sadd bin_seql bin_sneq bin_slss bin_sgtr bin_sgeq un_not un_neg max_int min_int pick_bl pick_lb pick_obl pick_olb cond_tl cond_fr zai zM zah zmd zwW ze7 zwV load_ptr ldA_one ldA_agg load_fp ldF_one ldF_agg zvz stA_eq alloc_eq alK_some zpR zti ztj zvL zn9 zuS zpQ fiK_one fiK_agg zl1 zq3 faK_ptr faK_fp rl_index zrZ znV whenE_eq whenI_eq rl_ia_sl iaS_some rl_ia_fs iaF_some iaC_some iaA_some zsv zoi zv2 zv1 zl0 zkc zoh slF_some zog slS_some zoj cvI_some zsr zv0 zvZ srS_some app_eq apK_some apS_nil apS_sl apS_slk apL_some apM_some zAd buK_some rl_make zqI mkK_some zrP rl_beql rl_bneq zke zru ar_bad nthV_nil any_bin pick_f zr6 zbO zys zAC nats_nil zvn zyr zAB strs_nil List.take_zero List.drop_nil List.take_nil Int.cast_ofNat_Int Int.natCast_zero List.length_take List.length_drop List.take_take List.drop_drop ok_bool ok_int ok_str ok_nilS ok_sl ok_fs ok_nilP ok_ptr ok_fp ok_nilM ok_map ok_fn ok_nilF ok_ifc ok_nilI ok_agg one_bool one_int one_str one_nilS one_sl one_fs one_nilP one_ptr one_fp one_nilM one_map one_fn one_nilF one_ifc one_nilI all_nil all_cons all_nats zug zyS zyN zt8 cells_sl cells_fs zt9 zyP cells_fp zua zyR cells_fn zuf zyT zue zyU zl7 zkh set_cons zj6 nil_ptr nil_fp nil_fn box_eq bnd_none bnd_some zAh extract0 extract1 extract2 extract3 zvM ztV zyg zjl or_self or_true true_or or_false false_or implies_true imp_self forall_const Bool.not_eq_true' and_self decide_true decide_false cond_true cond_false Bool.true_and Bool.and_true Bool.false_and Bool.and_false Bool.true_or Bool.or_true Bool.false_or Bool.or_false Bool.not_true Bool.not_false true_and and_true false_and and_false ite_true ite_false if_true if_false ne_eq not_true_eq_false not_false_eq_true Bool.true_eq_false Bool.false_eq_true beq_self_eq_true Int.toNat_natCast Nat.zero_add Nat.add_zero Nat.mul_one Nat.one_mul Nat.sub_zero Nat.zero_le Nat.le_refl List.length_cons List.length_nil List.drop_zero List.nil_append List.append_nil List.cons_append Option.getD_some Option.getD_none Option.map_some Option.map_none
section
variable {C:Cfg}{P:Program}{K:Out→St→Prop}{st:List Fr}{ops:Array Oper}{env:Env}{h:Hp}
theorem axr_app(o:Oper)(r l:List Oper):AXr C P K st ops (List.append (o::r) l) env h=AXr C P K st ops (o::List.append r l) env h:=rfl
theorem axr_app0(l:List Oper):AXr C P K st ops (List.append [] l) env h=AXr C P K st ops l env h:=rfl
theorem axd_app(o:Oper)(r l:List Oper)(i:Nat)(acc:List (Nat×Foot)):AXd C P K st ops (List.append (o::r) l) i acc env h=AXd C P K st ops (o::List.append r l) i acc env h:=rfl
theorem axd_app0(l:List Oper)(i:Nat)(acc:List (Nat×Foot)):AXd C P K st ops (List.append [] l) i acc env h=AXd C P K st ops l i acc env h:=rfl
theorem axe_app(o:Oper)(r l:List Oper)(i0:Nat)(op0:Op)(j0 i:Nat)(acc:List (Nat×Foot))(k:Option LK):AXe C P K st ops i0 op0 j0 (List.append (o::r) l) i acc k env h=AXe C P K st ops i0 op0 j0 (o::List.append r l) i acc k env h:=rfl
theorem axe_app0(l:List Oper)(i0:Nat)(op0:Op)(j0 i:Nat)(acc:List (Nat×Foot))(k:Option LK):AXe C P K st ops i0 op0 j0 (List.append [] l) i acc k env h=AXe C P K st ops i0 op0 j0 l i acc k env h:=rfl
theorem zxB(o:Oper)(r l:List Oper)(j:Nat):zix (List.append (o::r) l) j=zix (o::List.append r l) j:=rfl
theorem ztl(l:List Oper)(j:Nat):zix (List.append [] l) j=zix l j:=rfl
theorem zxD(o:Oper)(r l:List Oper)(i:Nat)(x:Option Op)(j:Nat):ziy (List.append (o::r) l) i x j=ziy (o::List.append r l) i x j:=rfl
theorem ztm(l:List Oper)(i:Nat)(x:Option Op)(j:Nat):ziy (List.append [] l) i x j=ziy l i x j:=rfl
theorem zsU(o:Oper)(r l:List Oper):zfb (List.append (o::r) l)=zfb (o::List.append r l):=rfl
theorem getO_app(o:Oper)(r l:List Oper)(i:Nat):getO (List.append (o::r) l) i=getO (o::List.append r l) i:=rfl
theorem zx4(l:List Oper)(i:Nat):getO (List.append [] l) i=getO l i:=rfl
end
attribute [go_sem ↓] axr_app axr_app0 axd_app axd_app0 axe_app axe_app0 zxB ztl zxD ztm zsU getO_app zx4
def LoopK(C:Cfg)(ι:Type)(inv:ι→St)(p:ι→Prop)(m:ι→Nat)(i:ι)(K:Out→St→Prop):Out→St→Prop:=zf3 (fun s'=>∃ j,p j∧m j<m i∧Sub C s' (inv j)) K
theorem AXs.loop {C:Cfg}{P:Program}{K:Out→St→Prop}{st:List Fr}{env:Env}{h:Hp}(hm:P.follows .mixedOrders=true)(hΓ:zdc P C.Γ)(hΔ:zaT P C.Δ){x:Code}{ι:Type}(ienv:ι→Env)(ih:ι→Hp)(p:ι→Prop)(m:ι→Nat)(i0:ι)
 (hc:zas C.nt x=true) (h0:p i0) (hs:Sub C ⟨env,h⟩ ⟨ienv i0,ih i0⟩)
 (hb:∀ i,p i→AXs C P (LoopK C ι (fun i=>⟨ienv i,ih i⟩) p m i (unst C P K st)) [] x (ienv i) (ih i)):AXs C P K st (.loop x) env h:=
 AX.loop (fun i=>⟨ienv i,ih i⟩) p m i0 h0 hs fun i hp=>zcV hm ⟨hΓ,hΔ⟩ x ⟨ienv i,ih i⟩ _ hc (hb i hp)
theorem zk {C:Cfg}{ι:Type}{inv:ι→St}{p:ι→Prop}{m:ι→Nat}{i:ι}{K:Out→St→Prop}{s:St}(j:ι)(h1:p j)(h2:m j<m i)(h3:Sub C s (inv j)):LoopK C ι inv p m i K .norm s:=⟨j,h1,h2,h3⟩
theorem zxi {C:Cfg}{P:Program}{ι:Type}{inv:ι→St}{p:ι→Prop}{m:ι→Nat}{i:ι}{K:Out→St→Prop}{st:List Fr}(env:Env)(h:Hp):LoopK C ι inv p m i (unst C P K st) .ret ⟨env,h⟩=AXs C P K st .ret env h:=rfl
theorem zsZ {C:Cfg}{P:Program}{ι:Type}{inv:ι→St}{p:ι→Prop}{m:ι→Nat}{i:ι}{K:Out→St→Prop}{st:List Fr}(k:Nat)(env:Env)(h:Hp):LoopK C ι inv p m i (unst C P K st) (.exit k) ⟨env,h⟩=AXs C P K st (.exit k) env h:=rfl
theorem AXs.rounds {C:Cfg}{P:Program}{K:Out→St→Prop}{st:List Fr}{env:Env}{h:Hp}(hm:P.follows .mixedOrders=true)(hΓ:zdc P C.Γ)(hΔ:zaT P C.Δ){x:Code}(n:List Unit)(hc:zas C.nt x=true)
 (hb:AXs C P (znM C P x (unst C P K st) n) [] x env h):AXs C P K st (.loop x) env h:=by
 rw [zfG]at hb
 have key:∀(n:List Unit) (s:St),AXf C P x s (zf2 C P x (unst C P K st) n)→AXn C P x (unst C P K st) (n.length+1) s:=by
  intro n;induction n with
  |nil=>
   intro s hx;refine(zcV hm ⟨hΓ,hΔ⟩ x s _ hc hx).mono fun o s' k=>?_;cases o with
   |norm=>exact k
   |_=>exact k
  |cons u n ih=>
   intro s hx;refine(zcV hm ⟨hΓ,hΔ⟩ x s _ hc hx).mono fun o s' k=>?_;cases o with
   |norm=>exact ih s' k
   |_=>exact k
 exact AX.rounds (n.length+1) (key n ⟨env,h⟩ hb)
theorem zod {C:Cfg}{P:Program}{x:Code}{K:Out→St→Prop}{st:List Fr}(u:Unit)(n:List Unit)(env:Env)(h:Hp):znM C P x (unst C P K st) (u::n) .norm ⟨env,h⟩=AXs C P (znM C P x (unst C P K st) n) [] x env h:=by rw [zfG,zf2];rfl
theorem zoe {C:Cfg}{P:Program}{x:Code}{K:Out→St→Prop}{st:List Fr}(n:List Unit)(i:Nat)(env:Env)(h:Hp):znM C P x (unst C P K st) n (.exit i) ⟨env,h⟩=AXs C P K st (.exit i) env h:=by rw [zfG];cases n<;>rw [zf2]<;>rfl
attribute [go_sem ↓] zod zoe
attribute [go_sem] zrQ lmK_mp rgK_mp etK_it zst zlL zjZ zvF bsL_some zio ziq zAe zsw zm7 zss zvN rl_grow gwK_some
attribute [go_sem] zxi zsZ
theorem rn_bool {π:Nat→Nat}{N:Nat→Prop}(b:Bool)(v:V):Rn π N (.bool b) v↔v=.bool b:=⟨fun h=>by cases h;rfl,fun h=>by subst h;exact .same (.bool b)⟩
theorem rn_int {π:Nat→Nat}{N:Nat→Prop}(k:IntKind)(n:Int)(v:V):Rn π N (.int k n) v↔v=.int k n:=⟨fun h=>by cases h;rfl,fun h=>by subst h;exact .same (.int k n)⟩
theorem rn_str {π:Nat→Nat}{N:Nat→Prop}(l:List UInt8)(v:V):Rn π N (.str l) v↔v=.str l:=⟨fun h=>by cases h;rfl,fun h=>by subst h;exact .same (.str l)⟩
theorem rn_nilS {π:Nat→Nat}{N:Nat→Prop}(v:V):Rn π N .nilS v↔v=.nilS:=⟨fun h=>by cases h;rfl,fun h=>by subst h;exact .same .nilS⟩
theorem rn_nilP {π:Nat→Nat}{N:Nat→Prop}(v:V):Rn π N .nilP v↔v=.nilP:=⟨fun h=>by cases h;rfl,fun h=>by subst h;exact .same .nilP⟩
theorem rn_nilI {π:Nat→Nat}{N:Nat→Prop}(v:V):Rn π N .nilI v↔v=.nilI:=⟨fun h=>by cases h;rfl,fun h=>by subst h;exact .same .nilI⟩
theorem rn_fs {π:Nat→Nat}{N:Nat→Prop}(cs cs':List V)(n n':Nat):Rn π N (.fs cs n) (.fs cs' n')↔(cs'=cs∧n'=n)∧∀ x∈cs,Pure x:=
 ⟨fun h=>by cases h with|same h=>exact⟨⟨rfl,rfl⟩,(zfI _ _).1 h⟩,fun h=>by obtain⟨⟨rfl,rfl⟩,h2⟩:=h;exact .same (.fs h2)⟩
theorem rn_nil0 {π:Nat→Nat}{N:Nat→Prop}(cs:List V)(n:Nat):Rn π N (.fs cs n) .nilS↔cs=[]∧n=0:=
 ⟨fun h=>by cases h with|nil0=>exact⟨rfl,rfl⟩,fun h=>by obtain⟨rfl,rfl⟩:=h;exact .nil0⟩
theorem rn_fp {π:Nat→Nat}{N:Nat→Prop}(cs:List V)(v:V):Rn π N (.fp cs) v↔v=.fp cs∧∀ x∈cs,Pure x:=⟨fun h=>by cases h with|same h=>exact⟨rfl,(zhr _).1 h⟩,fun h=>by obtain⟨rfl,h2⟩:=h;exact .same (.fp h2)⟩
theorem rn_sl {π:Nat→Nat}{N:Nat→Prop}(b o l s b' o' l' s':Nat)(k k':Option Nat):Rn π N (.sl b o l s k) (.sl b' o' l' s' k')↔N b∧b'=π b∧o'=o∧l'=l∧s'=s∧(k=none∨k=k'):=by
 constructor
 ·intro h;cases h with
  |same h=>cases h
  |sl hb hk=>exact⟨hb,rfl,rfl,rfl,rfl,hk⟩
 ·rintro⟨h1,rfl,rfl,rfl,rfl,h2⟩;exact .sl h1 h2
theorem rn_ptr {π:Nat→Nat}{N:Nat→Prop}(b o b' o':Nat):Rn π N (.ptr b o) (.ptr b' o')↔N b∧b'=π b∧o'=o:=by
 constructor
 ·intro h;cases h with
  |same h=>cases h
  |ptr hb=>exact⟨hb,rfl,rfl⟩
 ·rintro⟨h1,rfl,rfl⟩;exact .ptr h1
theorem rn_map {π:Nat→Nat}{N:Nat→Prop}(b b':Nat):Rn π N (.map b) (.map b')↔N b∧b'=π b:=by
 constructor
 ·intro h;cases h with
  |same h=>cases h
  |map hb=>exact⟨hb,rfl⟩
 ·rintro⟨h1,rfl⟩;exact .map h1
theorem lrel_nil {R:V→V→Prop}:LRel R [] []↔True:=⟨fun _=>trivial,fun _=>⟨rfl,fun i x y h=>by cases h⟩⟩
theorem zxh {R:V→V→Prop}(x y:V)(l r:List V):LRel R (x::l) (y::r)↔R x y∧LRel R l r:=by
 constructor
 ·intro h;exact⟨h.2 0 x y rfl rfl,by have:=h.1;simpa using this,fun i a b ha hb=>h.2 (i+1) a b ha hb⟩
 ·intro h;refine⟨by have:=h.2.1;simp [this],fun i a b ha hb=>?_⟩;cases i with
  |zero=>cases ha;cases hb;exact h.1
  |succ i=>exact h.2.2 i a b ha hb
theorem zA {π:Nat→Nat}{N:Nat→Prop}{l:List V}(h:∀ x∈l,Pure x):LRel (Rn π N) l l:=⟨rfl,fun i x y hx hy=>by rw [hx]at hy;cases hy;exact .same (h x (List.mem_of_getElem? hx))⟩
theorem rn_fn {π:Nat→Nat}{N:Nat→Prop}(f f':FuncId)(cs cs':List V):Rn π N (.fn f cs) (.fn f' cs')↔f'=f∧LRel (Rn π N) cs cs':=by
 constructor
 ·intro h;cases h with
  |same h=>exact⟨rfl,zA ((zki _ _).1 h)⟩
  |fn hl h=>exact⟨rfl,hl,h⟩
 ·rintro⟨rfl,h⟩;exact .fn h.1 h.2
theorem zvY {π:Nat→Nat}{N:Nat→Prop}(cs cs':List V):RnB π N (.cells cs) (.cells cs')↔LRel (Rn π N) cs cs':=⟨fun h=>by cases h;assumption,.cells⟩
theorem zl9(k:IntKind)(l:List Int):∀ x∈ints k l,Pure x:=by simp only [ints,List.mem_map];rintro x ⟨n,_,rfl⟩;exact .int k n
theorem zY(k:IntKind)(l:List Nat):∀ x∈nats k l,Pure x:=by simp only [nats,List.mem_map];rintro x ⟨n,_,rfl⟩;exact .int k n
theorem zae(l:List (List UInt8)):∀ x∈strs l,Pure x:=by simp only [strs,List.mem_map];rintro x ⟨n,_,rfl⟩;exact .str n
theorem zwt(p:V→Prop):(∀ x∈([]:List V),p x)↔True:=by simp
theorem zi1(k:IntKind)(l:List Int):(∀ x∈ints k l,Pure x)↔True:=⟨fun _=>trivial,fun _=>zl9 k l⟩
theorem zei(k:IntKind)(l:List Nat):(∀ x∈nats k l,Pure x)↔True:=⟨fun _=>trivial,fun _=>zY k l⟩
theorem zi0(l:List (List UInt8)):(∀ x∈strs l,Pure x)↔True:=⟨fun _=>trivial,fun _=>zae l⟩
attribute [go_sem] zi1 zei zi0
theorem ztR {α:Type}(l:List α)(a b:Nat)(d:α):(l.drop a).getD b d=l.getD (a+b) d:=by simp [List.getD_eq_getElem?_getD]
theorem ztQ {α:Type}(l:List α)(n i:Nat)(d:α)(h:i<n):(l.take n).getD i d=l.getD i d:=by simp [List.getD_eq_getElem?_getD,h]
theorem toNat_s1(n:Nat):((n:Int) - 1).toNat=n - 1:=by omega
theorem zqe(a b:Nat):((a:Int) - (b:Int)).toNat=a - b:=by omega
theorem toNat_s3(a b:Nat):((a:Int) - 1 - (b:Int)).toNat=a - 1 - b:=by omega
theorem toNat_a1(n:Nat):((n:Int)+1).toNat=n+1:=by omega
theorem toNat_a2(a b:Nat):((a:Int)+(b:Int)).toNat=a+b:=by omega
theorem zjS(a b:Nat):((a:Int)+(b:Int)+1).toNat=a+b+1:=by omega
attribute [go_sem] ztR ztQ toNat_s1 zqe toNat_s3 toNat_a1 toNat_a2 zjS
theorem zmo {π:Nat→Nat}{N:Nat→Prop}(k:IntKind)(l:List Int)(r:List V):LRel (Rn π N) (ints k l) r↔r=ints k l:=by
 constructor
 ·intro h;apply List.ext_getElem?;intro i;by_cases hi:i<(ints k l).length
  ·have hr:i<r.length:=by rw [←h.1];exact hi
   have:=h.2 i _ _ (List.getElem?_eq_getElem hi) (List.getElem?_eq_getElem hr);rw [List.getElem?_eq_getElem hi,List.getElem?_eq_getElem hr];simp only [ints,List.getElem_map]at this ⊢;rw [(rn_int _ _ _).1 this]
  ·have hr:¬i<r.length:=by rw [←h.1];exact hi
   simp [List.getElem?_eq_none (Nat.le_of_not_lt hi),List.getElem?_eq_none (Nat.le_of_not_lt hr)]
 ·rintro rfl;exact zA (zl9 k l)
theorem zxg {π:Nat→Nat}{N:Nat→Prop}(k:IntKind)(l:List Nat)(r:List V):LRel (Rn π N) (nats k l) r↔r=nats k l:=by
 have:nats k l=ints k (l.map fun n:Nat=>(n:Int)):=by simp [nats,ints]
 rw [this];exact zmo k _ r
theorem zxf {π:Nat→Nat}{N:Nat→Prop}(l:List (List UInt8))(r:List V):LRel (Rn π N) (strs l) r↔r=strs l:=by
 constructor
 ·intro h;apply List.ext_getElem?;intro i;by_cases hi:i<(strs l).length
  ·have hr:i<r.length:=by rw [←h.1];exact hi
   have:=h.2 i _ _ (List.getElem?_eq_getElem hi) (List.getElem?_eq_getElem hr);rw [List.getElem?_eq_getElem hi,List.getElem?_eq_getElem hr];simp only [strs,List.getElem_map]at this ⊢;rw [(rn_str _ _).1 this]
  ·have hr:¬i<r.length:=by rw [←h.1];exact hi
   simp [List.getElem?_eq_none (Nat.le_of_not_lt hi),List.getElem?_eq_none (Nat.le_of_not_lt hr)]
 ·rintro rfl;exact zA (zae l)
def piL:List (Nat×Nat)→Nat→Nat
 |[],b=>b
 |(k,o)::r,b=>bif b==k then o else piL r b
theorem zwA(b:Nat):piL [] b=b:=rfl
theorem zqA(k o:Nat)(r:List (Nat×Nat))(b:Nat):piL ((k,o)::r) b=bif b==k then o else piL r b:=rfl
def subE(π:Nat→Nat)(N:Nat→Prop)(env:Env):Env→Prop
 |[]=>True
 |(t,v)::r=>Rn π N v (zdK env t)∧subE π N env r
theorem subE_nil(π:Nat→Nat)(N:Nat→Prop)(env:Env):subE π N env []=True:=rfl
theorem zvy(π:Nat→Nat)(N:Nat→Prop)(env:Env)(t:Nat)(v:V)(r:Env):subE π N env ((t,v)::r)=(Rn π N v (zdK env t)∧subE π N env r):=rfl
def zr8(o:Option Blk)(k:Blk→Prop):Prop:=match o with|some x=>k x|none=>False
theorem zr7(x:Blk)(k:Blk→Prop):zr8 (some x) k=k x:=rfl
def subH(π:Nat→Nat)(n:Nat)(bs:List (Nat×Blk)):List (Nat×Blk)→Prop
 |[]=>True
 |(b,x)::r=>b<n∧zr8 (zar bs (π b)) (fun y=>RnB π (· <n) x y)∧subH π n bs r
theorem subH_nil(π:Nat→Nat)(n:Nat)(bs:List (Nat×Blk)):subH π n bs []=True:=rfl
theorem zvw(π:Nat→Nat)(n:Nat)(bs:List (Nat×Blk))(b:Nat)(x:Blk)(r:List (Nat×Blk)):subH π n bs ((b,x)::r)=(b<n∧zr8 (zar bs (π b)) (fun y=>RnB π (· <n) x y)∧subH π n bs r):=rfl
theorem zlZ {π:Nat→Nat}{N:Nat→Prop}{v:V}(h:Rn π N v .any):v=.any:=by cases h<;>rfl
theorem zvx {π:Nat→Nat}{N:Nat→Prop}{env:Env}:∀ {env':Env},subE π N env env'→∀ t v',env'.lookup t=some v'→v'=.any∨∃ v,env.lookup t=some v∧Rn π N v' v
 |[],_,t,v',h=>by cases h
 |(k,u)::r,hs,t,v',h=>by
  rw [List.lookup_cons]at h;by_cases hk:t=k
  ·subst hk;simp only [beq_self_eq_true,Option.some.injEq]at h;subst h;have h1:=hs.1;rw [←zdr]at h1;cases e:env.lookup t with
   |some v=>rw [e]at h1;exact .inr ⟨v,rfl,h1⟩
   |none=>rw [e]at h1;exact .inl (zlZ h1)
  ·have hb:(t==k)=false:=by simp [hk]
   simp only [hb]at h;exact zvx hs.2 t v' h
theorem zvv {π:Nat→Nat}{n:Nat}{bs:List (Nat×Blk)}:∀ {bs':List (Nat×Blk)},subH π n bs bs'→∀ b x',bs'.lookup b=some x'→b<n∧∃ x,zar bs (π b)=some x∧RnB π (· <n) x' x
 |[],_,b,x',h=>by cases h
 |(k,u)::r,hs,b,x',h=>by
  rw [List.lookup_cons]at h;by_cases hk:b=k
  ·subst hk;simp only [beq_self_eq_true,Option.some.injEq]at h;subst h;obtain⟨h1,h2,_⟩:=hs;refine⟨h1,?_⟩;cases e:zar bs (π b)with
   |none=>rw [e]at h2;exact h2.elim
   |some y=>rw [e]at h2;exact⟨y,rfl,h2⟩
  ·have hb:(b==k)=false:=by simp [hk]
   simp only [hb]at h;exact zvv hs.2.2 b x' h
def keysB:List (Nat×Blk)→List Nat
 |[]=>[]
 |(k,_)::r=>k::keysB r
theorem zxH:keysB []=[]:=rfl
theorem ztn(k:Nat)(x:Blk)(r:List (Nat×Blk)):keysB ((k,x)::r)=k::keysB r:=rfl
theorem zfe:∀ {bs:List (Nat×Blk)} {b:Nat} {x:Blk},bs.lookup b=some x→b∈keysB bs
 |[],_,_,h=>by cases h
 |(k,u)::r,b,x,h=>by
  rw [List.lookup_cons]at h;by_cases hk:b=k
  ·subst hk;simp [keysB]
  ·have hb:(b==k)=false:=by simp [hk]
   simp only [hb]at h;exact List.mem_cons_of_mem _ (zfe h)
def piOK(pl:List (Nat×Nat))(nx:Nat)(ks:List Nat):Bool:=
 pl.all (fun p=>decide (nx≤p.1)&&decide (nx≤p.2))&&ks.all fun a=>ks.all fun b=>a==b|| !(piL pl a==piL pl b)
theorem zwz {nx:Nat}:∀ {pl:List (Nat×Nat)},(pl.all fun p=>decide (nx≤p.1)&&decide (nx≤p.2))=true→∀ b,if b<nx then piL pl b=b else nx≤piL pl b
 |[],_,b=>by
  rw [zwA];split
  ·rfl
  ·rename_i h;exact Nat.le_of_not_lt h
 |(k,o)::r,h,b=>by
  simp only [List.all_cons,Bool.and_eq_true,decide_eq_true_eq]at h;have ih:=zwz h.2 b;rw [zqA];by_cases hb:b=k
  ·subst hb;have h1:nx≤b:=h.1.1;rw [if_neg (Nat.not_lt.2 h1)];simpa using h.1.2
  ·have:(b==k)=false:=by simp [hb]
   rw [this];exact ih
theorem Sub.of {C:Cfg}{env env':Env}{bs bs':List (Nat×Blk)}{n n':Nat}(pl:List (Nat×Nat))(hk:piOK pl C.nx (keysB bs')=true)(he:subE (piL pl) (· <n') env env')(hh:subH (piL pl) n' bs bs')(hn:C.nx≤n')
 (hel:∀ b,b<C.nx→b∉C.Wm→zar bs' b=zar bs b):Sub C ⟨env,⟨bs,n⟩⟩ ⟨env',⟨bs',n'⟩⟩:=by
 simp only [piOK,Bool.and_eq_true]at hk
 refine⟨piL pl,zvx he,fun b x' e=>?_,zwz hk.1,fun b b' x x' e e' hp=>?_,fun b hb hw=>?_,hn⟩
 ·obtain⟨h1,x,h2,h3⟩:=zvv hh b x' e
  exact⟨h1,x,by rw [zaL];exact h2,h3⟩
 ·have:=List.all_eq_true.1 (List.all_eq_true.1 hk.2 b (zfe e)) b' (zfe e')
  simp only [Bool.or_eq_true,beq_iff_eq,Bool.not_eq_true',beq_eq_false_iff_ne,ne_eq]at this
  rcases this with h|h
  ·exact h
  ·exact absurd hp h
 ·rw [zaL,zaL];exact hel b hb hw
theorem Sub.oD {C:Cfg}{env env':Env}{bs bs':List (Nat×Blk)}{n n':Nat}(pl:List (Nat×Nat))(hk:piOK pl C.nx (keysB bs')=true)(he:subE (piL pl) (· <n') env env')(hh:subH (piL pl) n' bs bs')(hn:C.nx≤n':=by decide)
 (hel:∀ b,b<C.nx→b∉C.Wm→zar bs' b=zar bs b:=by intro b hb hw;rcases b with _|_|b<;>first|rfl|exact absurd (List.mem_singleton.2 rfl) hw|exact absurd hb (by simp)):Sub C ⟨env,⟨bs,n⟩⟩ ⟨env',⟨bs',n'⟩⟩:=Sub.of pl hk he hh hn hel
theorem Sub.oE {C:Cfg}{env env':Env}{bs bs':List (Nat×Blk)}{n n':Nat}(pl:List (Nat×Nat))(hk:piOK pl C.nx (keysB bs')=true)(he:subE (piL pl) (· <n') env env')(hh:subH (piL pl) n' bs bs')(hn:C.nx≤n':=by decide)
 (hel:∀ b,b<C.nx→b∉C.Wm→zar bs' b=zar bs b:=by intro b hb hw;exact absurd (Nat.lt_one_iff.1 hb) (by simpa using hw)):Sub C ⟨env,⟨bs,n⟩⟩ ⟨env',⟨bs',n'⟩⟩:=Sub.of pl hk he hh hn hel
theorem Sub.of0 {C:Cfg}{env env':Env}{bs bs':List (Nat×Blk)}{n n':Nat}(pl:List (Nat×Nat))(h0:C.nx=0)(hk:piOK pl 0 (keysB bs')=true)(he:subE (piL pl) (· <n') env env')(hh:subH (piL pl) n' bs bs'):Sub C ⟨env,⟨bs,n⟩⟩ ⟨env',⟨bs',n'⟩⟩:=
 Sub.of pl (by rw [h0];exact hk) he hh (by omega) (fun b hb=>by omega)
attribute [go_sem] rn_bool rn_int rn_str rn_nilS rn_nilP rn_nilI rn_fs rn_nil0 rn_fp rn_sl rn_ptr rn_map rn_fn lrel_nil zxh zmo zxg zxf zvY zwA zqA subE_nil zvy zr7 subH_nil zvw zxH ztn
theorem Frz.pureSl {H:Hp}{b off len sz:Nat}{kc:Option Nat}{cs cs':List V}(hg:H.get b=some (.cells cs))(hl:off+len*sz≤cs.length)(he:cs'=(cs.drop off).take (len*sz))(hp:∀ x∈cs',Pure x):Frz H (.sl b off len sz kc) (.fs cs' len):=by subst he;refine .sl hg hl (by simp;omega) fun i x y hx hy=>?_;rw [hx]at hy;cases hy;exact .pure (hp x (List.mem_of_getElem? hx))
theorem frz_tup {H:Hp}{a a':V}{r r':List V}(h:Frz H a a')(hr:Frz H (.tup r) (.tup r')):Frz H (.tup (a::r)) (.tup (a'::r')):=by
 have hr':LRel (fun x y=>Frz H x y) r r':=by
  cases hr with
  |pure h=>refine⟨rfl,fun i x y hx hy=>?_⟩;rw [hx]at hy;cases hy;exact .pure ((zgy _).1 h x (List.mem_of_getElem? hx))
  |tup hl h=>exact⟨hl.symm,h⟩
 refine .tup (by simp [hr'.1]) fun i x y hx hy=>?_;cases i with
 |zero=>cases hx;cases hy;exact h
 |succ i=>exact hr'.2 i x y hx hy
theorem frz_tup0 {H:Hp}:Frz H (.tup []) (.tup []):=.pure (.tup fun _ h=>by cases h)
theorem resL_nil(P:Program)(s:St):resL P s []=(True,[]):=rfl
theorem resL_tmp(P:Program)(env:Env)(h:Hp)(t:Tmp)(r:List ResultVar):resL P ⟨env,h⟩ (.tmp t::r)=((resL P ⟨env,h⟩ r).1,zdK env t::(resL P ⟨env,h⟩ r).2):=by rw [resL, ←zdr]
theorem zv5(P:Program)(env:Env)(h:Hp)(c:Tmp)(t:TypeId)(r:List ResultVar):resL P ⟨env,h⟩ (.cell c t::r)=((zch P t (zdK env c) h).pre∧(resL P ⟨env,h⟩ r).1,(zch P t (zdK env c) h).v::(resL P ⟨env,h⟩ r).2):=by rw [resL, ←zdr]
theorem tupV_one(v:V):tupV [v]=v:=rfl
theorem tupV_nil:tupV []=.tup []:=rfl
theorem zvj(a b:V)(r:List V):tupV (a::b::r)=.tup (a::b::r):=rfl
attribute [go_sem] resL_nil resL_tmp zv5 tupV_one tupV_nil zvj
def fzE(F:Nat→Prop)(n:Nat)(H:Hp)(env:Env):Env→Prop
 |[]=>True
 |(t,v)::r=>(Rn id (fun b=>¬F b∧b<n) v (zdK env t)∨FrzF H F (zdK env t) v)∧fzE F n H env r
theorem fzE_nil(F:Nat→Prop)(n:Nat)(H:Hp)(env:Env):fzE F n H env []=True:=rfl
theorem fzE_cons(F:Nat→Prop)(n:Nat)(H:Hp)(env:Env)(t:Nat)(v:V)(r:Env):fzE F n H env ((t,v)::r)=((Rn id (fun b=>¬F b∧b<n) v (zdK env t)∨FrzF H F (zdK env t) v)∧fzE F n H env r):=rfl
theorem zx7 {F:Nat→Prop}{n:Nat}{H:Hp}{env:Env}:∀ {env':Env},fzE F n H env env'→∀ t v',env'.lookup t=some v'→v'=.any∨∃ v,env.lookup t=some v∧(Rn id (fun b=>¬F b∧b<n) v' v∨FrzF H F v v')
 |[],_,t,v',h=>by cases h
 |(k,u)::r,hs,t,v',h=>by
  rw [List.lookup_cons]at h;by_cases hk:t=k
  ·subst hk;simp only [beq_self_eq_true,Option.some.injEq]at h;subst h;have h1:=hs.1;rw [←zdr]at h1;cases e:env.lookup t with
   |some v=>rw [e]at h1;exact .inr ⟨v,rfl,h1⟩
   |none=>
    rw [e]at h1;simp only [Option.getD_none]at h1;rcases h1 with h1|h1
    ·exact .inl (zlZ h1)
    ·cases h1;exact .inl rfl
  ·have hb:(t==k)=false:=by simp [hk]
   simp only [hb]at h;exact zx7 hs.2 t v' h
def fzH(F:Nat→Prop)(n:Nat)(bs:List (Nat×Blk)):List (Nat×Blk)→Prop
 |[]=>True
 |(b,x)::r=>b<n∧¬F b∧zr8 (zar bs b) (fun y=>RnB id (fun b=>¬F b∧b<n) x y)∧fzH F n bs r
theorem fzH_nil(F:Nat→Prop)(n:Nat)(bs:List (Nat×Blk)):fzH F n bs []=True:=rfl
theorem fzH_cons(F:Nat→Prop)(n:Nat)(bs:List (Nat×Blk))(b:Nat)(x:Blk)(r:List (Nat×Blk)):fzH F n bs ((b,x)::r)=(b<n∧¬F b∧zr8 (zar bs b) (fun y=>RnB id (fun b=>¬F b∧b<n) x y)∧fzH F n bs r):=rfl
theorem fzH_ok {F:Nat→Prop}{n:Nat}{bs:List (Nat×Blk)}:∀ {bs':List (Nat×Blk)},fzH F n bs bs'→∀ b x',bs'.lookup b=some x'→b<n∧¬F b∧∃ x,zar bs b=some x∧RnB id (fun b=>¬F b∧b<n) x' x
 |[],_,b,x',h=>by cases h
 |(k,u)::r,hs,b,x',h=>by
  rw [List.lookup_cons]at h;by_cases hk:b=k
  ·subst hk;simp only [beq_self_eq_true,Option.some.injEq]at h;subst h;obtain⟨h1,h0,h2,_⟩:=hs;refine⟨h1,h0,?_⟩;cases e:zar bs b with
   |none=>rw [e]at h2;exact h2.elim
   |some y=>rw [e]at h2;exact⟨y,rfl,h2⟩
  ·have hb:(b==k)=false:=by simp [hk]
   simp only [hb]at h;exact fzH_ok hs.2.2.2 b x' h
theorem AXa.fz {C:Cfg}{P:Program}{K:Out→St→Prop}{st:List Fr}{y:Code}{env env':Env}{bs bs':List (Nat×Blk)}{n n':Nat}(fl:List Nat)(hW:C.Wm=[])(h0:C.nx=0)(hl:(fl.all fun b=>(zar bs b).isSome)=true)
 (he:fzE (· ∈fl) n' ⟨bs,n⟩ env env') (hh:fzH (· ∈fl) n' bs bs') (hx:AXa C P K st y env' ⟨bs',n'⟩):AXa C P K st y env ⟨bs,n⟩:=by
 refine AXa.freeze (F:=(· ∈fl)) hW ⟨zx7 he,fun b x' e=>?_,fun b hb=>⟨by omega,?_⟩,fun b hb=>by omega,by rw [h0];exact Nat.zero_le _⟩ hx
 ·obtain⟨h1,h2,x,h3,h4⟩:=fzH_ok hh b x' e
  exact⟨h1,h2,x,by rw [zaL];exact h3,h4⟩
 ·have:=List.all_eq_true.1 hl b hb
  rw [Option.isSome_iff_exists]at this
  rw [zaL];exact this
theorem FrzF.slp {F:Nat→Prop}{b off len sz n:Nat}{kc:Option Nat}{cs' cs:List V}{bs:List (Nat×Blk)}{m:Nat}(hF:F b)(hg:zar bs b=some (.cells cs))(hn:n=len)(hl:off+len*sz≤cs.length)(he:cs'=(cs.drop off).take (len*sz))(hp:∀ x∈cs',Pure x):FrzF ⟨bs,m⟩ F (.sl b off len sz kc) (.fs cs' n):=by subst hn;subst he;refine .sl hF (by rw [zaL];exact hg) hl (by simp;omega) fun i x y hx hy=>?_;rw [hx]at hy;cases hy;exact .pure (hp x (List.mem_of_getElem? hx))
attribute [go_sem] fzE_nil fzE_cons fzH_nil fzH_cons
theorem AXc.introP {C:Cfg}{P:Program}{K:Out→St→Prop}{st:List Fr}{x y:Code}{env:Env}{h:Hp}{p:Prop} [Decidable p](h1:p→AXs C P K st x env h)(h2:¬p→AXs C P K st y env h):AXc C P K st x y (.bool (decide p)) env h:=
 AXc.intro (fun e=>h1 (of_decide_eq_true e)) (fun e=>h2 (of_decide_eq_false e))
theorem AXc.introN {C:Cfg}{P:Program}{K:Out→St→Prop}{st:List Fr}{x y:Code}{env:Env}{h:Hp}{p:Prop} [Decidable p](h1:¬p→AXs C P K st x env h)(h2:p→AXs C P K st y env h):AXc C P K st x y (.bool (!decide p)) env h:=
 AXc.intro (fun e=>h1 (by simpa using e)) (fun e=>h2 (by simpa using e))
theorem wrap_i64(n:Int)(h1: -9223372036854775808≤n)(h2:n≤9223372036854775807):IntKind.wrap .i64 n=n:=by simp [IntKind.wrap,IntKind.bits,IntKind.signed];omega
theorem wrap_u64(n:Int)(h1:0≤n)(h2:n≤18446744073709551615):IntKind.wrap .u64 n=n:=by simp [IntKind.wrap,IntKind.bits,IntKind.signed];omega
theorem wrap_u8(n:Int)(h1:0≤n)(h2:n≤255):IntKind.wrap .u8 n=n:=by simp [IntKind.wrap,IntKind.bits,IntKind.signed];omega
theorem tdiv_nn(a b:Int)(h:0≤a):a.tdiv b=a / b:=Int.tdiv_eq_ediv_of_nonneg h
theorem tmod_nn(a b:Int)(h:0≤a):a.tmod b=a % b:=Int.tmod_eq_emod_of_nonneg h
attribute [go_sem] tdiv_nn tmod_nn wrap_i64 wrap_u64 wrap_u8
noncomputable def zF {α:Type}(pat:α→List V)(cond:α→Prop)(res:α→PR):List V→Option PR:=fun args=>
 open Classical in if h:∃ x,pat x=args∧cond x then some (res (Classical.choose h))else none
theorem zo {α:Type}{pat:α→List V}{cond:α→Prop}{res:α→PR}(hinj:∀ x y,pat x=pat y→x=y)(x:α)(hc:cond x):zF pat cond res (pat x)=some (res x):=by have h:∃ y,pat y=pat x∧cond y:=⟨x,rfl,hc⟩;unfold zF;rw [dif_pos h,hinj _ _ (Classical.choose_spec h).1]
theorem zn {P:Program}{f:FuncId}{α:Type}{pat:α→List V}{cond:α→Prop}{res:α→PR}(h:∀ x,cond x→PCall P f (pat x) (res x)):∀ args r,zF pat cond res args=some r→PCall P f args r:=by
 intro args r e;unfold zF at e;split at e
 ·rename_i hx;have hs:=Classical.choose_spec hx;cases e;have:=h _ hs.2;rw [hs.1]at this;exact this
 ·cases e
theorem zan {k:IntKind}{l r:List Nat}(h:nats k l=nats k r):l=r:=by
 induction l generalizing r with
 |nil=>cases r with
  |nil=>rfl
  |cons y r=>simp [nats]at h
 |cons x l ih=>
  cases r with
  |nil=>simp [nats]at h
  |cons y r=>simp only [nats,List.map_cons,List.cons.injEq,V.int.injEq,true_and]at h;rw [ih h.2,show x=y by omega]
theorem zaN {l r:List (List UInt8)}(h:strs l=strs r):l=r:=by
 induction l generalizing r with
 |nil=>cases r with
  |nil=>rfl
  |cons y r=>simp [strs]at h
 |cons x l ih=>
  cases r with
  |nil=>simp [strs]at h
  |cons y r=>simp only [strs,List.map_cons,List.cons.injEq,V.str.injEq]at h;rw [ih h.2,h.1]
attribute [go_sem] Option.some_or Option.none_or
def EndR(P:Program)(rs:List ResultVar)(r:PR):Out→St→Prop
 | .norm,s| .ret,s=>(resL P s rs).1∧∃ v,r=.ret v∧Frz s.h (tupV (resL P s rs).2) v
 | .panic v0,s=>∃ v,r=.panic v∧Frz s.h v0 v
 |_,_=>False
theorem endR_ret(P:Program)(rs:List ResultVar)(v:V)(env:Env)(h:Hp):EndR P rs (.ret v) .ret ⟨env,h⟩=((resL P ⟨env,h⟩ rs).1∧Frz h (tupV (resL P ⟨env,h⟩ rs).2) v):=by
 apply propext;constructor
 ·rintro⟨h1,v',h2,h3⟩;cases h2;exact⟨h1,h3⟩
 ·rintro⟨h1,h3⟩;exact⟨h1,v,rfl,h3⟩
theorem ztW(P:Program)(rs:List ResultVar)(v v0:V)(env:Env)(h:Hp):EndR P rs (.panic v) (.panic v0) ⟨env,h⟩=Frz h v0 v:=by
 apply propext;constructor
 ·rintro⟨v',h2,h3⟩;cases h2;exact h3
 ·intro h3;exact⟨v,rfl,h3⟩
theorem PCall.walk {P:Program}{nt:Nat}(keep:List Nat)(fz:List Nat){Γ:FuncId→List V→Option PR}{Δ:FuncId→List V→Hp→Option AR}{f:FuncId}{fn:Func}{c:Code}{args:List V}{r:PR}{rs:List ResultVar}
 (hm:P.follows .mixedOrders=true) (hΓ:zdc P Γ) (hΔ:zaT P Δ) (hc:zi P f) (hf:P.funcs[f]? =some fn) (hb:fn.body=some c) (hnt:fn.ntmps=nt) (hrs:fn.results.toList=rs) (hok:zas nt c=true) (hle:args.length≤nt) (hpure:∀ x∈args,Pure x)
 (h:AXs ⟨nt,zbm keep,Γ,Δ,0,[],zbm fz⟩ P (EndR P rs r) [] c (zbT 0 args) ⟨[],0⟩):PCall P f args r:=by
 refine PCall.of (C:=⟨nt,zbm keep,Γ,Δ,0,[],zbm fz⟩) hc hf hb hnt hle hpure rfl rfl ?_
 refine AX.mono (zcV (C:=⟨nt,zbm keep,Γ,Δ,0,[],zbm fz⟩) hm ⟨hΓ,hΔ⟩ c _ _ hok h) fun o s hk=>?_
 subst hrs
 cases o with
 |norm=>exact hk
 |ret=>exact hk
 |exit i=>exact hk.elim
 |panic v=>exact hk
theorem PCall.wD {P:Program}{nt:Nat}(keep:List Nat)(fz:List Nat){Γ:FuncId→List V→Option PR}{Δ:FuncId→List V→Hp→Option AR}{f:FuncId}{fn:Func}{c:Code}{args:List V}{r:PR}{rs:List ResultVar}
 (hm:P.follows .mixedOrders=true) (hΓ:zdc P Γ) (hΔ:zaT P Δ) (hc:zi P f) (hf:P.funcs[f]? =some fn) (hb:fn.body=some c) (hnt:fn.ntmps=nt) (hrs:fn.results.toList=rs)
 (h:AXs ⟨nt,zbm keep,Γ,Δ,0,[],zbm fz⟩ P (EndR P rs r) [] c (zbT 0 args) ⟨[],0⟩)
 (hok:zas nt c=true:=by kernel_rfl) (hle:args.length≤nt:=by simp) (hpure:∀ x∈args,Pure x:=by simp [push_cast]):PCall P f args r:=PCall.walk (rs:=rs) keep fz hm hΓ hΔ hc hf hb hnt hrs hok hle hpure h
theorem zuR(i:Nat):zbT i []=[]:=rfl
theorem zpP(i:Nat)(a:V)(r:List V):zbT i (a::r)=(i,a)::zbT (i+1) r:=rfl
theorem frz_bool(H:Hp)(b b':Bool):Frz H (.bool b) (.bool b')↔b=b':=⟨fun h=>by cases h;rfl,fun h=>by subst h;exact .pure (.bool b)⟩
theorem frz_int(H:Hp)(k k':IntKind)(n n':Int):Frz H (.int k n) (.int k' n')↔k=k'∧n=n':=⟨fun h=>by cases h;exact⟨rfl,rfl⟩,fun h=>by obtain⟨rfl,rfl⟩:=h;exact .pure (.int k n)⟩
theorem frz_str(H:Hp)(l l':List UInt8):Frz H (.str l) (.str l')↔l=l':=⟨fun h=>by cases h;rfl,fun h=>by subst h;exact .pure (.str l)⟩
theorem frz_nil0(H:Hp)(cs:List V)(n:Nat):Frz H .nilS (.fs cs n)↔cs=[]∧n=0:=⟨fun h=>by cases h;exact⟨rfl,rfl⟩,fun h=>by obtain⟨rfl,rfl⟩:=h;exact .nil0⟩
theorem frz_fs(H:Hp)(cs cs':List V)(n n':Nat):Frz H (.fs cs n) (.fs cs' n')↔(cs=cs'∧n=n')∧∀ x∈cs,Pure x:=
 ⟨fun h=>by cases h with|pure h=>exact⟨⟨rfl,rfl⟩,(zfI _ _).1 h⟩,fun h=>by obtain⟨⟨rfl,rfl⟩,h2⟩:=h;exact .pure (.fs h2)⟩
theorem zpf(H:Hp):Frz H (.tup []) (.tup [])↔True:=⟨fun _=>trivial,fun _=>frz_tup0⟩
theorem zmQ(H:Hp)(a a':V)(r r':List V):Frz H (.tup (a::r)) (.tup (a'::r'))↔Frz H a a'∧Frz H (.tup r) (.tup r'):=by
 constructor
 ·intro h;cases h with
  |pure h=>have:=(zgy _).1 h;exact⟨.pure (this a (by simp)),.pure (.tup fun x hx=>this x (by simp [hx]))⟩
  |tup hl h=>exact⟨h 0 a a' rfl rfl,.tup (by simpa using hl) fun i x y hx hy=>h (i+1) x y hx hy⟩
 ·rintro⟨h1,h2⟩;exact frz_tup h1 h2
theorem Frz.slp {b off len sz n:Nat}{kc:Option Nat}{cs' cs:List V}{bs:List (Nat×Blk)}{m:Nat}(hg:zar bs b=some (.cells cs))(hn:n=len)(hl:off+len*sz≤cs.length)(he:cs'=(cs.drop off).take (len*sz))(hp:∀ x∈cs',Pure x):Frz ⟨bs,m⟩ (.sl b off len sz kc) (.fs cs' n):=by subst hn;exact Frz.pureSl (by rw [zaL];exact hg) hl he hp
attribute [go_sem] endR_ret ztW zuR zpP frz_bool frz_int frz_str frz_nil0 frz_fs zpf zmQ
attribute [push_cast] zJ zb4 zQ zfI zhr zki zU zgy zdR zhp zei zi1 zi0 zwt
theorem sdC {p q:Prop}(k:q)(h:p:=by first|omega|exact⟨by omega,by omega⟩|kernel_rfl|rfl|assumption|(intro h;exact⟨h,by omega,by omega⟩)|(intro h;exact⟨h,by omega⟩)):p∧q:=⟨h,k⟩
end Go.Ab
