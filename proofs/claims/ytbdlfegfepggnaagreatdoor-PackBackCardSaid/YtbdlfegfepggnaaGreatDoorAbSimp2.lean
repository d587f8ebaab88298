/- What operations do to values, as rewrite rules; and the set of all rules. -/
import Derived.Test.YtbdlfegfepggnaaGreatDoorAbSimp
set_option linter.all false
set_option maxHeartbeats 16000000
set_option maxRecDepth 100000
noncomputable section
namespace Go.Ab
variable {C:Cfg}{P:Program}{H:Hp}
theorem ar_val(H:Hp)(v:V):AR.val H v=⟨True,v,H,[],[]⟩:=rfl
theorem ar_if(H:Hp)(p:Prop)(v:V):AR.if H p v=⟨p,v,H,[],[]⟩:=rfl
def beqL(a b:ZL):(a==b)=decide (a=b):=by by_cases h:a=b<;>simp[h]
def bin_add(t:TypeId)(k:IntKind)(a b:Int):aBin P .add t (.int k a) (.int k b) H=⟨True,.int k (k.wrap (a+b)),H,[],[]⟩:=by simp[aBin]
def bin_sub(t:TypeId)(k:IntKind)(a b:Int):aBin P .sub t (.int k a) (.int k b) H=⟨True,.int k (k.wrap (a-b)),H,[],[]⟩:=by simp[aBin]
def bin_mul(t:TypeId)(k:IntKind)(a b:Int):aBin P .mul t (.int k a) (.int k b) H=⟨True,.int k (k.wrap (a*b)),H,[],[]⟩:=by simp[aBin]
def bin_quo(t:TypeId)(k:IntKind)(a b:Int):aBin P .quo t (.int k a) (.int k b) H=⟨b≠0,.int k (k.wrap (a.tdiv b)),H,[],[]⟩:=by simp[aBin]
def bin_rem(t:TypeId)(k:IntKind)(a b:Int):aBin P .rem t (.int k a) (.int k b) H=⟨b≠0,.int k (a.tmod b),H,[],[]⟩:=by simp[aBin]
def bin_and(t:TypeId)(k:IntKind)(a b:Int):aBin P .and t (.int k a) (.int k b) H=⟨True,.int k (Go.bits .and k a b),H,[],[]⟩:=by simp[aBin]
def bin_or(t:TypeId)(k:IntKind)(a b:Int):aBin P .or t (.int k a) (.int k b) H=⟨True,.int k (Go.bits .or k a b),H,[],[]⟩:=by simp[aBin]
def bin_xor(t:TypeId)(k:IntKind)(a b:Int):aBin P .xor t (.int k a) (.int k b) H=⟨True,.int k (Go.bits .xor k a b),H,[],[]⟩:=by simp[aBin]
theorem bin_shl(t:TypeId)(k k':IntKind)(a b:Int):aBin P .shl t (.int k a) (.int k' b) H=⟨0≤b∧b≤k.bits,.int k (k.wrap (a*2^b.toNat)),H,[],[]⟩:=rfl
theorem bin_shr(t:TypeId)(k k':IntKind)(a b:Int):aBin P .shr t (.int k a) (.int k' b) H=⟨0≤b∧b≤k.bits,.int k (a/2^b.toNat),H,[],[]⟩:=rfl
def bin_eql(t:TypeId)(k:IntKind)(a b:Int):aBin P .eql t (.int k a) (.int k b) H=⟨True,.bool (decide (a=b)),H,[],[]⟩:=by simp[aBin];rfl
def bin_neq(t:TypeId)(k:IntKind)(a b:Int):aBin P .neq t (.int k a) (.int k b) H=⟨True,.bool (!decide (a=b)),H,[],[]⟩:=by simp[aBin];rfl
def bin_lss(t:TypeId)(k:IntKind)(a b:Int):aBin P .lss t (.int k a) (.int k b) H=⟨True,.bool (decide (a<b)),H,[],[]⟩:=by simp[aBin]
def bin_leq(t:TypeId)(k:IntKind)(a b:Int):aBin P .leq t (.int k a) (.int k b) H=⟨True,.bool (decide (a≤b)),H,[],[]⟩:=by simp[aBin]
def bin_gtr(t:TypeId)(k:IntKind)(a b:Int):aBin P .gtr t (.int k a) (.int k b) H=⟨True,.bool (decide (b<a)),H,[],[]⟩:=by simp[aBin]
def bin_geq(t:TypeId)(k:IntKind)(a b:Int):aBin P .geq t (.int k a) (.int k b) H=⟨True,.bool (decide (b≤a)),H,[],[]⟩:=by simp[aBin]
theorem bin_sadd(t:TypeId)(a b:ZL):aBin P .add t (.str a) (.str b) H=⟨((a.length+b.length:Nat):Int)≤9223372036854775807,.str (a++b),H,[],[]⟩:=rfl
def bin_seql(t:TypeId)(a b:ZL):aBin P .eql t (.str a) (.str b) H=⟨True,.bool (decide (a=b)),H,[],[]⟩:=by simp only[aBin,AR.val,beqL]
def bin_sneq(t:TypeId)(a b:ZL):aBin P .neq t (.str a) (.str b) H=⟨True,.bool (!decide (a=b)),H,[],[]⟩:=by simp only[aBin,AR.val,beqL]
theorem bin_slss(t:TypeId)(a b:ZL):aBin P .lss t (.str a) (.str b) H=⟨True,.bool (ltS a b),H,[],[]⟩:=rfl
theorem bin_sgeq(t:TypeId)(a b:ZL):aBin P .geq t (.str a) (.str b) H=⟨True,.bool (!ltS a b),H,[],[]⟩:=rfl
def bin_beql(t:TypeId)(a b:Bool)(h:P.underlying t=some .bool):aBin P .eql t (.bool a) (.bool b) H=⟨True,.bool (a==b),H,[],[]⟩:=by simp[aBin,h,AR.val]
theorem un_not(b:Bool):aUn .not (.bool b) H=⟨True,.bool (!b),H,[],[]⟩:=rfl
theorem un_xor(k:IntKind)(n:Int):aUn .xor (.int k n) H=⟨True,.int k (Go.bits .xor k (if k.signed=true then -1 else k.max) n),H,[],[]⟩:=rfl
theorem un_neg(k:IntKind)(n:Int):aUn .neg (.int k n) H=⟨True,.int k (k.wrap (0-n)),H,[],[]⟩:=rfl
theorem max_int(k k':IntKind)(a b:Int):aMax (.int k a) (.int k' b) true H=⟨True,.int k (maxI a b),H,[],[]⟩:=rfl
theorem max3_int(k k' k3:IntKind)(a b c:Int):zmU (.int k a) (.int k' b) (.int k3 c) H=⟨True,.int k (maxI (maxI a b) c),H,[],[]⟩:=rfl
theorem min_int(k k':IntKind)(a b:Int):aMax (.int k a) (.int k' b) false H=⟨True,.int k (minI a b),H,[],[]⟩:=rfl
def pick_bl(t x b y:Bool):zd9 (.bool t) (.bool x) (.opt b (.bool y)) H=.ok true (t=false→b=true) (.bool (cond t x y)) H ⟨[],[],0,0⟩:=by simp[zd9,V.val,V.cond]
def pick_lb(t x b y:Bool):zd9 (.bool t) (.opt b (.bool x)) (.bool y) H=.ok true (t=true→b=true) (.bool (cond t x y)) H ⟨[],[],0,0⟩:=by simp[zd9,V.val,V.cond]
def pick_obl(o t x b y:Bool):zd9 (.opt o (.bool t)) (.bool x) (.opt b (.bool y)) H=.ok true (o=true∧(t=false→b=true)) (.bool (cond t x y)) H ⟨[],[],0,0⟩:=by simp[zd9,V.val,V.cond]
def pick_olb(o t x b y:Bool):zd9 (.opt o (.bool t)) (.opt b (.bool x)) (.bool y) H=.ok true (o=true∧(t=true→b=true)) (.bool (cond t x y)) H ⟨[],[],0,0⟩:=by simp[zd9,V.val,V.cond]
def cond_tl(t y:Bool):(bif t then true else y)=(t||y):=by cases t<;>rfl
def cond_fr(t x:Bool):(bif t then x else false)=(t&&x):=by cases t<;>rfl
def ints(k:IntKind)(l:List Int):ZA:=l.map (.int k)
def nats(k:IntKind)(l:ZN):ZA:=l.map fun n:Nat=>V.int k (n:Int)
def strs(l:List ZL):ZA:=l.map .str
def zpM(k:IntKind)(l:List Int):(ints k l).length=l.length:=by simp[ints]
def zb9(k:IntKind)(l:ZN):(nats k l).length=l.length:=by simp[nats]
def zcm(l:List ZL):(strs l).length=l.length:=by simp[strs]
def nthV:ZA→Nat→V
 |[],_=>.any
 |x::r,n=>bif n==0 then x else nthV r (n-1)
theorem zlD(x:V)(r:ZA)(n:Nat):nthV (x::r) n=bif n==0 then x else nthV r (n-1):=rfl
def zvc:∀(l:ZA)(n:Nat),((l.drop n).head?).getD .any=nthV l n
 |[],n=>by simp[nthV]
 |x::r,0=>rfl
 |x::r,n+1=>by rw[List.drop_succ_cons,zvc r n,zlD];simp
def zby(l:ZA)(n:Nat):nthV l n=l[n]?.getD .any:=by rw[←zvc];simp
def zvd(l:ZA)(k n:Nat):nthV (l.drop k) n=nthV l (k+n):=by simp[zby]
def zvb(k:IntKind)(l:ZN)(n:Nat)(h:n<l.length):nthV (nats k l) n=.int k (l.getD n 0:Nat):=by simp[zby,nats,h]
def zva(l:List ZL)(n:Nat)(h:n<l.length):nthV (strs l) n=.str (l.getD n []):=by simp[zby,strs,h]
def ldA(g:Option Bool)(n:Option Nat)(o:Option Blk)(b off:Nat)(H:Hp):AR:=
 match g,n,o with
 |some false,some _,some (.cells cs)=>⟨off<cs.length,nthV cs off,H,[b],[]⟩
 |some true,some n,some (.cells cs)=>⟨n≠0∧n≤cs.length-off,.agg ((cs.drop off).take n),H,[b],[]⟩
 |some false,some _,some (.ty _ cs)=>⟨off<cs.length,nthV cs off,H,[b],[]⟩
 |some true,some n,some (.ty _ cs)=>⟨n≠0∧n≤cs.length-off,.agg ((cs.drop off).take n),H,[b],[]⟩
 |some false,some _,some (.ro cs)=>⟨off<cs.length,nthV cs off,H,[b],[]⟩
 |some true,some n,some (.ro cs)=>⟨n≠0∧n≤cs.length-off,.agg ((cs.drop off).take n),H,[b],[]⟩
 |_,_,_=>.bad H
def load_ptr(t:TypeId)(b off:Nat):zcW P t (.ptr b off) H=ldA (aggT P t) (zF P t) (H.get b) b off H:=by
 unfold zcW ldA;rcases aggT P t with _|_|_<;>rcases zF P t with _|n<;>rcases hb:H.get b with _|x<;>first|(simp[hb,zbw,zek,zby];done)|(cases x<;>simp[hb,zbw,zek,zby])
theorem ldA_one(n:Nat)(cs:ZA)(b off:Nat):ldA (some false) (some n) (some (.cells cs)) b off H=⟨off<cs.length,nthV cs off,H,[b],[]⟩:=rfl
theorem ziG(n:Nat)(ty:TypeId)(cs:ZA)(b off:Nat):ldA (some false) (some n) (some (.ty ty cs)) b off H=⟨off<cs.length,nthV cs off,H,[b],[]⟩:=rfl
theorem zrZ(n:Nat)(ty:TypeId)(cs:ZA)(b off:Nat):ldA (some true) (some n) (some (.ty ty cs)) b off H=⟨n≠0∧n≤cs.length-off,.agg ((cs.drop off).take n),H,[b],[]⟩:=rfl
theorem ziH(n:Nat)(cs:ZA)(b off:Nat):ldA (some false) (some n) (some (.ro cs)) b off H=⟨off<cs.length,nthV cs off,H,[b],[]⟩:=rfl
theorem ldA_agg(n:Nat)(cs:ZA)(b off:Nat):ldA (some true) (some n) (some (.cells cs)) b off H=⟨n≠0∧n≤cs.length-off,.agg ((cs.drop off).take n),H,[b],[]⟩:=rfl
def ldF(g:Option Bool)(n:Option Nat)(cs:ZA)(H:Hp):AR:=
 match g,n with
 |some false,some _=>⟨0<cs.length,nthV cs 0,H,[],[]⟩
 |some true,some n=>⟨n≠0∧n≤cs.length,.agg (cs.take n),H,[],[]⟩
 |_,_=>.bad H
def load_fp(t:TypeId)(cs:ZA):zcW P t (.fp cs) H=ldF (aggT P t) (zF P t) cs H:=by unfold zcW ldF;rcases aggT P t with _|_|_<;>rcases zF P t with _|n<;>cases cs<;>simp[zbw,zek,zby]
theorem ldF_one(n:Nat)(cs:ZA):ldF (some false) (some n) cs H=⟨0<cs.length,nthV cs 0,H,[],[]⟩:=rfl
theorem ldF_agg(n:Nat)(cs:ZA):ldF (some true) (some n) cs H=⟨n≠0∧n≤cs.length,.agg (cs.take n),H,[],[]⟩:=rfl
def stA(n:Option Nat)(o:Option Blk)(b off:Nat)(x:V)(H:Hp):AR:=
 match n,o with
 |some n,some (.cells cs)=>⟨zt x=true∧x.cellsV.length=n∧off+n≤cs.length,undefV,H.put b (.cells (putCells cs off x.cellsV)),[b],[b]⟩
 |some n,some (.ty t cs)=>⟨zt x=true∧x.cellsV.length=n∧off+n≤cs.length,undefV,H.put b (.ty t (putCells cs off x.cellsV)),[b],[b]⟩
 |_,_=>.bad H
def ztT(t:TypeId)(b off:Nat)(x:V):zef P t (.ptr b off) x H=stA (zF P t) (H.get b) b off x H:=by
 unfold zef stA;rcases zF P t with _|n<;>rcases hb:H.get b with _|y<;>first|(simp[hb];done)|(cases y<;>simp[hb])
theorem zt5(n:Nat)(t:TypeId)(cs:ZA)(b off:Nat)(x:V):stA (some n) (some (.ty t cs)) b off x H=⟨zt x=true∧x.cellsV.length=n∧off+n≤cs.length,undefV,H.put b (.ty t (putCells cs off x.cellsV)),[b],[b]⟩:=rfl
theorem stA_eq(n:Nat)(cs:ZA)(b off:Nat)(x:V):stA (some n) (some (.cells cs)) b off x H=⟨zt x=true∧x.cellsV.length=n∧off+n≤cs.length,undefV,H.put b (.cells (putCells cs off x.cellsV)),[b],[b]⟩:=rfl
theorem ok_bool(b:Bool):zt (.bool b)=true:=rfl
theorem ok_int(k:IntKind)(n:Int):zt (.int k n)=true:=rfl
theorem ok_str(l:ZL):zt (.str l)=true:=rfl
theorem ok_nilS:zt .nilS=true:=rfl
theorem ok_sl(b o l s:Nat)(k:Option Nat):zt (.sl b o l s k)=true:=rfl
theorem ok_fs(cs:ZA)(n:Nat):zt (.fs cs n)=true:=rfl
theorem ok_nilP:zt .nilP=true:=rfl
theorem ok_ptr(b o:Nat):zt (.ptr b o)=true:=rfl
theorem ok_fp(cs:ZA):zt (.fp cs)=true:=rfl
theorem ok_nilM:zt .nilM=true:=rfl
theorem ok_map(b:Nat):zt (.map b)=true:=rfl
theorem ok_fn(f:FuncId)(cs:ZA):zt (.fn f cs)=true:=rfl
theorem ok_nilF:zt .nilF=true:=rfl
theorem ok_ifc(t:TypeId)(v:V):zt (.ifc t v)=true:=rfl
theorem ok_nilI:zt .nilI=true:=rfl
theorem ok_agg(cs:ZA):zt (.agg cs)=cs.all V.one:=rfl
theorem one_bool(b:Bool):V.one (.bool b)=true:=rfl
theorem one_int(k:IntKind)(n:Int):V.one (.int k n)=true:=rfl
theorem one_str(l:ZL):V.one (.str l)=true:=rfl
theorem one_nilS:V.one .nilS=true:=rfl
theorem one_sl(b o l s:Nat)(k:Option Nat):V.one (.sl b o l s k)=true:=rfl
theorem one_fs(cs:ZA)(n:Nat):V.one (.fs cs n)=true:=rfl
theorem one_nilP:V.one .nilP=true:=rfl
theorem one_ptr(b o:Nat):V.one (.ptr b o)=true:=rfl
theorem one_fp(cs:ZA):V.one (.fp cs)=true:=rfl
theorem one_nilM:V.one .nilM=true:=rfl
theorem one_map(b:Nat):V.one (.map b)=true:=rfl
theorem one_fn(f:FuncId)(cs:ZA):V.one (.fn f cs)=true:=rfl
theorem one_nilF:V.one .nilF=true:=rfl
theorem one_ifc(t:TypeId)(v:V):V.one (.ifc t v)=true:=rfl
theorem one_nilI:V.one .nilI=true:=rfl
theorem all_nil:([]:ZA).all V.one=true:=rfl
theorem all_cons(v:V)(r:ZA):(v::r).all V.one=(V.one v&&r.all V.one):=rfl
theorem zsS(b:Bool):V.cellsV (.bool b)=[.bool b]:=rfl
theorem zw3(k:IntKind)(n:Int):V.cellsV (.int k n)=[.int k n]:=rfl
theorem zwY(l:ZL):V.cellsV (.str l)=[.str l]:=rfl
theorem zsN:V.cellsV .nilS=[.nilS]:=rfl
theorem cells_sl(b o l s:Nat)(k:Option Nat):V.cellsV (.sl b o l s k)=[.sl b o l s k]:=rfl
theorem cells_fs(cs:ZA)(n:Nat):V.cellsV (.fs cs n)=[.fs cs n]:=rfl
theorem zsO:V.cellsV .nilP=[.nilP]:=rfl
theorem zw0(b o:Nat):V.cellsV (.ptr b o)=[.ptr b o]:=rfl
theorem cells_fp(cs:ZA):V.cellsV (.fp cs)=[.fp cs]:=rfl
theorem zsP:V.cellsV .nilM=[.nilM]:=rfl
theorem zw2(b:Nat):V.cellsV (.map b)=[.map b]:=rfl
theorem cells_fn(f:FuncId)(cs:ZA):V.cellsV (.fn f cs)=[.fn f cs]:=rfl
theorem zsR:V.cellsV .nilF=[.nilF]:=rfl
theorem zw4(t:TypeId)(v:V):V.cellsV (.ifc t v)=[.ifc t v]:=rfl
theorem zsQ:V.cellsV .nilI=[.nilI]:=rfl
theorem zw5(cs:ZA):V.cellsV (.agg cs)=cs:=rfl
theorem zlw(cs:ZA)(off:Nat)(x:V):putCells cs off [x]=cs.set off x:=rfl
theorem zjI(cs:ZA)(off:Nat)(x y:V)(r:ZA):putCells cs off (x::y::r)=cs.take off++(x::y::r)++cs.drop (off+(x::y::r).length):=rfl
def set_cons(x y:V)(r:ZA)(n:Nat):(x::r).set n y=bif n==0 then y::r else x::r.set (n-1) y:=by cases n<;>simp
def zju(k:IntKind)(l:ZN)(n:Nat)(x:Nat):(nats k l).set n (.int k x)=nats k (l.set n x):=by simp[nats,List.map_set]
theorem box_eq(x:V)(bs:ZH)(n:Nat):aBox x ⟨bs,n⟩=⟨zt x=true,.ptr n 0,⟨(n,.cells x.cellsV)::bs,n+1⟩,[],[]⟩:=rfl
def alK(z:Option Value)(r:Bool)(t:TypeId)(H:Hp):AR:=match z with|some z=>⟨zt (cv z)=true,.ptr H.next 0,H.new (rowB r t (cv z).cellsV),[],[]⟩|none=>.bad H
theorem alloc_eq(t:TypeId):zfS P t H=alK (zaw P t) (zeP P t) t H:=rfl
theorem alK_some(z:Value)(t:TypeId):alK (some z) false t H=⟨zt (cv z)=true,.ptr H.next 0,H.new (.cells (cv z).cellsV),[],[]⟩:=rfl
theorem zoL(z:Value)(t:TypeId):alK (some z) true t H=⟨zt (cv z)=true,.ptr H.next 0,H.new (.ty t (cv z).cellsV),[],[]⟩:=rfl
theorem nil_ptr(b o:Nat):aNil (.ptr b o) H=⟨True,.ptr b o,H,[],[]⟩:=rfl
theorem nil_fp(cs:ZA):aNil (.fp cs) H=⟨True,.fp cs,H,[],[]⟩:=rfl
theorem nil_fn(f:FuncId)(cs:ZA):aNil (.fn f cs) H=⟨True,.fn f cs,H,[],[]⟩:=rfl
def zar(P:Program)(t:TypeId)(f:Nat):Option (Nat×Bool×Nat):=
 match P.underlying t with
 |some (.struct fs)=>
  match fs[f]? with
  |some fd=>match aggT P fd.type,zF P fd.type with
   |some g,some n=>some (fd.offset,g,n)
   |_,_=>none
  |none=>none
 |_=>none
def fiK(o:Option (Nat×Bool×Nat))(cs:ZA)(H:Hp):AR:=
 match o with
 |some (off,false,_)=>⟨off<cs.length,nthV cs off,H,[],[]⟩
 |some (off,true,n)=>⟨n≠0∧n≤cs.length-off,.agg ((cs.drop off).take n),H,[],[]⟩
 |none=>.bad H
theorem fiK_one(off n:Nat)(cs:ZA):fiK (some (off,false,n)) cs H=⟨off<cs.length,nthV cs off,H,[],[]⟩:=rfl
theorem fiK_agg(off n:Nat)(cs:ZA):fiK (some (off,true,n)) cs H=⟨n≠0∧n≤cs.length-off,.agg ((cs.drop off).take n),H,[],[]⟩:=rfl
def faK(o:Option (Nat×Bool×Nat))(x:V)(H:Hp):AR:=
 match o,x with
 |some (off,_,_+1),.ptr b o=>⟨True,.ptr b (o+off),H,[],[]⟩
 |some (off,_,_+1),.fp cs=>⟨True,.fp (cs.drop off),H,[],[]⟩
 |_,_=>.bad H
theorem faK_ptr(off n b o:Nat)(g:Bool):faK (some (off,g,n+1)) (.ptr b o) H=⟨True,.ptr b (o+off),H,[],[]⟩:=rfl
theorem faK_fp(off n:Nat)(cs:ZA)(g:Bool):faK (some (off,g,n+1)) (.fp cs) H=⟨True,.fp (cs.drop off),H,[],[]⟩:=rfl
def zmd(t:TypeId)(f:Nat)(x:V)(h:(zar P t f).isSome=true):zaB P t x f H=faK (zar P t f) x H:=by
 unfold zar at h;unfold zaB zar;cases hu:P.underlying t with
 |none=>rfl
 |some d=>
  rw[hu]at h;cases d with
  |struct fs=>
   dsimp only at h ⊢;cases hf:fs[f]? with
   |none=>rfl
   |some fd=>
    rw[hf]at h;dsimp only at h ⊢;cases ha:aggT P fd.type with
    |none=>rw[ha]at h;cases h
    |some g=>
     cases hs:zF P fd.type with
     |none=>cases x<;>rfl
     |some n=>cases n<;>cases x<;>rfl
  |_=>cases h
def zwc(t:TypeId)(s:ZL)(k:IntKind)(n:Int)(h:P.underlying t=some .string):zb0 P t (.str s) (.int k n) H=⟨0≤n∧n<s.length,.int .u8 ((s.getD n.toNat 0).toNat:Int),H,[],[]⟩:=by simp[zb0,h]
def zbz(P:Program)(t:TypeId):Option Nat:=match P.underlying t with|some (.slice e)=>zF P e|_=>none
def ze3 {t:TypeId}{sz:Nat}(h:zbz P t=some sz):∃e,P.underlying t=some (.slice e)∧zF P e=some sz:=by
 unfold zbz at h;split at h
 ·rename_i e hu;exact⟨e,hu,h⟩
 cases h
def ia_sl(t:TypeId)(sz b off len:Nat)(kc:Option Nat)(k:IntKind)(n:Int)(h:zbz P t=some sz):zaa P t (.sl b off len sz kc) (.int k n) H=⟨0≤n∧n<len,.ptr b (off+n.toNat*sz),H,[],[]⟩:=by obtain⟨e,h1,h2⟩:=ze3 h;simp[zaa,h1,h2]
def iaF(o:Option Nat)(cs:ZA)(len:Nat)(n:Int)(H:Hp):AR:=match o with|some sz=>⟨0≤n∧n<len,.fp (cs.drop (n.toNat*sz)),H,[],[]⟩|none=>.bad H
def ia_fs(t:TypeId)(len:Nat)(cs:ZA)(k:IntKind)(n:Int)(h:(zbz P t).isSome=true):zaa P t (.fs cs len) (.int k n) H=iaF (zbz P t) cs len n H:=by obtain⟨sz,hs⟩:=YaD.1 h;rw[hs];obtain⟨e,h1,h2⟩:=ze3 hs;simp[zaa,h1,h2,iaF]
theorem iaF_some(sz:Nat)(cs:ZA)(len:Nat)(n:Int):iaF (some sz) cs len n H=⟨0≤n∧n<len,.fp (cs.drop (n.toNat*sz)),H,[],[]⟩:=rfl
def arrS(P:Program)(t:TypeId):Option (Nat×Nat):=match P.underlying t with|some (.array n e)=>(zF P e).map fun s=>(n,s)|_=>none
def arrS_inv {t:TypeId}{n sz:Nat}(h:arrS P t=some (n,sz)):∃e,P.underlying t=some (.array n e)∧zF P e=some sz:=by
 unfold arrS at h;split at h
 ·rename_i m e hu;rw[YN]at h;obtain⟨s,h1,h2⟩:=h;simp only[Ybc]at h2;obtain⟨rfl,rfl⟩:=h2;exact⟨e,hu,h1⟩
 cases h
def iaA(o:Option (Nat×Nat))(b off:Nat)(n:Int)(H:Hp):AR:=match o with|some (len,sz)=>⟨0≤n∧n<len,.ptr b (off+n.toNat*sz),H,[],[]⟩|none=>.bad H
def ia_arr(t:TypeId)(b off:Nat)(k:IntKind)(n:Int)(h:(arrS P t).isSome=true):zaa P t (.ptr b off) (.int k n) H=iaA (arrS P t) b off n H:=by obtain⟨⟨len,sz⟩,hs⟩:=YaD.1 h;rw[hs];obtain⟨e,h1,h2⟩:=arrS_inv hs;simp[zaa,h1,h2,iaA]
theorem iaA_some(len sz b off:Nat)(n:Int):iaA (some (len,sz)) b off n H=⟨0≤n∧n<len,.ptr b (off+n.toNat*sz),H,[],[]⟩:=rfl
def len_str(t:TypeId)(s:ZL)(h:P.underlying t=some .string):aLen P t (.str s) H=⟨True,.int .i64 s.length,H,[],[]⟩:=by simp[aLen,h,AR.val]
def zcP {t:TypeId}(h:(zbz P t).isSome=true):∃sz e,P.underlying t=some (.slice e)∧zF P e=some sz∧zbz P t=some sz:=by obtain⟨sz,hs⟩:=YaD.1 h;obtain⟨e,h1,h2⟩:=ze3 hs;exact⟨sz,e,h1,h2,hs⟩
def len_nilS(t:TypeId)(h:(zbz P t).isSome=true):aLen P t .nilS H=⟨True,.int .i64 0,H,[],[]⟩:=by obtain⟨_,e,h1,h2,_⟩:=zcP h;simp[aLen,h1,AR.val]
def len_fs(t:TypeId)(n:Nat)(cs:ZA)(h:(zbz P t).isSome=true):aLen P t (.fs cs n) H=⟨True,.int .i64 n,H,[],[]⟩:=by obtain⟨_,e,h1,h2,_⟩:=zcP h;simp[aLen,h1,AR.val]
def len_sl(t:TypeId)(b o n s:Nat)(k:Option Nat)(h:(zbz P t).isSome=true):aLen P t (.sl b o n s k) H=⟨True,.int .i64 n,H,[],[]⟩:=by obtain⟨_,e,h1,h2,_⟩:=zcP h;simp[aLen,h1,AR.val]
theorem bnd_none(d:Int):bnd none d=some d:=rfl
theorem bnd_some(k:IntKind)(n d:Int):bnd (some (.int k n)) d=some n:=rfl
def bndK(l h:Option Int)(H:Hp)(k:Int→Int→AR):AR:=match l,h with|some l,some h=>k l h|_,_=>.bad H
theorem zx3(l h:Int)(k:Int→Int→AR):bndK (some l) (some h) H k=k l h:=rfl
def zt9(t:TypeId)(s:ZL)(lo hi:Option V)(h:P.underlying t=some .string):zbm P t (.str s) lo hi none H=bndK (bnd lo 0) (bnd hi s.length) H fun l h=>⟨0≤l∧l≤h∧h≤s.length,.str ((s.take h.toNat).drop l.toNat),H,[],[]⟩:=by simp only[zbm,h];rfl
def slF(o:Option Nat)(cs:ZA)(len:Nat)(l h:Int)(H:Hp):AR:=match o with|some sz=>⟨0≤l∧l≤h∧h≤len∧cs.length=len*sz,.fs ((cs.take (h.toNat*sz)).drop (l.toNat*sz)) (h.toNat-l.toNat),H,[],[]⟩|none=>.bad H
theorem slF_some(sz:Nat)(cs:ZA)(len:Nat)(l h:Int):slF (some sz) cs len l h H=⟨0≤l∧l≤h∧h≤len∧cs.length=len*sz,.fs ((cs.take (h.toNat*sz)).drop (l.toNat*sz)) (h.toNat-l.toNat),H,[],[]⟩:=rfl
def slice_fs(t:TypeId)(len:Nat)(cs:ZA)(lo hi:Option V)(h:(zbz P t).isSome=true):zbm P t (.fs cs len) lo hi none H=bndK (bnd lo 0) (bnd hi len) H fun l h=>slF (zbz P t) cs len l h H:=by obtain⟨sz,e,h1,h2,h3⟩:=zcP h;simp only[zbm,h1,h2,h3];cases bnd lo 0<;>cases bnd hi len<;>rfl
def slice_sl(t:TypeId)(sz b off len:Nat)(kc:Option Nat)(lo hi:Option V)(h:zbz P t=some sz):zbm P t (.sl b off len sz kc) lo hi none H=bndK (bnd lo 0) (bnd hi len) H fun l h=>⟨0≤l∧l≤h∧h≤(kc.getD len:Nat),.sl b (off+l.toNat*sz) (h.toNat-l.toNat) sz (kc.map (· - l.toNat)),H,[],[]⟩:=by obtain⟨e,h1,h2⟩:=ze3 h;simp only[zbm,h1,h2];cases bnd lo 0<;>cases bnd hi len<;>simp[bndK,AR.bad]
def cvI(d:Option TypeDesc)(n:Int)(H:Hp):AR:=match d with|some (.int k)=>⟨True,.int k (k.wrap n),H,[],[]⟩|_=>.bad H
theorem cvI_some(k:IntKind)(n:Int):cvI (some (.int k)) n H=⟨True,.int k (k.wrap n),H,[],[]⟩:=rfl
def conv_int(s d:TypeId)(k':IntKind)(n:Int)(hs:(P.underlying s).isSome=true)(hd:∀e,P.underlying s≠some (.slice e)):zcX P s d (.int k' n) H=cvI (P.underlying d) n H:=by
 obtain⟨x,hx⟩:=YaD.1 hs;rw[hx]at hd;have h0:zeF P s d (.int k' n) H=none:=by unfold zeF;split<;>first|rfl|contradiction
 unfold zcX cvI;rw[hx];cases hu:P.underlying d with
 |none=>cases x<;>first|rfl|(show XR.ar H (zeF P s d (.int k' n) H)=_;rw[h0];rfl)|exact absurd rfl (hd _)
 |some y=>cases x<;>cases y<;>first|rfl|(show XR.ar H (zeF P s d (.int k' n) H)=_;rw[h0];rfl)|exact absurd rfl (hd _)
def ziT(s d e:TypeId)(v:V)(cs:ZA)(n:Nat)(R:ZN)(l:ZL)(hs:P.underlying s=some (.slice e))(he:P.underlying e=some (.int .u8))(hd:P.underlying d=some .string)(hc:zaE H v 1=some (cs,n,R))(hl:bytesOf cs=some l):zcX P s d v H=⟨True,.str l,H,R,[]⟩:=by
 cases v<;>first|(simp[zaE]at hc;done)|simp[zcX,hs,he,hd,hc,hl]
theorem extract0(a:V)(r:ZA):zbn (.tup (a::r)) 0 H=⟨True,a,H,[],[]⟩:=rfl
theorem extract1(a b:V)(r:ZA):zbn (.tup (a::b::r)) 1 H=⟨True,b,H,[],[]⟩:=rfl
theorem extract2(a b c:V)(r:ZA):zbn (.tup (a::b::c::r)) 2 H=⟨True,c,H,[],[]⟩:=rfl
theorem extract3(a b c d:V)(r:ZA):zbn (.tup (a::b::c::d::r)) 3 H=⟨True,d,H,[],[]⟩:=rfl
def appT(P:Program)(t:TypeId):Option (Nat×Nat×Bool):=match zdv P t with|some e=>zho P e|none=>none
def rowE(P:Program)(t:TypeId):Bool×TypeId:=match zdv P t with|some e=>(rowT P e,e)|none=>(false,0)
def srcK(o:Option (ZA×Nat×ZN))(d:AR)(k:ZA→Nat→ZN→AR):AR:=match o with|some (cs,n,R)=>k cs n R|none=>d
theorem zt7(cs:ZA)(n:Nat)(R:ZN)(d:AR)(k:ZA→Nat→ZN→AR):srcK (some (cs,n,R)) d k=k cs n R:=rfl
def src_str(t:TypeId)(s:ZL)(h:P.underlying t=some .string):zau P H t (.str s) 1=some (s.map zq,s.length,[]):=by simp[zau,h]
def srS(o:Option Blk)(b off n sz:Nat):Option (ZA×Nat×ZN):=match o with|some (.cells cs)=>if off+n*sz≤cs.length then some ((cs.drop off).take (n*sz),n,[b])else none|some (.ty _ cs)=>if off+n*sz≤cs.length then some ((cs.drop off).take (n*sz),n,[b])else none|some (.ro cs)=>if off+n*sz≤cs.length then some ((cs.drop off).take (n*sz),n,[b])else none|_=>none
theorem srS_some(cs:ZA)(b off n sz:Nat):srS (some (.cells cs)) b off n sz=if off+n*sz≤cs.length then some ((cs.drop off).take (n*sz),n,[b])else none:=rfl
theorem zni(t:TypeId)(cs:ZA)(b off n sz:Nat):srS (some (.ty t cs)) b off n sz=if off+n*sz≤cs.length then some ((cs.drop off).take (n*sz),n,[b])else none:=rfl
theorem znj(cs:ZA)(b off n sz:Nat):srS (some (.ro cs)) b off n sz=if off+n*sz≤cs.length then some ((cs.drop off).take (n*sz),n,[b])else none:=rfl
def src_sl(t:TypeId)(sz b off n:Nat)(kc:Option Nat)(h:(zbz P t).isSome=true):zau P H t (.sl b off n sz kc) sz=srS (H.get b) b off n sz:=by
 obtain⟨_,e,h1,h2,_⟩:=zcP h;simp only[zau,h1,zaE,srS];cases H.get b with
 |none=>rfl
 |some x=>cases x<;>simp
def apS(re:Bool×TypeId)(isz ib:Nat)(zok:Bool)(s:V)(news:ZA)(n:Nat)(R:ZN)(H:Hp):AR:=
 if n=0 then(match s with| .nilS| .sl .. | .fs .. =>⟨True,s,H,R,[]⟩|_=>.bad H)else
 match s with
 | .nilS=>⟨isz≠0∧zok=true∧n*ib≤140737488355328∧n≤4611686018427387904∧news.all V.one=true,.sl H.next 0 n isz none,H.new (rowB re.1 re.2 news),R,[]⟩
 | .sl b off len sz kc=>
  match H.get b with
  |some (.cells cs)=>
   match kc with
   |none=>⟨sz=isz∧isz≠0∧zok=true∧off+len*sz≤cs.length∧(len+n)*ib≤140737488355328∧len+n≤4611686018427387904∧news.all V.one=true,
    .sl H.next 0 (len+n) sz none,(H.kill b).new (.cells ((cs.drop off).take (len*sz)++news)),b::R,[b]⟩
   |some k=>
    if len+n≤k then
     ⟨sz=isz∧off+(len+n)*sz≤cs.length∧news.all V.one=true,.sl b off (len+n) sz (some k),H.put b (.cells (cs.take (off+len*sz)++news++cs.drop (off+len*sz+news.length))),b::R,[b]⟩
    else
     ⟨sz=isz∧isz≠0∧zok=true∧off+len*sz≤cs.length∧(len+n)*ib≤140737488355328∧len+n≤4611686018427387904∧news.all V.one=true,
      .sl H.next 0 (len+n) sz none,H.new (rowB re.1 re.2 ((cs.drop off).take (len*sz)++news)),b::R,[]⟩
  |some (.ty t cs)=>
   match kc with
   |none=>⟨sz=isz∧isz=1∧zok=true∧off+len*sz≤cs.length∧(len+n)*ib≤140737488355328∧len+n≤4611686018427387904∧news.all V.one=true∧t=re.2∧off=0,
    .sl H.next 0 (len+n) sz none,(H.kill b).new (.ty t ((cs.drop off).take (len*sz)++news)),b::R,[b]⟩
   |some _=>.bad H
  |some (.ro cs)=>
   match kc with
   |none=>.bad H
   |some k=>
    if len+n≤k then .bad H
    else
     ⟨sz=isz∧isz≠0∧zok=true∧off+len*sz≤cs.length∧(len+n)*ib≤140737488355328∧len+n≤4611686018427387904∧news.all V.one=true,
      .sl H.next 0 (len+n) sz none,H.new (rowB re.1 re.2 ((cs.drop off).take (len*sz)++news)),b::R,[]⟩
  |_=>.bad H
 |_=>.bad H
def apK(o:Option (Nat×Nat×Bool))(re:Bool×TypeId)(P:Program)(xT:TypeId)(s x:V)(H:Hp):AR:=
 match o with
 |some (isz,ib,zok)=>srcK (zau P H xT x isz) (XR.ar H (zhN P re.2 xT s x H)) fun news n R=>apS re isz ib zok s news n R H
 |none=>.bad H
def app_eq(sT xT:TypeId)(s x:V):zdl P sT xT s x H=apK (appT P sT) (rowE P sT) P xT s x H:=by
 unfold zdl apK appT rowE;cases zdv P sT with
 |none=>rfl
 |some e=>
  dsimp only;cases zho P e with
  |none=>rfl
  |some i=>
   obtain⟨isz,ib,zok⟩:=i;dsimp only;cases zau P H xT x isz with
   |none=>rfl
   |some q=>rfl
theorem apK_some(re:Bool×TypeId)(isz ib:Nat)(zok:Bool)(xT:TypeId)(s x:V):apK (some (isz,ib,zok)) re P xT s x H=srcK (zau P H xT x isz) (XR.ar H (zhN P re.2 xT s x H)) fun news n R=>apS re isz ib zok s news n R H:=rfl
theorem apS_nil(e:TypeId)(isz ib:Nat)(zok:Bool)(news:ZA)(n:Nat)(R:ZN):apS (false,e) isz ib zok .nilS news n R H=if n=0 then⟨True,.nilS,H,R,[]⟩else⟨isz≠0∧zok=true∧n*ib≤140737488355328∧n≤4611686018427387904∧news.all V.one=true,.sl H.next 0 n isz none,H.new (.cells news),R,[]⟩:=rfl
theorem zti(e:TypeId)(isz ib:Nat)(zok:Bool)(news:ZA)(n:Nat)(R:ZN):apS (true,e) isz ib zok .nilS news n R H=if n=0 then⟨True,.nilS,H,R,[]⟩else⟨isz≠0∧zok=true∧n*ib≤140737488355328∧n≤4611686018427387904∧news.all V.one=true,.sl H.next 0 n isz none,H.new (.ty e news),R,[]⟩:=rfl
def apL(o:Option Blk)(e:TypeId)(isz ib:Nat)(zok:Bool)(b off len sz:Nat)(news:ZA)(n:Nat)(R:ZN)(H:Hp):AR:=
 match o with
 |some (.cells cs)=>⟨sz=isz∧isz≠0∧zok=true∧off+len*sz≤cs.length∧(len+n)*ib≤140737488355328∧len+n≤4611686018427387904∧news.all V.one=true,
  .sl H.next 0 (len+n) sz none,(H.kill b).new (.cells ((cs.drop off).take (len*sz)++news)),b::R,[b]⟩
 |some (.ty t cs)=>⟨sz=isz∧isz=1∧zok=true∧off+len*sz≤cs.length∧(len+n)*ib≤140737488355328∧len+n≤4611686018427387904∧news.all V.one=true∧t=e∧off=0,
  .sl H.next 0 (len+n) sz none,(H.kill b).new (.ty t ((cs.drop off).take (len*sz)++news)),b::R,[b]⟩
 |_=>.bad H
theorem zoK(t:TypeId)(cs:ZA)(e:TypeId)(isz ib:Nat)(zok:Bool)(b off len sz:Nat)(news:ZA)(n:Nat)(R:ZN):apL (some (.ty t cs)) e isz ib zok b off len sz news n R H=⟨sz=isz∧isz=1∧zok=true∧off+len*sz≤cs.length∧(len+n)*ib≤140737488355328∧len+n≤4611686018427387904∧news.all V.one=true∧t=e∧off=0,.sl H.next 0 (len+n) sz none,(H.kill b).new (.ty t ((cs.drop off).take (len*sz)++news)),b::R,[b]⟩:=rfl
theorem apL_some(cs:ZA)(e:TypeId)(isz ib:Nat)(zok:Bool)(b off len sz:Nat)(news:ZA)(n:Nat)(R:ZN):apL (some (.cells cs)) e isz ib zok b off len sz news n R H=⟨sz=isz∧isz≠0∧zok=true∧off+len*sz≤cs.length∧(len+n)*ib≤140737488355328∧len+n≤4611686018427387904∧news.all V.one=true,.sl H.next 0 (len+n) sz none,(H.kill b).new (.cells ((cs.drop off).take (len*sz)++news)),b::R,[b]⟩:=rfl
def apS_sl(re:Bool×TypeId)(isz ib:Nat)(zok:Bool)(b off len sz:Nat)(news:ZA)(n:Nat)(R:ZN):apS re isz ib zok (.sl b off len sz none) news n R H=if n=0 then⟨True,.sl b off len sz none,H,R,[]⟩else apL (H.get b) re.2 isz ib zok b off len sz news n R H:=by
 unfold apS apL;split
 ·rfl
 rcases hb:H.get b with _|y<;>first|(simp[hb];done)|(cases y<;>simp[hb])
def apM(o:Option Blk)(re:Bool×TypeId)(isz ib:Nat)(zok:Bool)(b off len sz k:Nat)(news:ZA)(n:Nat)(R:ZN)(H:Hp):AR:=
 match o with
 |some (.cells cs)=>if len+n≤k then
   ⟨sz=isz∧off+(len+n)*sz≤cs.length∧news.all V.one=true,.sl b off (len+n) sz (some k),H.put b (.cells (cs.take (off+len*sz)++news++cs.drop (off+len*sz+news.length))),b::R,[b]⟩
  else
   ⟨sz=isz∧isz≠0∧zok=true∧off+len*sz≤cs.length∧(len+n)*ib≤140737488355328∧len+n≤4611686018427387904∧news.all V.one=true,
    .sl H.next 0 (len+n) sz none,H.new (rowB re.1 re.2 ((cs.drop off).take (len*sz)++news)),b::R,[]⟩
 |some (.ro cs)=>if len+n≤k then .bad H
  else
   ⟨sz=isz∧isz≠0∧zok=true∧off+len*sz≤cs.length∧(len+n)*ib≤140737488355328∧len+n≤4611686018427387904∧news.all V.one=true,
    .sl H.next 0 (len+n) sz none,H.new (rowB re.1 re.2 ((cs.drop off).take (len*sz)++news)),b::R,[]⟩
 |_=>.bad H
def apM_some(cs:ZA)(e:TypeId)(isz ib:Nat)(zok:Bool)(b off len sz k:Nat)(news:ZA)(n:Nat)(R:ZN):apM (some (.cells cs)) (false,e) isz ib zok b off len sz k news n R H=if len+n≤k then
 ⟨sz=isz∧off+(len+n)*sz≤cs.length∧news.all V.one=true,.sl b off (len+n) sz (some k),H.put b (.cells (cs.take (off+len*sz)++news++cs.drop (off+len*sz+news.length))),b::R,[b]⟩
  else
   ⟨sz=isz∧isz≠0∧zok=true∧off+len*sz≤cs.length∧(len+n)*ib≤140737488355328∧len+n≤4611686018427387904∧news.all V.one=true,
    .sl H.next 0 (len+n) sz none,H.new (.cells ((cs.drop off).take (len*sz)++news)),b::R,[]⟩:=rfl
def zoJ(cs:ZA)(e:TypeId)(isz ib:Nat)(zok:Bool)(b off len sz k:Nat)(news:ZA)(n:Nat)(R:ZN):apM (some (.cells cs)) (true,e) isz ib zok b off len sz k news n R H=if len+n≤k then
 ⟨sz=isz∧off+(len+n)*sz≤cs.length∧news.all V.one=true,.sl b off (len+n) sz (some k),H.put b (.cells (cs.take (off+len*sz)++news++cs.drop (off+len*sz+news.length))),b::R,[b]⟩
  else
   ⟨sz=isz∧isz≠0∧zok=true∧off+len*sz≤cs.length∧(len+n)*ib≤140737488355328∧len+n≤4611686018427387904∧news.all V.one=true,
    .sl H.next 0 (len+n) sz none,H.new (.ty e ((cs.drop off).take (len*sz)++news)),b::R,[]⟩:=rfl
def zhI(cs:ZA)(e:TypeId)(isz ib:Nat)(zok:Bool)(b off len sz k:Nat)(news:ZA)(n:Nat)(R:ZN)(h:¬len+n≤k):apM (some (.ro cs)) (true,e) isz ib zok b off len sz k news n R H=⟨sz=isz∧isz≠0∧zok=true∧off+len*sz≤cs.length∧(len+n)*ib≤140737488355328∧len+n≤4611686018427387904∧news.all V.one=true,.sl H.next 0 (len+n) sz none,H.new (.ty e ((cs.drop off).take (len*sz)++news)),b::R,[]⟩:=Ye h
def apS_slk(re:Bool×TypeId)(isz ib:Nat)(zok:Bool)(b off len sz k:Nat)(news:ZA)(n:Nat)(R:ZN):apS re isz ib zok (.sl b off len sz (some k)) news n R H=if n=0 then⟨True,.sl b off len sz (some k),H,R,[]⟩else apM (H.get b) re isz ib zok b off len sz k news n R H:=by
 unfold apS apM;split
 ·rfl
 rcases hb:H.get b with _|y<;>first|(simp[hb];done)|(cases y<;>simp[hb])
def zbx(P:Program)(t:TypeId):Option (List (Nat×Nat)):=match P.underlying t with|some (.struct fs)=>placesOf P fs.toList|_=>none
def build_eq(t:TypeId)(z:Value)(pl:List (Nat×Nat))(ps:List (Nat×V))(hz:zaw P t=some z)(hp:zbx P t=some pl):
 zdp P t ps H=match zdd (pl[·]?) (cv z).cellsV ps with|some cs=>⟨zt (cv z)=true,.agg cs,H,[],[]⟩|none=>.bad H:=by
 unfold zbx at hp
 split at hp
 ·rename_i fs hu;simp only[zdp,hz,hu,hp];rfl
 ·cases hp
def zwr(o:Option ZA)(H:Hp)(k:ZA→AR):AR:=match o with|some cs=>k cs|none=>.bad H
@[congr]theorem fillK_congr {o o':Option ZA}{k:ZA→AR}(h:o=o'):zwr o H k=zwr o' H k:=by rw[h]
theorem zsB(cs:ZA)(k:ZA→AR):zwr (some cs) H k=k cs:=rfl
def zoe(pl:List (Nat×Nat))(cells:ZA):List (Nat×V)→Option ZA
 |[]=>some cells
 |(i,v)::rest=>match pl[i]? with
  |none=>none
  |some (off,size)=>bif zt v&&(v.cellsV.length==size)&&decide (off+size≤cells.length)then zoe pl (putCells cells off v.cellsV) rest else none
theorem zwq(pl:List (Nat×Nat))(cells:ZA):zoe pl cells []=some cells:=rfl
def ziO(pl:List (Nat×Nat))(cells:ZA)(i:Nat)(v:V)(r:List (Nat×V)):zoe pl cells ((i,v)::r)=match pl[i]? with
 |none=>none
 |some (off,size)=>bif zt v&&(v.cellsV.length==size)&&decide (off+size≤cells.length)then zoe pl (putCells cells off v.cellsV) r else none:=rfl
def zpZ(pl:List (Nat×Nat)):∀(ps:List (Nat×V))(cells:ZA),zdd (pl[·]?) cells ps=zoe pl cells ps
 |[],_=>rfl
 |(i,v)::r,cells=>by
  rw[ziO,zdd];cases h:pl[i]? with
  |none=>simp
  |some q=>
   obtain⟨off,size⟩:=q;simp only[];by_cases hc:zt v=true∧v.cellsV.length=size∧off+size≤cells.length
   ·rw[Yi hc,zpZ pl r];obtain⟨h1,h2,h3⟩:=hc;simp[h1,h2,h3]
   rw[Ye hc];by_cases h1:zt v=true
   ·by_cases h2:v.cellsV.length=size
    ·have h3:¬off+size≤cells.length:=fun h3=>hc ⟨h1,h2,h3⟩;simp[h1,h2,h3]
    have h4:(v.cellsV.length==size)=false:=by simp only[Ybq,ne_eq];exact h2
    rw[h4,YbR,Yaq];rfl
   have h4:zt v=false:=by simpa using h1
   rw[h4,Yaq,Yaq];rfl
def buK(z:Option Value)(pl:Option (List (Nat×Nat)))(ps:List (Nat×V))(H:Hp)(orig:AR):AR:=
 match z,pl with
 |some z,some pl=>zwr (zoe pl (cv z).cellsV ps) H fun cs=>⟨zt (cv z)=true,.agg cs,H,[],[]⟩
 |_,_=>orig
def zoS:=@zdp
def zxY(t:TypeId)(ps:List (Nat×V)):zdp P t ps H=buK (zaw P t) (zbx P t) ps H (zoS P t ps H):=by
 cases hz:zaw P t with
 |none=>rfl
 |some z=>
  cases hp:zbx P t with
  |some pl=>rw[build_eq t z pl ps hz hp,zpZ];rfl
  |none=>rfl
theorem buK_some(z:Value)(pl:List (Nat×Nat))(ps:List (Nat×V))(orig:AR):buK (some z) (some pl) ps H orig=zwr (zoe pl (cv z).cellsV ps) H fun cs=>⟨zt (cv z)=true,.agg cs,H,[],[]⟩:=rfl
def zcj(P:Program)(t:TypeId):Option (Nat×Value):=match zdv P t with
 |some e=>match zF P e,zaw P e with
  |some s,some z=>some (s,z)
  |_,_=>none
 |none=>none
def zhG(t:TypeId)(s:Nat)(z:Value)(v:V)(bs:ZH)(m:Nat)(hb:zcj P t=some (s,z))(hz:zt (cv z)=true)(hl:(cv z).cellsV.length=s)(hv:zt v=true)(hvl:v.cellsV.length=s)(hs:s≤16777216):zS P t 1 [(0,v)] ⟨bs,m⟩=⟨True,.sl m 0 1 s (some 1),⟨(m,.cells v.cellsV)::bs,m+1⟩,[],[]⟩:=by
 unfold zcj at hb;split at hb
 ·rename_i e he;split at hb
  ·rename_i s' z' h1 h2;simp only[Yx,Ybc]at hb;obtain⟨rfl,rfl⟩:=hb;have hzl:(zbe P e 1).length=s':=by
    simp only[zbe,h2];split
    ·rename_i c hc;rw[hc]at hl;simpa using hl
    simp[hl]
   have hput:putCells (zbe P e 1) 0 v.cellsV=v.cellsV:=by
    unfold putCells;split
    ·rename_i x hx;rw[hx]at hvl;match h:zbe P e 1,hzl with
     |[],hz=>simp at hz hvl;omega
     |[y],_=>rw[hx];rfl
     |y::y'::r,hz=>simp at hz hvl;omega
    simp only[YbS,YaY];rw[Ybx (by simp[hzl,hvl]),Yab]
   simp[zS,he,h1,h2,zdd,hv,hvl,hzl,hput,hz,hl,hs,Hp.new]
  cases hb
 cases hb
def bsK(o:Option (Nat×Value))(v:V)(H:Hp):AR:=
 match o with
 |some (s,z)=>if zt (cv z)=true∧(cv z).cellsV.length=s∧zt v=true∧v.cellsV.length=s∧s≤16777216 then⟨True,.sl H.next 0 1 s (some 1),H.new (.cells v.cellsV),[],[]⟩else .bad H
 |none=>.bad H
def mkK(i:Option (Nat×Nat×Bool))(z:Option Value)(zs:ZA)(l c:Int)(H:Hp):AR:=
 match i,z with
 |some (isz,ib,_),some z=>⟨zt (cv z)=true∧(cv z).cellsV.length=isz∧0≤l∧l≤c∧c≤9223372036854775807∧(ib:Int)*c≤281474976710656,.sl H.next 0 l.toNat isz (some c.toNat),H.new (.cells zs),[],[]⟩
 |_,_=>.bad H
def zeroE(P:Program)(t:TypeId):Option Value:=match zdv P t with|some e=>zaw P e|none=>none
def zgk(z:Option Value)(n:Nat):ZA:=match z with
 |some z=>
  match (cv z).cellsV with
  |[c]=>List.replicate n c
  |l=>(List.replicate n l).flatten
 |none=>[]
def make_eq(t:TypeId)(k k':IntKind)(l c:Int)(h:(appT P t).isSome=true):zaJ P t (.int k l) (.int k' c) H=mkK (appT P t) (zeroE P t) (zgk (zeroE P t) c.toNat) l c H:=by
 unfold appT at h;unfold zaJ mkK appT zeroE zgk;cases he:zdv P t with
 |none=>rfl
 |some e=>
  dsimp only;cases zho P e with
  |none=>rfl
  |some i=>cases hz:zaw P e<;>simp[zbe,hz]<;>rfl
theorem mkK_some(isz ib:Nat)(zok:Bool)(z:Value)(zs:ZA)(l c:Int):mkK (some (isz,ib,zok)) (some z) zs l c H=⟨zt (cv z)=true∧(cv z).cellsV.length=isz∧0≤l∧l≤c∧c≤9223372036854775807∧(ib:Int)*c≤281474976710656,.sl H.next 0 l.toNat isz (some c.toNat),H.new (.cells zs),[],[]⟩:=rfl
def zqF(k:IntKind)(x:Int)(n:Nat):zgk (some (.int k x)) n=ints k (List.replicate n x):=by simp[zgk,cv,cv1,V.cellsV,ints]
def aLen0:=@aLen
def zoM:=@zbm
def aConv0:=@zcX
def aIndex0:=@zb0
def zeA:=@zaa
def zle:=@zau
def aBin0:=@aBin
def zoP:=@zaB
def zoN:=@zaJ
def zc4 {α:Type}(u:Option TypeDesc)(r o:α):α:=match u with|some .string=>r|_=>o
theorem zqR {α:Type}(r o:α):zc4 (some .string) r o=r:=rfl
def zja {α:Type}(u:Option TypeDesc)(r o:α):α:=match u with|some .bool=>r|_=>o
theorem zm3 {α:Type}(r o:α):zja (some .bool) r o=r:=rfl
def zfk {α:Type}(u:Option Nat)(r o:α):α:=match u with|some _=>r|none=>o
theorem whenE_eq {α:Type}(n:Nat)(r o:α):zfk (some n) r o=r:=rfl
def whenI {α:Type}(u:Option TypeDesc)(r o:α):α:=match u with|some (.int _)=>r|_=>o
theorem whenI_eq {α:Type}(k:IntKind)(r o:α):whenI (some (.int k)) r o=r:=rfl
def rl_beql(t:TypeId)(a b:Bool):aBin P .eql t (.bool a) (.bool b) H=zja (P.underlying t) ⟨True,.bool (a==b),H,[],[]⟩ (aBin0 P .eql t (.bool a) (.bool b) H):=by
 unfold zja;split
 ·rename_i h;exact bin_beql t a b h
 rfl
def faC(o:Option (Nat×Bool×Nat))(x:V)(H:Hp)(orig:AR):AR:=match o with|some q=>faK (some q) x H|none=>orig
theorem zp0(q:Nat×Bool×Nat)(x:V)(orig:AR):faC (some q) x H orig=faK (some q) x H:=rfl
def zls(t:TypeId)(f:Nat)(x:V):zaB P t x f H=faC (zar P t f) x H (zoP P t x f H):=by
 cases h:zar P t f with
 |none=>rfl
 |some q=>rw[zp0,←h];exact zmd t f x (by rw[h];rfl)
def rl_index(t:TypeId)(s:ZL)(k:IntKind)(n:Int):zb0 P t (.str s) (.int k n) H=zc4 (P.underlying t) ⟨0≤n∧n<s.length,.int .u8 ((s.getD n.toNat 0).toNat:Int),H,[],[]⟩ (aIndex0 P t (.str s) (.int k n) H):=by
 unfold zc4;split
 ·rename_i h;exact zwc t s k n h
 rfl
def iaS(o:Option Nat)(b off len sz:Nat)(kc:Option Nat)(n:Int)(H:Hp)(orig:AR):AR:=match o with|some s=>(if s=sz then⟨0≤n∧n<len,.ptr b (off+n.toNat*sz),H,[],[]⟩else orig)|none=>orig
def iaS_some(b off len sz:Nat)(kc:Option Nat)(n:Int)(orig:AR):iaS (some sz) b off len sz kc n H orig=⟨0≤n∧n<len,.ptr b (off+n.toNat*sz),H,[],[]⟩:=Yi rfl
def rl_ia_sl(t:TypeId)(sz b off len:Nat)(kc:Option Nat)(k:IntKind)(n:Int):zaa P t (.sl b off len sz kc) (.int k n) H=iaS (zbz P t) b off len sz kc n H (zeA P t (.sl b off len sz kc) (.int k n) H):=by
 unfold iaS;split
 ·rename_i s h;split
  ·rename_i e;subst e;exact ia_sl t s b off len kc k n h
  rfl
 rfl
def rl_ia_fs(t:TypeId)(len:Nat)(cs:ZA)(k:IntKind)(n:Int):zaa P t (.fs cs len) (.int k n) H=zfk (zbz P t) (iaF (zbz P t) cs len n H) (zeA P t (.fs cs len) (.int k n) H):=by
 unfold zfk;split
 ·rename_i s h;rw[ia_fs t len cs k n (by rw[h];rfl),h]
 rfl
def iaC(o:Option (Nat×Nat))(b off:Nat)(n:Int)(H:Hp)(orig:AR):AR:=match o with|some q=>iaA (some q) b off n H|none=>orig
theorem zpV(q:Nat×Nat)(b off:Nat)(n:Int)(orig:AR):iaC (some q) b off n H orig=iaA (some q) b off n H:=rfl
def zup(t:TypeId)(b off:Nat)(k:IntKind)(n:Int):zaa P t (.ptr b off) (.int k n) H=iaC (arrS P t) b off n H (zeA P t (.ptr b off) (.int k n) H):=by
 cases h:arrS P t with
 |none=>rfl
 |some q=>rw[zpV,←h];exact ia_arr t b off k n (by rw[h];rfl)
def zrl(t:TypeId)(s:ZL):aLen P t (.str s) H=zc4 (P.underlying t) ⟨True,.int .i64 s.length,H,[],[]⟩ (aLen0 P t (.str s) H):=by
 unfold zc4;split
 ·rename_i h;exact len_str t s h
 rfl
def znq(t:TypeId):aLen P t .nilS H=zfk (zbz P t) ⟨True,.int .i64 0,H,[],[]⟩ (aLen0 P t .nilS H):=by
 unfold zfk;split
 ·rename_i h;exact len_nilS t (by rw[h];rfl)
 rfl
def zuo(t:TypeId)(n:Nat)(cs:ZA):aLen P t (.fs cs n) H=zfk (zbz P t) ⟨True,.int .i64 n,H,[],[]⟩ (aLen0 P t (.fs cs n) H):=by
 unfold zfk;split
 ·rename_i h;exact len_fs t n cs (by rw[h];rfl)
 rfl
def zun(t:TypeId)(b o n s:Nat)(k:Option Nat):aLen P t (.sl b o n s k) H=zfk (zbz P t) ⟨True,.int .i64 n,H,[],[]⟩ (aLen0 P t (.sl b o n s k) H):=by
 unfold zfk;split
 ·rename_i h;exact len_sl t b o n s k (by rw[h];rfl)
 rfl
def zlr(t:TypeId)(s:ZL)(lo hi:Option V):zbm P t (.str s) lo hi none H=zc4 (P.underlying t) (bndK (bnd lo 0) (bnd hi s.length) H fun l h=>⟨0≤l∧l≤h∧h≤s.length,.str ((s.take h.toNat).drop l.toNat),H,[],[]⟩) (zoM P t (.str s) lo hi none H):=by
 unfold zc4;split
 ·rename_i h;exact zt9 t s lo hi h
 rfl
def znp(t:TypeId)(len:Nat)(cs:ZA)(lo hi:Option V):zbm P t (.fs cs len) lo hi none H=zfk (zbz P t) (bndK (bnd lo 0) (bnd hi len) H fun l h=>slF (zbz P t) cs len l h H) (zoM P t (.fs cs len) lo hi none H):=by
 unfold zfk;split
 ·rename_i h;exact slice_fs t len cs lo hi (by rw[h];rfl)
 rfl
def slS(o:Option Nat)(sz:Nat)(r orig:AR):AR:=match o with|some s=>(if s=sz then r else orig)|none=>orig
def slS_some(sz:Nat)(r orig:AR):slS (some sz) sz r orig=r:=Yi rfl
def zno(t:TypeId)(sz b off len:Nat)(kc:Option Nat)(lo hi:Option V):zbm P t (.sl b off len sz kc) lo hi none H=slS (zbz P t) sz (bndK (bnd lo 0) (bnd hi len) H fun l h=>⟨0≤l∧l≤h∧h≤(kc.getD len:Nat),.sl b (off+l.toNat*sz) (h.toNat-l.toNat) sz (kc.map (· - l.toNat)),H,[],[]⟩) (zoM P t (.sl b off len sz kc) lo hi none H):=by
 unfold slS;split
 ·rename_i s h;split
  ·rename_i e;subst e;exact slice_sl t s b off len kc lo hi h
  rfl
 rfl
def znr(s d:TypeId)(k':IntKind)(n:Int):zcX P s d (.int k' n) H=whenI (P.underlying s) (cvI (P.underlying d) n H) (aConv0 P s d (.int k' n) H):=by
 unfold whenI;split
 ·rename_i h;exact conv_int s d k' n (by rw[h];rfl) (by rw[h];intro e;simp)
 rfl
def zri(t:TypeId)(s:ZL):zau P H t (.str s) 1=zc4 (P.underlying t) (some (s.map zq,s.length,[])) (zle P H t (.str s) 1):=by
 unfold zc4;split
 ·rename_i h;exact src_str t s h
 rfl
def zum(t:TypeId)(sz b off n:Nat)(kc:Option Nat):zau P H t (.sl b off n sz kc) sz=zfk (zbz P t) (srS (H.get b) b off n sz) (zle P H t (.sl b off n sz kc) sz):=by
 unfold zfk;split
 ·rename_i h;exact src_sl t sz b off n kc (by rw[h];rfl)
 rfl
def mkC(i:Option (Nat×Nat×Bool))(z:Option Value)(zs:ZA)(l c:Int)(H:Hp)(orig:AR):AR:=match i with|some q=>mkK (some q) z zs l c H|none=>orig
theorem zpD(q:Nat×Nat×Bool)(z:Option Value)(zs:ZA)(l c:Int)(orig:AR):mkC (some q) z zs l c H orig=mkK (some q) z zs l c H:=rfl
def rl_make(t:TypeId)(k k':IntKind)(l c:Int):zaJ P t (.int k l) (.int k' c) H=mkC (appT P t) (zeroE P t) (zgk (zeroE P t) c.toNat) l c H (zoN P t (.int k l) (.int k' c) H):=by
 cases h:appT P t with
 |none=>rfl
 |some q=>rw[zpD,←h];exact make_eq t k k' l c (by rw[h];rfl)
def bsC(o:Option (Nat×Value))(v:V)(H:Hp)(orig:AR):AR:=
 match o with
 |some (s,z)=>if zt (cv z)=true∧(cv z).cellsV.length=s∧zt v=true∧v.cellsV.length=s∧s≤16777216 then⟨True,.sl H.next 0 1 s (some 1),H.new (.cells v.cellsV),[],[]⟩else orig
 |none=>orig
theorem zqp(s:Nat)(z:Value)(v:V)(orig:AR):bsC (some (s,z)) v H orig=if zt (cv z)=true∧(cv z).cellsV.length=s∧zt v=true∧v.cellsV.length=s∧s≤16777216 then⟨True,.sl H.next 0 1 s (some 1),H.new (.cells v.cellsV),[],[]⟩else orig:=rfl
def zcs:=@zS
def zjC(t:TypeId)(v:V)(bs:ZH)(m:Nat):zS P t 1 [(0,v)] ⟨bs,m⟩=bsC (zcj P t) v ⟨bs,m⟩ (zcs P t 1 [(0,v)] ⟨bs,m⟩):=by
 cases h:zcj P t with
 |none=>rfl
 |some q=>
  obtain⟨s,z⟩:=q;rw[zqp];split
  ·rename_i hc;obtain⟨h1,h2,h3,h4,h5⟩:=hc;rw[zhG t s z v bs m h h1 h2 h3 h4 h5];rfl
  rfl
theorem ar_bad(H:Hp):AR.bad H=⟨False,.any,H,[],[]⟩:=rfl
theorem nthV_nil(n:Nat):nthV [] n=.any:=rfl
def eqV_any(t:TypeId)(y:V):eqV P t .any y=none:=by unfold eqV;split<;>first|rfl|contradiction
def any_bin(op:BinOp)(t:TypeId)(y:V):aBin P op t .any y H=.bad H:=by
 have h:aBin P op t .any y H=XR.ar H (xEq P op t .any y H):=by cases y<;>rfl
 rw[h];unfold xEq;rw[eqV_any];cases op<;>rfl
def pick_f(a:V)(y:Bool):zd9 (.bool false) a (.bool y) H=.ok true True (.bool y) H ⟨[],[],0,0⟩:=by unfold zd9;cases ha:a.val<;>simp[V.val,V.cond]
def zcd(k:IntKind)(l:ZN)(n:Nat):(nats k l).take n=nats k (l.take n):=by simp[nats,List.map_take]
def zwC(k:IntKind)(l:ZN)(n:Nat):(nats k l).drop n=nats k (l.drop n):=by simp[nats,Yb5]
theorem nats_nil(k:IntKind):nats k []=[]:=rfl
def zyx(k:IntKind)(l:ZN)(n:Nat):nats k l++[.int k n]=nats k (l++[n]):=by simp[nats]
def zeL(l:List ZL)(n:Nat):(strs l).take n=strs (l.take n):=by simp[strs,List.map_take]
def zwB(l:List ZL)(n:Nat):(strs l).drop n=strs (l.drop n):=by simp[strs,Yb5]
def zyw(l:List ZL)(s:ZL):strs l++[.str s]=strs (l++[s]):=by simp[strs]
theorem strs_nil:strs []=[]:=rfl
def zqZ(x:V)(r:ZA)(n:Nat):(x::r).take n=bif n==0 then []else x::r.take (n-1):=by cases n<;>simp
attribute [go_sem] Nat.reduceBEq Nat.reduceSub Nat.reduceAdd Nat.reduceMul Nat.reduceLT Nat.reduceLeDiff Nat.reduceEqDiff Int.reduceToNat Int.reduceAdd Int.reduceSub Int.reduceMul Int.reduceLT Int.reduceLE Int.reduceEq
attribute [push_cast] List.length_take List.length_drop List.length_append List.length_set List.length_replicate List.length_cons List.length_nil zb9 zpM zcm
end Go.Ab
