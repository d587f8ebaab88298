/- The operations' soundness, first part: memory. -/
import Derived.Test.YthbimeikbkjnkaaGreatDoorAbOpDef
set_option linter.all false
namespace Go.Ab
def Snd(P:Program)(g:G)(base:Nat)(H:Hp)(D:Nat→Prop)(w:World)(r:AR)(s:Sem Value):Prop:=
 ∃ g' w' vc,s.run P w=.ok vc w'∧VRel g' r.v vc∧Post g g' base H r.h D r.W w w'
def SndU(P:Program)(g:G)(base:Nat)(H:Hp)(D:Nat→Prop)(w:World)(r:AR)(s:Sem Unit):Prop:=
 r.v=undefV∧∃ g' w',s.run P w=.ok () w'∧Post g g' base H r.h D r.W w w'
section
variable {P:Program}{g:G}{base:Nat}{H:Hp}{D:Nat→Prop}{w:World}
theorem Snd.val(h:Inv g base H D w){p:Prop}{x:V}{v:Value}(R:List Nat){s:Sem Value}(hs:s.run P w=.ok v w)(hx:VRel g x v):Snd P g base H D w ⟨p,x,H,R,[]⟩ s:=
 ⟨g,w,v,hs,hx,Post.refl h rfl rfl ⟨rfl,Nat.le_refl _⟩ rfl⟩
theorem zdC {t:TypeId}{b:Bool}(h:aggT P t=some b)(w:World):(isAgg t).run P w=.ok b w:=by
 unfold aggT at h;cases hu:P.underlying t with
 |none=>simp [hu]at h
 |some d=>simp only [hu]at h;simp only [isAgg,Sem.run_bind,run_underlying hu,Result.andThen_ok];cases d<;>simp at h<;>subst h<;>rfl
theorem zZ {t:TypeId}{n:Nat}(h:zI P t=some n)(w:World):(sizeOf t).run P w=.ok n w:=by
 unfold zI at h;cases hi:P.info? t with
 |none=>simp [hi]at h
 |some i=>simp [hi]at h;subst h;simp [sizeOf,typeInfo,hi]
theorem za3 {t:TypeId}{z:Value}(h:zaK P t=some z)(w:World):(zeroValue t).run P w=.ok z w:=by
 unfold zaK at h;cases hi:P.info? t with
 |none=>simp [hi]at h
 |some i=>simp [hi]at h;simp [zeroValue,typeInfo,hi,h]
theorem zcX {t e:TypeId}(h:zde P t=some e):P.underlying t=some (.slice e):=by
 unfold zde at h;split at h
 ·rename_i e' hu;cases h;exact hu
 ·cases h
theorem zbD {t:TypeId}{ag:Bool}{n c o:Nat}{arr:Array Value}{ty:TypeId}{fr:Nat×Nat}{cs:List V}
 (ha:aggT P t=some ag) (hn:zI P t=some n) (hh:w.heap[c]? =some (.cells arr ty fr)) (hp:PW g cs (fun i=>arr[o+i]?)) (hpre:zbk ag n cs):
 ∃ v,(loadVar t ⟨c,o,none⟩).run P w=.ok v w∧VRel g (zef ag n cs) v:=by
 simp only [loadVar,Sem.run_bind,zdC ha,Result.andThen_ok]
 cases ag with
 |true=>
  simp only [zbk,if_true]at hpre
  have hl:(cs.take n).length=n:=by simp [hpre.2]
  have hb:o+n≤arr.size:=by have:=(hp.take n).size (fun e=>by rw [e]at hl;simp at hl;omega);rw [hl]at this;exact this
  simp only [if_true,Sem.run_bind,zZ hn,Result.andThen_ok,zam hh hb]
  exact⟨_,rfl,by simpa [zef] using VRel.mk_agg (by simp [hpre.2];omega) ((hp.take n).extract hl)⟩
 |false=>
  simp only [zbk,Bool.false_eq_true,if_false]at hpre
  simp only [Bool.false_eq_true,if_false,run_load,cell_of hh]
  match cs,hpre,hp with
  |x::cs,_,hp=>
   obtain⟨v,hv,r⟩:=hp 0 x rfl
   have hv':arr[o]? =some v:=by simpa using hv
   rw [hv']
   exact⟨v,rfl,by simpa [zef] using r⟩
theorem aLoad_ok(h:Inv g base H D w){t:TypeId}{a:V}{ac:Value}(ha:VRel g a ac)(hp:(zbT P t a H).pre)(hD:∀ b∈(zbT P t a H).R,D b):
 Snd P g base H D w (zbT P t a H) (Instr.loadAt t ac):=by
 unfold zbT at*
 split at hp
 ·rename_i ag n cs hag hn
  obtain⟨c,o,arr,rfl,hphi,hpw⟩:=ha.inv_fp
  obtain⟨ty,fr,hh⟩:=h.frz _ _ hphi
  obtain⟨v,hv,hr⟩:=zbD (P:=P) hag hn hh hpw hp
  exact Snd.val h _ (by simpa [Instr.loadAt,Instr.sureAddr] using hv) hr
 ·rename_i ag n b off hag hn
  split at hp
  ·rename_i cs hg
   simp only [hag,hn,hg]at hD ⊢
   obtain⟨T,hm,rfl⟩:=ha.inv_ptr
   obtain⟨T1,o,m1,p1,h1,r1⟩:=h.cont b _ (hD b (by simp)) hg
   obtain rfl:T1=T:=by rw [hm]at m1;exact(Option.some.inj m1).symm
   cases r1 with
   |cells hs hb hpw=>
    rename_i arr ty
    have hpw':PW g (cs.drop off) (fun i=>arr[T1.sh+off+i]?):=(hpw.drop off).congr fun i _=>by show _=arr[T1.sh+(off+i)]?;rw [←Nat.add_assoc]
    obtain⟨v,hv,hr⟩:=zbD (P:=P) hag hn h1 hpw' hp
    exact Snd.val h _ (by simpa [Instr.loadAt,Instr.sureAddr] using hv) hr
  ·rename_i ty cs hg
   simp only [hag,hn,hg]at hD ⊢
   obtain⟨T,hm,rfl⟩:=ha.inv_ptr
   obtain⟨T1,o,m1,p1,h1,r1⟩:=h.cont b _ (hD b (by simp)) hg
   obtain rfl:T1=T:=by rw [hm]at m1;exact(Option.some.inj m1).symm
   obtain⟨arr,rfl,hs,hb,hsh,hpw⟩:=r1.ty_row
   have hpw':PW g (cs.drop off) (fun i=>arr[T1.sh+off+i]?):=(hpw.drop off).congr fun i _=>by show _=arr[T1.sh+(off+i)]?;rw [←Nat.add_assoc]
   obtain⟨v,hv,hr⟩:=zbD (P:=P) hag hn h1 hpw' hp
   exact Snd.val h _ (by simpa [Instr.loadAt,Instr.sureAddr] using hv) hr
  ·exact hp.elim
 ·exact hp.elim
theorem zmD {x:V}(h:zq x=true):x.one=true∨∃ l,x=.agg l:=by
 cases x<;>first|exact .inr ⟨_,rfl⟩|exact .inl h
theorem PW.ones {g:G}{l:List V}{arr:Array Value}(p:PW g l (fun i=>arr[i]?))(hs:arr.size=l.length)(h:l.all V.one=true):∀ v∈arr.toList,v.oneCell'=true:=by
 intro v hv;obtain⟨i,hi,rfl⟩:=List.getElem_of_mem hv;have hi':i<l.length:=by simpa [hs] using hi
 obtain⟨u,hu,r⟩:=p i l[i] (by simp [hi']);have hu':arr[i]? =some u:=hu;have:arr.toList[i]=u:=by
  have h2:i<arr.size:=by simpa using hi
  rw [Array.getElem?_eq_getElem h2]at hu';simpa using Option.some.inj hu'
 rw [this];exact r.oneCell (by rw [List.all_eq_true]at h;exact h _ (List.getElem_mem hi'))
theorem zab {x:V}{v:Value}(hx:VRel g x v)(h:zq x=true):
 v.cells.size=x.cellsV.length∧PW g x.cellsV (fun i=>v.cells[i]?)∧∀ u∈v.cells.toList,u.oneCell'=true:=by
 obtain⟨hs,hp⟩:=hx.cells (zmD h)
 refine⟨hs,hp,hp.ones hs ?_⟩
 cases x<;>first|exact h|(simp [zq,V.one]at h;done)|simp [V.cellsV,V.one]
theorem aBox_ok(h:Inv g base H D w){t:TypeId}{x:V}{xc:Value}(hx:VRel g x xc)(hp:(aBox x H).pre):Snd P g base H D w (aBox x H) (Instr.box t xc):=by obtain⟨hs,hpw,_⟩:=zab hx hp;refine⟨_,w.alloc (.cells xc.cells t),.pointer (some ⟨w.heap.size,0,none⟩),by simp [Instr.box,newVar,newRow],?_,Post.new h (o:=.cells xc.cells t) (tot:=xc.cells.size) rfl rfl ⟨rfl,Nat.le_refl _⟩ rfl (.cells rfl (by simp [hs]) (by simpa using hpw))⟩;exact .ptr (T:=⟨w.heap.size,0,xc.cells.size⟩) (by simp [G.add])
theorem zvn(g:G)(v:Value):VRel g (cv1 v) v:=by
 unfold cv1;split<;>first|exact .bool _|exact .int _ _|exact .str rfl|exact .nilP|exact .nilS|exact .nilM|exact .nilF|exact .nilI|exact .any _
theorem zvm(g:G)(arr:Array Value):PW g (arr.toList.map cv1) (fun i=>arr[i]?):=by
 intro i x hx;rw [List.getElem?_map]at hx;cases e:arr.toList[i]? with
 |none=>rw [e]at hx;cases hx
 |some v=>rw [e]at hx;cases hx;exact⟨v,by show arr[i]? =some v;rw [←Array.getElem?_toList];exact e,zvn g v⟩
theorem zda(g:G)(v:Value):VRel g (cv v) v:=by
 unfold cv;split
 ·exact VRel.mk_agg (by simp) (zvm g _)
 ·exact VRel.mk_tup (by simp) (zvm g _)
 ·exact zvn g _
theorem zxe(h:Inv g base H D w){t:TypeId}(old:Value)(hp:(zdN P t H).pre):Snd P g base H D w (zdN P t H) (Instr.alloc t true old):=by
 unfold zdN at*;split at hp
 ·rename_i z hz;obtain⟨hs,hpw,_⟩:=zab (zda g z) hp;have hrel:BlkRel g (rowB (zkj P t) t (cv z).cellsV) ⟨w.heap.size,0,z.cells.size⟩ (.cells z.cells t (0,0)):=by
   cases zkj P t with
   |true=>exact .ty rfl (by simp [hs]) rfl hpw
   |false=>exact .cells rfl (by simp [hs]) (by simpa using hpw)
  refine⟨_,w.alloc (.cells z.cells t),.pointer (some ⟨w.heap.size,0,none⟩),by simp [Instr.alloc,za3 hz,newVar,newRow],?_,Post.new h (o:=.cells z.cells t) (tot:=z.cells.size) rfl rfl ⟨rfl,Nat.le_refl _⟩ rfl hrel⟩;exact .ptr (T:=⟨w.heap.size,0,z.cells.size⟩) (by simp [G.add])
 ·exact hp.elim
theorem zbL {cs xs:List V}{off:Nat}(h:off+xs.length≤cs.length):(putCells cs off xs).length=cs.length:=by
 unfold putCells;split
 ·simp
 ·simp;omega
theorem PW.put {cs xs:List V}{get get':Nat→Option Value}{vs:List Value}{off:Nat}(p:PW g cs get)(q:PW g xs (fun i=>vs[i]?))(hl:vs.length=xs.length)
 (hb:off+xs.length≤cs.length) (h:∀ k,get' k=if off≤k∧k<off+xs.length then vs[k - off]? else get k):PW g (putCells cs off xs) get':=by
 unfold putCells
 split
 ·rename_i x
  match vs,hl with
  |[v],_=>
   obtain⟨u,hu,r⟩:=q 0 x rfl
   have hu':([v]:List Value)[0]? =some u:=hu
   simp only [List.getElem?_cons_zero,Option.some.injEq]at hu'
   subst hu'
   refine p.set r ?_ fun i hi=>?_
   ·rw [h,if_pos (by simp)];simp
   ·rw [h,if_neg (by simp;omega)]
 ·exact p.splice q hl hb h
theorem zw7(h:Inv g base H D w){t:TypeId}{a x:V}{ac xc:Value}(ha:VRel g a ac)(hx:VRel g x xc)(hp:(zdb P t a x H).pre)(hD:∀ b∈(zdb P t a x H).R,D b):
 SndU P g base H D w (zdb P t a x H) (Instr.storeAt t ac xc):=by
 unfold zdb at*
 split at hp
 ·rename_i n b off hn
  split at hp
  ·rename_i cs hg
   obtain⟨hok,hlen,hb⟩:=hp
   obtain⟨T,hm,rfl⟩:=ha.inv_ptr
   simp only [hn,hg]at hD ⊢
   have hDb:=hD b (by simp)
   obtain⟨T1,o,m1,p1,h1,r1⟩:=h.cont b _ hDb hg
   obtain rfl:T1=T:=by rw [hm]at m1;exact(Option.some.inj m1).symm
   obtain⟨hs,hpw,hones⟩:=zab hx hok
   cases r1 with
   |cells hsz hbd hcs=>
    rename_i arr ty
    obtain⟨w',arr',hr,hh,hs',hk,honly⟩:=zbe (P:=P) (c:=T1.c) (o:=T1.sh+off) xc.cells.toList 0 w arr h1 hones (by simp [hs,hlen];omega)
    refine⟨rfl,g,w',?_,Post.put h hDb hg hm hh honly.other honly.size honly.os honly.tape honly.output ?_⟩
    ·simp only [Instr.storeAt,Instr.sureAddr,Sem.run_bind,Sem.run_pure,Result.andThen_ok,storeVar,zZ hn]
     rw [if_neg (by rw [hs,hlen];simp)]
     simpa using hr
    ·refine .cells (hs'.trans hsz) (by rw [zbL (by omega)];exact hbd) ?_
     refine PW.put hcs (vs:=xc.cells.toList) (by simpa using hpw) (by simpa using hs) (by omega) fun k=>?_
     show arr'[T1.sh+k]? =_
     rw [hk]
     simp only [Nat.add_zero,Array.length_toList,hs,hlen]
     by_cases hc:off≤k∧k<off+n
     ·rw [if_pos (by omega),if_pos hc];congr 1;omega
     ·rw [if_neg (by omega),if_neg hc]
  ·rename_i t' cs hg
   obtain⟨hok,hlen,hb⟩:=hp
   obtain⟨T,hm,rfl⟩:=ha.inv_ptr
   simp only [hn,hg]at hD ⊢
   have hDb:=hD b (by simp)
   obtain⟨T1,o,m1,p1,h1,r1⟩:=h.cont b _ hDb hg
   obtain rfl:T1=T:=by rw [hm]at m1;exact(Option.some.inj m1).symm
   obtain⟨hs,hpw,hones⟩:=zab hx hok
   obtain⟨arr,rfl,hsz,hbd,hsh,hcs⟩:=r1.ty_row
   obtain⟨w',arr',hr,hh,hs',hk,honly⟩:=zbe (P:=P) (c:=T1.c) (o:=T1.sh+off) xc.cells.toList 0 w arr h1 hones (by simp [hs,hlen];omega)
   refine⟨rfl,g,w',?_,Post.put h hDb hg hm hh honly.other honly.size honly.os honly.tape honly.output ?_⟩
   ·simp only [Instr.storeAt,Instr.sureAddr,Sem.run_bind,Sem.run_pure,Result.andThen_ok,storeVar,zZ hn]
    rw [if_neg (by rw [hs,hlen];simp)]
    simpa using hr
   ·refine .ty (hs'.trans hsz) (by rw [zbL (by omega)];omega) hsh ?_
    refine PW.put hcs (vs:=xc.cells.toList) (by simpa using hpw) (by simpa using hs) (by omega) fun k=>?_
    show arr'[k]? =_
    rw [hk,hsh]
    simp only [Nat.add_zero,Nat.zero_add,Array.length_toList,hs,hlen]
  ·exact hp.elim
 ·exact hp.elim
end
end Go.Ab
