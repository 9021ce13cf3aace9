import Derived.Test.YtapdekacpecgiaaGreatGB
import Derived.Deep.OwnRows
import Derived.Laws.CopyRow
namespace Go.Proofs.YtapdekacpecgiaaGreat
open Go.RowKit
set_option linter.unusedVariables false
set_option linter.unusedSimpArgs false
set_option linter.constructorNameAsVariable false
section
mutual
theorem B8:∀ (t:T),t.plain=true→t.pure=true∧t.refFree=true∧t.solid=true∧t.zc.length=t.size
 | .int ..,_=>by simp [T.pure,T.refFree,T.solid,T.zc,T.size]
 | .bool ..,_=>by simp [T.pure,T.refFree,T.solid,T.zc,T.size]
 | .str ..,_=>by simp [T.pure,T.refFree,T.solid,T.zc,T.size]
 | .nil,_=>by simp [T.pure,T.refFree,T.solid,T.zc,T.size]
 | .agg l,h=>by
  have:=Mb l (by simpa [T.plain] using h)
  simp [T.pure,T.refFree,T.solid,T.zc,T.size,this]
 | .any,h=>by simp [T.plain] at h
 | .sl ..,h=>by simp [T.plain] at h
 | .win ..,h=>by simp [T.plain] at h
 | .box ..,h=>by simp [T.plain] at h
 | .fptr ..,h=>by simp [T.plain] at h
 | .tup ..,h=>by simp [T.plain] at h
 | .fn ..,h=>by simp [T.plain] at h
 | .ref ..,h=>by simp [T.plain] at h
 | .addr ..,h=>by simp [T.plain] at h
theorem Mb:∀ (l:List T),T.plainL l=true→T.pureL l=true∧T.refFreeL l=true∧T.solidL l=true∧(T.zcL l).length=T.sizeL l
 | [],_=>by simp [T.pureL,T.refFreeL,T.solidL,T.zcL,T.sizeL]
 | t::l,h=>by
  simp only [T.plainL,Bool.and_eq_true] at h
  have h1:=B8 t h.1
  have h2:=Mb l h.2
  simp [T.pureL,T.refFreeL,T.solidL,T.zcL,T.sizeL,h1,h2]
end
mutual
theorem Gt (X:Cx) (s:Nat):∀ (t:T) (p:List Nat),t.plain=true→CR X s p t t.zc
 | .int ..,_,_=>by simp [CR,T.zc]
 | .bool ..,_,_=>by simp [CR,T.zc]
 | .str ..,_,h=>by simp only [CR,T.zc,true_and];exact Con.ok_free X (by simpa [T.plain] using h)
 | .nil,_,_=>by simp [CR,T.zc]
 | .agg l,p,h=>by
  simp only [CR,T.zc]
  exact Uj X s l p 0 (by simpa [T.plain] using h)
 | .any,_,h=>by simp [T.plain] at h
 | .sl ..,_,h=>by simp [T.plain] at h
 | .win ..,_,h=>by simp [T.plain] at h
 | .box ..,_,h=>by simp [T.plain] at h
 | .fptr ..,_,h=>by simp [T.plain] at h
 | .tup ..,_,h=>by simp [T.plain] at h
 | .fn ..,_,h=>by simp [T.plain] at h
 | .ref ..,_,h=>by simp [T.plain] at h
 | .addr ..,_,h=>by simp [T.plain] at h
theorem Uj (X:Cx) (s:Nat):∀ (l:List T) (p:List Nat) (i:Nat),T.plainL l=true→CRL X s p i l (T.zcL l)
 | [],_,_,_=>by simp [CRL,T.zcL]
 | t::l,p,i,h=>by
  simp only [T.plainL,Bool.and_eq_true] at h
  simp only [CRL,T.zcL]
  have hl:=(B8 t h.1).2.2.2
  rw [List.take_append_of_le_length (by omega),List.take_of_length_le (by omega),List.drop_append_of_le_length (by omega),List.drop_of_length_le (by omega),List.nil_append]
  exact ⟨Gt X s t _ h.1,Uj X s l p (i+1) h.2⟩
end
theorem Bw {t:T} {cs:List Value} (hl:cs.length=t.size) (h1:∀ v∈cs,v.oneCell'=true):(mkv t cs).cells=cs.toArray:=by
 cases t with
 | agg l=>rfl
 | _=>
  simp only [T.size] at hl
  match cs,hl with
  | [v],_=>
   have:=h1 v (by simp)
   cases v <;> simp_all [mkv,Value.cells,Value.oneCell']
section
variable {C:Ctx} {env:Env} {V:Nat→Value} {w:World} {κ:Kap} {a:Act} {AF:FuncId→List T→T→Prop} {U:List (Nat×Slot)} {R:List Nat} {n:Nat}
variable {tt:Tt} {P:Program}
theorem Bv (w:World) (o:Obj) (b:Nat) (h:b<w.heap.size):(w.alloc o).heap[b]? = w.heap[b]?:=Below.heap_alloc w o b h
theorem H3 [Small n] (hd : a.defers = []) (hn : a.tmps.size = n) (hI : Inv C env V w κ) (hV : ∀ t, t < 1000000 → V t = a.tmps.getD t undef) {d : Nat} (hdn : d < n) (nd : T) (hnode : nd.isNode = true) (hr : nd.refFree = true) (o : Obj) (head : Value)
  (hx:∀ X':Cx,X'.sz=C.P.cellsOf→X'.w=w.alloc o→X'.F=C.F→X'.kap w.heap.size=some (d,[],head)→CR X' d [] nd [head]) :
  FR C n ((d,⟨verOf (lk env d)+1,.own nd⟩)::env) (a.put (some d) head) (w.alloc o):=by
 have hC0:C.w0.heap.size≤w.heap.size:=hI.size
 obtain ⟨κ',hI',_⟩:=hI.fresh [] d (Small.ne hdn) nd [head] (w.alloc o) (fun b=>if b=w.heap.size then some ([],head) else none) rfl rfl rfl (by simp)
  (fun b hb=>Bv w o b (Nat.lt_of_lt_of_le hb.1 hC0)) (fun b s p v hk _ _=>Bv w o b (hI.col b s p v hk).1)
  (fun b p v hb=>by
   split at hb
   ·rename_i e;subst e
    refine ⟨by simp,fun hF=>by have:=hF.1;omega,fun s p v hk=>?_⟩
    have:=(hI.col _ _ _ _ hk).1
    omega
   ·cases hb)
  (fun b b' p v v' hb hb'=>by
   split at hb
   ·split at hb'
    ·rename_i e e';rw [e,e']
    ·cases hb'
   ·cases hb) hr
  (fun X' h1 h2 h3 h4=>hx X' h1 h2 h3 (h4 _ [] head (by simp)))
 have hm:mkv nd [head]=head:=by cases nd <;> simp_all [T.isNode,mkv]
 rw [hm] at hI'
 refine B6 hd hn hdn (by simpa [kill] using hI') (fun t ht=>?_)
 by_cases e:t=d
 ·simp [e,upd]
 ·rw [Al _ _ _ _ e,if_neg e];exact hV t ht
theorem Bx {d:Option Nat} {x:T} {ups:List (Nat×Slot)} (h:(finOwn d x ups).sat AF env U R):∃ t,d=some t∧U=(t,⟨verOf (lk env t)+1,.own x⟩)::ups:=by
 cases d with
 | none=>simp [finOwn,Rd.sat] at h
 | some d=>
  simp only [finOwn,Rd.sat] at h
  obtain ⟨R',⟨rfl,_⟩,_⟩:=h
  exact ⟨d,rfl,rfl⟩
theorem Oe (e:TypeId) (v:Value) (w:World):(newVar e v).run P w=.ok ⟨w.heap.size,0,none⟩ (w.alloc (.cells v.cells e)):=by
 simp only [newVar,newRow,Sem.run_bind,run_newObj,Result.andThen_ok,Sem.run_pure]
 rfl
theorem Ahx [Small n] (hP : TtOk C.P tt) (hF : FR C n env a w) {e : TypeId} {ie : Ty} (hie : tyAt tt e = some ie) {o : Oper} (ho : o.op = .alloc e) (hok : opOk n o = true)
  (h:(finOwn o.dst (.box e ie.zero) []).sat AF env U R) {Q:Exit→Act→World→Prop} :
  o.wp C.P a w (fun a' w'=>FR C n (U++env) a' w') Q:=by
 obtain ⟨hd,hn,κ,V,hI,hV⟩:=hF
 obtain ⟨d,hdst,rfl⟩:=Bx h
 obtain ⟨_,hplain,hzs,_⟩:=hP e ie hie
 obtain ⟨ti,g1,g2,g3,g4⟩:=Dn hP hie
 have hpf:=B8 ie.zero hplain
 have hcells:(mkv ie.zero ie.zero.zc).cells=ie.zero.zc.toArray:=Bw hpf.2.2.2 (Ax (X:=cx C env w κ) (s:=0) ie.zero [] _ hpf.2.2.1 hpf.2.1 (Gt _ _ _ _ hplain))
 refine Ah (v:=.pointer (some ⟨w.heap.size,0,none⟩)) (w':=w.alloc (.cells ie.zero.zc.toArray e)) ?_ ?_
 ·simp only [execOp,ho,Instr.alloc,Sem.run_bind,zeroValue,typeInfo,run_program,Result.andThen_ok,g1,g2,Sem.run_pure,Oe,hcells]
 ·rw [hdst]
  refine H3 hd hn hI hV (Am hok d hdst) (.box e ie.zero) rfl (by simpa [T.refFree] using hpf.2.1) _ _ (fun X' h1 h2 h3 h4=>?_)
  simp only [CR]
  refine ⟨w.heap.size,ie.zero.zc.toArray,rfl,by rw [h2];exact heap_alloc_new w _,h4,?_,by simpa using hpf.2.2.2,Gt X' d ie.zero _ hplain⟩
  rw [h1,Dd hP hie,hzs]
theorem Inv.congr {env':Env} (he:∀ t,lk env' t=lk env t) (h:Inv C env V w κ):Inv C env' V w κ:=by
 have hcx:cx C env' w κ=cx C env w κ:=by
  unfold cx
  have:lk env'=lk env:=funext he
  simp only [this]
 refine ⟨h.os,h.tape,h.output,h.size,h.frozen,h.col,h.inj,fun t k x hx=>?_,fun t k x hx=>?_,fun t k hx=>?_,fun u0 p0 b v hb T0 nd h0=>by rw [he] at h0;exact h.pin u0 p0 b v hb T0 nd h0,fun b v hb k T0 h0=>by rw [he] at h0;exact h.root b v hb k T0 h0⟩
 ·rw [he] at hx;rw [hcx];exact h.val t k x hx
 ·rw [he] at hx;rw [hcx];exact h.own t k x hx
 ·rw [he] at hx;exact h.und t k hx
theorem FR.congr {n:Nat} {env':Env} (he:∀ t,lk env' t=lk env t) (h:FR C n env a w):FR C n env' a w:=
 ⟨h.defers,h.size,let ⟨κ,V,h1,h2⟩:=h.inv;⟨κ,V,h1.congr he,h2⟩⟩
theorem Yo [Small n] (hd : a.defers = []) (hn : a.tmps.size = n) (hI : Inv C env V w κ) {d dv kv : Nat} (hV : ∀ t, t < 1000000 → t ≠ dv → V t = a.tmps.getD t undef) (hdv : 1000000 ≤ dv) (hdn : d < n) (hn1 : n ≤ 1000000) {x : T} {u : Value} (hl : lk env dv = some ⟨kv, .own x⟩) (hu : V dv = u)
  {e:TypeId} (hsolid:x.solid=true) {nd:T} {head:Value} (hm:mkv nd [head]=head) (hrn:nd.refFree=true)
  (hnd:∀ (X':Cx) (cs:List Value),X'.sz=C.P.cellsOf→cs.length=x.size→X'.w.heap[w.heap.size]? = some (.cells cs.toArray e)→X'.kap w.heap.size=some (d,[],head)→CR X' d [0] x cs→CR X' d [] nd [head]) :
  FR C n ((d,⟨verOf (lk env d)+1,.own nd⟩)::kill [dv] env) (a.put (some d) head) (w.alloc (.cells u.cells e)):=by
 obtain ⟨hr,cs,hcs,hC⟩:=hI.own dv kv x hl
 have hlen:=Bg _ _ _ _ _ hC
 have hcells:u.cells=cs.toArray:=by rw [← hu,hcs];exact Bw hlen (Ax x [] cs hsolid hr hC)
 have hC0:C.w0.heap.size≤w.heap.size:=hI.size
 have hne:d≠dv:=by omega
 obtain ⟨κ',hI',_⟩:=hI.fresh [dv] d (Small.ne hdn) nd [head] (w.alloc (.cells u.cells e))
  (fun b=>if b=w.heap.size then some ([],head) else match κ b with|some (t,r,v)=>if t=dv then some (0::r,v) else none|none=>none) rfl rfl rfl (by simp)
  (fun b hb=>Bv w _ b (Nat.lt_of_lt_of_le hb.1 hC0)) (fun b s p v hk _ _=>Bv w _ b (hI.col b s p v hk).1)
  (fun b p v hb=>by
   split at hb
   ·rename_i e;subst e
    refine ⟨by simp,fun hF=>by have:=hF.1;omega,fun s p v hk=>?_⟩
    have:=(hI.col _ _ _ _ hk).1
    omega
   ·cases hk:κ b with
    | none=>simp [hk] at hb
    | some y=>
     obtain ⟨t,r,v'⟩:=y
     simp only [hk] at hb
     split at hb
     ·rename_i e
      have hc:=hI.col b _ _ _ hk
      refine ⟨by simp;omega,hc.2,fun s p v hk'=>?_⟩
      simp only [Option.some.injEq,Prod.mk.injEq] at hk'
      obtain ⟨rfl,_,_⟩:=hk'
      exact .inl (by simp [e])
     ·cases hb)
  (fun b b' p v v' hb hb'=>by
   split at hb
   ·split at hb'
    ·rename_i e e';rw [e,e']
    ·cases hk:κ b' with
     | none=>simp [hk] at hb'
     | some y=>
      obtain ⟨t,r,v'⟩:=y
      simp only [hk] at hb'
      split at hb'
      ·simp at hb hb';rw [hb.1] at hb';simp at hb'
      ·cases hb'
   ·cases hk:κ b with
    | none=>simp [hk] at hb
    | some y=>
     obtain ⟨t,r,v1⟩:=y
     simp only [hk] at hb
     split at hb
     ·split at hb'
      ·simp at hb hb';rw [hb'.1] at hb;simp at hb
      ·cases hk':κ b' with
       | none=>simp [hk'] at hb'
       | some y'=>
        obtain ⟨t',r',v1'⟩:=y'
        simp only [hk'] at hb'
        split at hb'
        ·rename_i e1 _ e2
         simp only [Option.some.injEq,Prod.mk.injEq] at hb hb'
         have:r=r':=by have:=hb.1.trans hb'.1.symm;simpa using this
         subst this;subst e1;subst e2
         exact hI.inj b b' _ _ _ _ hk hk'
        ·cases hb'
     ·cases hb) hrn
  (fun X' h1 h2 h3 h4=>by
   refine hnd X' cs h1 hlen (by rw [h2,hcells];exact heap_alloc_new w _) (h4 _ [] _ (by simp)) ?_
   refine Bd (X:=cx C env w κ) (s:=dv) (p:=[]) h1 (fun b hb=>⟨by rw [h3];exact hb,by rw [h2];exact Bv w _ b (Nat.lt_of_lt_of_le hb.1 hC0)⟩) (fun b q v hk=>?_) hr hC
   have hk':κ b=some (dv,q,v):=hk
   have hlt:=(hI.col b _ _ _ hk').1
   exact ⟨h4 b (0::q) v (by rw [if_neg (by omega)];simp [hk']),by rw [h2];exact Bv w _ b hlt⟩)
 rw [hm] at hI'
 refine B6 hd hn hdn hI' (fun t ht=>?_)
 by_cases e:t=d
 ·simp [e,upd]
 ·rw [Al _ _ _ _ e,if_neg e];exact hV t ht (by omega)
theorem Ak9 [Small n] (hP : TtOk C.P tt) (hd : a.defers = []) (hn : a.tmps.size = n) (hI : Inv C env V w κ) {d dv kv : Nat} (hV : ∀ t, t < 1000000 → t ≠ dv → V t = a.tmps.getD t undef) (hdv : 1000000 ≤ dv) (hdn : d < n) (hn1 : n ≤ 1000000) {x : T} {u : Value} (hl : lk env dv = some ⟨kv, .own x⟩) (hu : V dv = u)
  {e:TypeId} {ie:Ty} (hie:tyAt tt e=some ie) (hsz:x.size=ie.size) (hsolid:x.solid=true) :
  FR C n ((d,⟨verOf (lk env d)+1,.own (.box e x)⟩)::kill [dv] env) (a.put (some d) (.pointer (some ⟨w.heap.size,0,none⟩))) (w.alloc (.cells u.cells e)):=
 Yo hd hn hI hV hdv hdn hn1 hl hu hsolid rfl (by simpa [T.refFree] using (hI.own dv kv x hl).1) (fun X' cs h1 h2 h3 h4 h5=>by
  simp only [CR]
  exact ⟨w.heap.size,cs.toArray,rfl,h3,h4,by rw [h1,Dd hP hie,hsz],by simpa using h2,h5⟩)
theorem Aey [Small n] (hP : TtOk C.P tt) (hd : a.defers = []) (hn : a.tmps.size = n) (hI : Inv C env V w κ) {d dv kv : Nat} (hV : ∀ t, t < 1000000 → t ≠ dv → V t = a.tmps.getD t undef) (hdv : 1000000 ≤ dv) (hdn : d < n) (hn1 : n ≤ 1000000) {x : T} {u : Value} (hl : lk env dv = some ⟨kv, .own x⟩) (hu : V dv = u)
  {e:TypeId} {ie:Ty} (hie:tyAt tt e=some ie) (hsz:x.size=ie.size) (hsolid:x.solid=true) :
  FR C n ((d,⟨verOf (lk env d)+1,.own (.sl true e [x])⟩)::kill [dv] env) (a.put (some d) (.slice (some ⟨w.heap.size,0,none⟩) 1 1)) (w.alloc (.cells u.cells e)):=
 Yo hd hn hI hV hdv hdn hn1 hl hu hsolid rfl (by simpa [T.refFree,T.refFreeL] using (hI.own dv kv x hl).1) (fun X' cs h1 h2 h3 h4 h5=>by
  have hs:X'.sz e=x.size:=by rw [h1,Dd hP hie,hsz]
  simp only [CR,CRL,List.length_cons,List.length_nil]
  refine ⟨w.heap.size,1,cs.toArray,rfl,h3,h4,Nat.le_refl _,by unfold maxLen;omega,by simp [hs,h2],fun t ht=>by simp only [List.mem_singleton] at ht;rw [ht,hs],?_,?_⟩
  ·rw [hs,Nat.zero_add,Nat.one_mul,List.take_take,Nat.min_self,List.take_of_length_le (by simp [h2])]
   exact h5
  ·rw [hs,Nat.zero_add,Nat.one_mul];simp)
theorem Ali [Small n] (hP : TtOk C.P tt) (hF : FR C n env a w) (hn1 : n ≤ 1000000) {e : TypeId} {ie : Ty} (hie : tyAt tt e = some ie) {x : Operand} {i : Nat} {o : Oper} (ho : o.op = .box e x) (hok : opOk n o = true)
  (h:(rdv x fun v=>take (virt i) v fun v' ups=>.need (v'.size=ie.size∧v'.solid=true)<|match ups with
   | []=>finOwn o.dst (.box e v') []
   | _=>.rd (virt i) fun sv=>finOwn o.dst (.box e v') ((virt i,⟨verOf sv+1,.val .any⟩)::ups)).sat AF env U R) {Q:Exit→Act→World→Prop} :
  o.wp C.P a w (fun a' w'=>FR C n (U++env) a' w') Q:=by
 obtain ⟨hd,hn,κ,V,hI,hV⟩:=hF
 obtain ⟨v,R',h1,hv⟩:=Au hI hV (Ap hok (by simp [ho,Op.operands])) h
 have hrun:(execOp a.eval o).run C.P w=.ok (.value (.pointer (some ⟨w.heap.size,0,none⟩))) (w.alloc (.cells (a.eval x).cells e)):=by
  simp only [execOp,ho,Instr.box,Sem.run_bind,Oe,Result.andThen_ok,Sem.run_pure]
 rcases Hy hI (Gi i) hv h1 with ⟨hp,hr,h2⟩|⟨s,k,p,T0,nd,v',R'',hne,hs,hg,hnd,hrf,hag,hsz,h2,κ',hI',_⟩
 ·simp only [Rd.sat] at h2
  obtain ⟨⟨hsz,hsolid⟩,h3⟩:=h2
  obtain ⟨d,hdst,rfl⟩:=Bx h3
  obtain ⟨s0,cs,e1,e2⟩:=hv.cells
  have hlen:=Bg _ _ _ _ _ e2
  have hcells:(a.eval x).cells=cs.toArray:=by rw [e1];exact Bw hlen (Ax v [] cs hsolid hr e2)
  refine Ah hrun ?_
  rw [hdst]
  refine H3 hd hn hI hV (Am hok d hdst) (.box e v) rfl (by simpa [T.refFree] using hr) _ _ (fun X' g1 g2 g3 g4=>?_)
  simp only [CR]
  refine ⟨w.heap.size,(a.eval x).cells,rfl,by rw [g2];exact heap_alloc_new w _,g4,by rw [g1,Dd hP hie,hsz],by rw [hcells];simpa using hlen,?_⟩
  rw [hcells]
  exact Av (cx C env w κ) X' s0 d g1 (fun b hb=>⟨by rw [g3];exact hb,by rw [g2];exact Bv w _ b (Nat.lt_of_lt_of_le hb.1 hI.size)⟩) v [] [0] cs hp e2
 ·simp only [Rd.sat] at h2
  obtain ⟨⟨hsz',hsolid⟩,R3,h3,_⟩:=h2
  obtain ⟨d,hdst,rfl⟩:=Bx h3
  have hdn:=Am hok d hdst
  have hvirt:(1000000:Nat)≤virt i:=by simp [virt]
  have hdv:d≠virt i:=fun e=>by have h1:d<n:=hdn;rw [e] at h1;exact absurd h1 (by omega)
  refine Ah hrun ?_
  rw [hdst]
  have key:=Ak9 hP hd hn hI' (d:=d) (dv:=virt i) (fun t ht hne=>by rw [Al _ _ _ _ hne];exact hV t ht) hvirt hdn hn1 (Ak _ _ _) (By _ _ _) hie hsz' hsolid
  refine key.congr (fun t=>?_)
  have hvd:verOf (lk ((virt i,(⟨verOf (lk env (virt i))+1,.own v'⟩:Slot))::(s,⟨k,.own (T.set .any p T0)⟩)::env) d)=verOf (lk env d):=by
   rw [Ab _ _ _ _ hdv]
   by_cases e:d=s
   ·subst e;rw [Ak,hs];rfl
   ·rw [Ab _ _ _ _ e]
  rw [hvd]
  simp only [kill,List.map_cons,List.map_nil,List.cons_append,List.nil_append,lk,verOf]
  by_cases e1:d=t
  ·simp [e1]
  ·simp only [e1,if_false]
   by_cases e2:virt i=t
   ·simp [e2]
   ·simp [e2]
end
end
section
theorem Cu {X:Cx} {s:Nat} {p:List Nat}:∀ (l:List T) (i:Nat) (cs:List Value),l.length=cs.length→(∀ t∈l,t.size=1)→(∀ j t v,l[j]? = some t→cs[j]? = some v→CR X s (p++[i+j]) t [v])→CRL X s p i l cs
 | [],i,[],_,_,_=>by simp [CRL]
 | [],i,c::cs,h,_,_=>by simp at h
 | t::l,i,[],h,_,_=>by simp at h
 | t::l,i,c::cs,h,h1,h2=>by
  have ht:=h1 t (by simp)
  simp only [CRL,ht]
  refine ⟨by simpa using h2 0 t c rfl rfl,?_⟩
  refine Cu l (i+1) cs (by simpa using h) (fun t ht=>h1 t (by simp [ht])) (fun j t v hj hv=>?_)
  rw [show i+1+j=i+(j+1) by omega]
  exact h2 (j+1) t v (by simpa using hj) (by simpa using hv)
section
variable {C:Ctx} {env:Env} {V:Nat→Value} {w:World} {κ:Kap} {a:Act} {AF:FuncId→List T→T→Prop} {U:List (Nat×Slot)} {R:List Nat} {n:Nat}
variable {tt:Tt} {P:Program}
theorem Vg {z:T} (hp:z.plain=true) (hs:z.size=1) (ha:z.isAgg=false):∃ v,z.zc=[v]∧mkv z z.zc=v∧v.cells = #[v]∧v.oneCell'=true:=by
 cases z <;> try (simp_all [T.plain,T.zc,mkv,Value.cells,Value.oneCell',T.isAgg];done)
 case str c=>cases c <;> simp [T.zc,mkv,Value.cells,Value.oneCell',Con.val]
theorem Vq [Small n] (hP : TtOk C.P tt) (hF : FR C n env a w) {t : TypeId} {sz by_ : Nat} {z : T} {e : TypeId} (hit : tyAt tt t = some ⟨sz, by_, z, .slice e⟩) {ie : Ty} (hie : tyAt tt e = some ie)
  {x y:Operand} {o:Oper} (ho:o.op=.makeSlice t x y) (hok:opOk n o=true)
  (h : (rdv x fun v => rdv y fun u => match v, u with
    | .int .i64 n,.int .i64 m=>.need (n=m∧0≤n∧n≤1099511627776∧ie.bytes≤64∧ie.size=1∧ie.zero.isAgg=false) (finOwn o.dst (.sl true e (List.replicate n.toNat ie.zero)) [])
    | _,_=>.fail).sat AF env U R) {Q:Exit→Act→World→Prop} :
  o.wp C.P a w (fun a' w'=>FR C n (U++env) a' w') Q:=by
 obtain ⟨hd,hn,κ,V,hI,hV⟩:=hF
 obtain ⟨v,R',h1,hv⟩:=Au hI hV (Ap hok (by simp [ho,Op.operands])) h
 obtain ⟨u,R'',h2,hu⟩:=Au hI hV (Ap hok (by simp [ho,Op.operands])) h1
 cases v <;> try (simp [Rd.sat] at h2;done)
 rename_i kv m
 cases kv <;> try (simp [Rd.sat] at h2;done)
 cases u <;> try (simp [Rd.sat] at h2;done)
 rename_i ku m'
 cases ku <;> try (simp [Rd.sat] at h2;done)
 simp only [Rd.sat] at h2
 obtain ⟨⟨rfl,hm0,hm1,hb,hs1,hag⟩,h3⟩:=h2
 obtain ⟨d,hdst,rfl⟩:=Bx h3
 obtain ⟨_,hplain,hzs,_⟩:=hP e ie hie
 have hx:=hv.int
 have hy:=hu.int
 obtain ⟨ti,g1,g2,g3,g4⟩:=Dn hP hie
 have hz1:ie.zero.size=1:=by rw [hzs];exact hs1
 obtain ⟨zv,z1,z2,z3,z4⟩:=Vg hplain hz1 hag
 obtain ⟨N,rfl⟩:=Int.eq_ofNat_of_zero_le hm0
 have hrun:=run_make_row' (P:=C.P) t e zv ie.bytes (A8 hP hit) (by rw [g1];simp [g2,z2,g3,g4,hs1]) z3 .i64 .i64 N (by
  have:ie.bytes*N≤64*N:=Nat.mul_le_mul_right _ hb
  omega) (by omega) w
 refine Ah (v:=.slice (some ⟨w.heap.size,0,none⟩) N N) (w':=w.alloc (.cells (madeCells #[zv] N) e)) ?_ ?_
 ·simp only [execOp,ho,hx,hy,Sem.run_bind,hrun,Result.andThen_ok,Sem.run_pure]
 ·rw [hdst]
  have hlen:(madeCells #[zv] N).size=N:=by simp [madeCells]
  have hget:∀ j,j<N→(madeCells #[zv] N)[j]? = some zv:=fun j hj=>by
   simp [madeCells,hj,Nat.mod_one]
  refine H3 hd hn hI hV (Am hok d hdst) (.sl true e (List.replicate N ie.zero)) rfl ?_ _ _ (fun X' f1 f2 f3 f4=>?_)
  ·simp only [T.refFree]
   rw [Bp]
   intro t ht
   rw [(List.mem_replicate.1 ht).2]
   exact (B8 _ hplain).2.1
  ·have hszX:X'.sz e=1:=by rw [f1,Dd hP hie,hs1]
   simp only [CR,List.length_replicate]
   refine ⟨w.heap.size,N,madeCells #[zv] N,rfl,by rw [f2];exact heap_alloc_new w _,f4,Nat.le_refl _,by unfold maxLen;omega,by rw [hlen,hszX,Nat.mul_one],fun t ht=>by rw [(List.mem_replicate.1 ht).2,hszX];exact hz1,?_⟩
   rw [hszX,Nat.mul_one,List.take_of_length_le (by simp [hlen])]
   refine Cu _ 0 _ (by simp [hlen]) (fun t ht=>by rw [(List.mem_replicate.1 ht).2];exact hz1) (fun j t v hj hv=>?_)
   have hj':j<N:=by
    have:=(List.getElem?_eq_some_iff.1 hj).1;simpa using this
   have ht:t=ie.zero:=(List.mem_replicate.1 (List.mem_of_getElem? hj)).2
   have hv':v=zv:=by
    rw [Array.getElem?_toList,hget j hj'] at hv;simpa using hv.symm
   subst ht;subst hv'
   have:=Gt X' d ie.zero ([]++[0+j]) hplain
   rw [z1] at this
   exact this
theorem K6 (hI : Inv C env V w κ) (hd : a.defers = []) (hn : a.tmps.size = n) (hV : ∀ t, t < 1000000 → V t = a.tmps.getD t undef) {x : Operand} {v : T} (hv : HV (cx C env w κ) v (a.eval x)) {o : Oper} (ho : o.op = .assign x) (hok : opOk n o = true)
  (h:(fin o.dst v).sat AF env U R) {Q:Exit→Act→World→Prop}:o.wp C.P a w (fun a' w'=>FR C n (U++env) a' w') Q:=
 Ah (v:=a.eval x) (w':=w) (by simp [execOp,ho]) (Ay hd hn hI hV (Am hok) hv h)
theorem Adf [Small n] (hF : FR C n env a w) {x : Operand} {o : Oper} (ho : o.op = .assign x) (hok : opOk n o = true)
  (h:(rdv x fun v=>match v,o.dst with
  | .ref s k p, some d => if s = d then fin o.dst v else rdn s k p fun T0 n =>
    match p,T0 with
    | [],_=>.rd d fun sd=>.done [(s,⟨k,.val (.ref d (verOf sd+1) [])⟩),(d,⟨verOf sd+1,.own n⟩)]
    | [_],.tup _=>.rd d fun sd=>.done [(d,⟨verOf sd+1,.own n⟩),(s,⟨k,.own (T.set .any p T0)⟩)]
    | _,_=>fin o.dst v
  | v,_=>fin o.dst v).sat AF env U R) {Q:Exit→Act→World→Prop} :
  o.wp C.P a w (fun a' w'=>FR C n (U++env) a' w') Q:=by
 obtain ⟨hd,hn,κ,V,hI,hV⟩:=hF
 obtain ⟨v,R',h1,hv⟩:=Au hI hV (Ap hok (by simp [ho,Op.operands])) h
 have hrun:(execOp a.eval o).run C.P w=.ok (.value (a.eval x)) w:=by simp [execOp,ho]
 have simple:(fin o.dst v).sat AF env U R'→o.wp C.P a w (fun a' w'=>FR C n (U++env) a' w') Q:=fun h2=>K6 hI hd hn hV hv ho hok h2
 cases hdst:o.dst with
 | none=>
  rw [hdst] at h1 simple
  cases v <;> exact simple h1
 | some d=>
  rw [hdst] at h1 simple
  have hdn:d<n:=Am hok d hdst
  cases v <;> try (exact simple h1)
  case ref s k p=>
   simp only at h1
   split at h1
   ·exact simple h1
   ·rename_i hne
    obtain ⟨T0,nd,R'',hs,hg,hnd,h2⟩:=Bk h1
    obtain ⟨s0,hc⟩:=hv.ref_cells
    obtain ⟨b,cap,cur,e1,e2,e3,e4⟩:=hI.ref_eq hs hg hnd hc
    have hr0:=Br p T0 nd hg (hI.own s k T0 hs).1
    simp at e1
    obtain ⟨κ',hI',_⟩:=hI.moveNode hs hg hnd (d:=d) (Small.ne hdn) (fun e=>hne e.symm) nd [] [a.eval x] hr0 (fun b' cap' X' f1 f2 f3 f4 f5=>by
     have hb:=hI.inj b' b s p _ _ f1 e4
     subst hb
     have:headOf nd b' cap'=headOf nd b' cap:=by rw [f1] at e4;simpa using e4
     rw [this,← e1] at f5
     exact f5)
    have hm:mkv nd [a.eval x]=a.eval x:=by cases nd <;> simp_all [T.isNode,mkv]
    rw [hm] at hI'
    have hVd:∀ t,t<1000000→upd V d (a.eval x) t=if t=d then a.eval x else a.tmps.getD t undef:=fun t ht=>by
     by_cases e:t=d
     ·simp [e,upd]
     ·rw [Al _ _ _ _ e,if_neg e];exact hV t ht
    have hsimple:(fin (some d) (.ref s k p)).sat AF env U R''→o.wp C.P a w (fun a' w'=>FR C n (U++env) a' w') Q:=fun h3=>
     K6 hI hd hn hV hv ho hok (by rw [hdst];exact h3)
    cases p with
    | nil=>
     simp only [Rd.sat] at h2
     obtain ⟨R3,⟨rfl,_⟩,_⟩:=h2
     refine Ah hrun ?_
     rw [hdst]
     simp [T.get] at hg
     subst hg
     have hbnd:=hI'.bind s k (.ref d (verOf (lk env d)+1) []) (a.eval x) (by
      rw [Ab _ _ _ _ hne,Ak];exact Nat.le_refl _) rfl d (by
       have hown:=(hI'.own d _ _ (Ak _ _ _)).2
       rw [By] at hown
       obtain ⟨cs,g1,g2⟩:=hown
       refine ⟨cs,?_,?_⟩
       ·rw [g1];cases T0 <;> simp_all [T.isNode,mkv]
       ·have:=I0 (X:=cx C _ w κ') (s:=d) (k:=verOf (lk env d)+1) ⟨_,Ak _ _ _,Nat.le_refl _⟩ T0 [] cs d [] g2
        cases T0 with
        | sl o e l=>cases o with
         | true=>exact this
         | false=>simp [T.isNode] at hnd
        | win e kk hh l=>exact this
        | box e t=>
         simp only [CR,T.borrow] at this ⊢
         obtain ⟨v,h1,h2,h3⟩:=this
         exact ⟨v,h1,h2,fun hn=>by
          obtain ⟨b,hd,hb,hv⟩:=h3 hn
          simp only [CR] at g2
          obtain ⟨b2,cur2,g3,g4,g5,_⟩:=g2
          rw [g3] at h1
          simp at h1
          exact ⟨b2,by rw [← h1];exact g5⟩⟩
        | _=>simp [T.isNode] at hnd)
     refine (B6 (d:=d) (v:=a.eval x) hd hn hdn hbnd (fun t ht=>?_)).congr (fun t=>?_)
     ·by_cases e:t=s
      ·subst e
       rw [By,if_neg hne]
       rw [← hV t ht]
       have:=(hI.own t k T0 hs).2
       obtain ⟨cs,g1,g2⟩:=this
       obtain ⟨b2,cap2,cur2,f1,f2,f3,_⟩:=Ex hnd g2
       rw [g1,f1,e1]
       have hb:=hI.inj b2 b t [] _ _ f3 e4
       subst hb
       have:headOf T0 b2 cap2=headOf T0 b2 cap:=by
        have f3':κ b2=some (t,[],headOf T0 b2 cap2):=f3
        rw [f3'] at e4;simpa using e4
       rw [this]
       cases T0 <;> simp_all [T.isNode,mkv]
      ·rw [Al _ _ _ _ e];exact hVd t ht
     ·simp only [List.cons_append,List.nil_append,lk]
      by_cases e:s=t
      ·simp [e]
      ·simp only [e,if_false]
    | cons i p'=>
     cases p' with
     | cons i' p''=>simp only at h2;exact hsimple h2
     | nil=>
      cases T0 <;> try (simp only at h2;exact hsimple h2)
      case tup l=>
       simp only [Rd.sat] at h2
       obtain ⟨R3,⟨rfl,_⟩,_⟩:=h2
       refine Ah hrun ?_
       rw [hdst]
       exact B6 hd hn hdn hI' hVd
end
end
section
section
variable {C:Ctx} {env:Env} {V:Nat→Value} {w:World} {κ:Kap} {a:Act} {AF:FuncId→List T→T→Prop} {U:List (Nat×Slot)} {R:List Nat} {n:Nat}
variable {tt:Tt} {P:Program}
theorem Ob (hP : TtOk P tt) {t : TypeId} {it : Ty} (ht : tyAt tt t = some it) {b off : Nat} {cur : Array Value} {e : TypeId} (hb : w.heap[b]? = some (.cells cur e (0, 0))) (x : T) (cs : List Value)
  (hl:cs.length=it.size) (hc:(mkv x cs).cells=cs.toArray) (h1:∀ v∈cs,v.oneCell'=true) (hle:off+cs.length≤cur.size) :
  (Instr.storeAt t (.pointer (some ⟨b,off,none⟩)) (mkv x cs)).run P w=.ok () (w.setRow b (splice cur.toList off cs).toArray):=by
 have hst:=run_storeCells_at P b off e cs 0 cur w hb (by simpa using hle) h1
 simp only [Nat.add_zero] at hst
 simp only [Instr.storeAt,Instr.sureAddr,Sem.run_bind,Sem.run_pure,Result.andThen_ok,storeVar,C8 hP ht,hc]
 have:¬ (cs.toArray.size≠it.size):=by simp [hl]
 simp only [this,if_false,hst]
 rfl
theorem Ag6 (hP : TtOk C.P tt) (hF : FR C n env a w) {t : TypeId} {it : Ty} (hit : tyAt tt t = some it) {x y : Operand} {i : Nat} {o : Oper} (ho : o.op = .store t x y) (hdst : o.dst = none) (hok : opOk n o = true)
  (h:(rdv x fun
   | .addr s k p off sub=>rdv y fun v=>take (virt i) v fun v' ups=>rdn s k p fun T0 n=>match n.part sub with
    | some t0=>.need (off=n.offN sub∧t0.size=it.size∧v'.size=t0.size∧v'.isAgg=t0.isAgg∧v'.solid=true)<|match ups with
     | []=>.done [(s,⟨if v'.scalar&&t0.scalar then k else k+1,.own (T.set v' (p++sub) T0)⟩)]
     | (u,_)::_=>if u=s∨s=virt i then .fail else .rd (virt i) fun sv=>refresh s k i u (p++sub) fun more=>.done (more++(s,⟨k+1,.own (T.set v' (p++sub) T0)⟩)::(virt i,⟨verOf sv+1,.val .any⟩)::ups)
    | none=>.fail
   | _=>.fail).sat AF env U R) {Q:Exit→Act→World→Prop} :
  o.wp C.P a w (fun a' w'=>FR C n (U++env) a' w') Q:=by
 obtain ⟨hd,hn,κ,V,hI,hV⟩:=hF
 obtain ⟨v,R',h1,hv⟩:=Au hI hV (Ap hok (by simp [ho,Op.operands])) h
 cases v <;> try (simp [Rd.sat] at h1;done)
 rename_i s k p off sub
 obtain ⟨u,R'',h2,hu⟩:=Au hI hV (Ap hok (by simp [ho,Op.operands])) h1
 obtain ⟨s0,hc⟩:=hv.addr_cells
 rcases Hy hI (Gi i) hu h2 with ⟨hpu,hru,h3⟩|⟨s',k',p',T0',nd',v',R3,hne',hs',hg',hnd',hrf',hag',hsz',h3,κ',hI',hkeep⟩
 ·obtain ⟨T0,nd,R4,hs,hg,hnd,h4⟩:=Bk h3
  cases hp:nd.part sub with
  | none=>simp [hp,Rd.sat] at h4
  | some t0=>
   simp only [hp,Rd.sat] at h4
   obtain ⟨⟨c1,c2,c3,c4,c5⟩,rfl,_⟩:=h4
   obtain ⟨b,cap,cur,e1,e2,e3,e4⟩:=hI.addr_eq hs hg hnd hc
   rw [Hv (Qw hp)] at e1
   simp at e1
   obtain ⟨su,cu,f1,f2⟩:=hu.cells
   have hlen:=Bg _ _ _ _ _ f2
   have f2':CR (cx C env w κ) su [] u cu:=f2
   obtain ⟨b2,cap2,cur2,g1,g2,g3,κ2,hI2⟩:=hI.storeVal (k':=if u.scalar&&t0.scalar then k else k+1) hs hg hnd hp f2' hpu hru c3 c4 (by
    by_cases hsc:u.scalar=true
    ·by_cases hsc2:t0.scalar=true
     ·exact .inr ⟨by simp [hsc,hsc2],hsc⟩
     ·exact .inl (by simp [hsc2])
    ·exact .inl (by simp [hsc]))
   have hb:b2=b:=hI.inj b2 b s p _ _ g1 e4
   subst hb
   have hcur:cur2=cur:=by rw [e3] at g2;simp at g2;exact g2.symm
   subst hcur
   have h1c:=Ax u [] cu c5 hru f2
   refine S9 (w':=w.setRow b2 (splice cur2.toList (nd.offN sub) cu).toArray) ?_ ?_
   ·simp only [execOp,ho,e1,f1,Sem.run_bind,c1]
    rw [Ob hP hit e3 u cu (by omega) (Bw hlen h1c) h1c g3]
    rfl
   ·rw [hdst]
    exact ⟨hd,hn,κ2,V,hI2,hV⟩
 ·obtain ⟨T0,nd,R4,hs,hg,hnd,h4⟩:=Bk h3
  cases hp:nd.part sub with
  | none=>simp [hp,Rd.sat] at h4
  | some t0=>
   simp only [hp,Rd.sat] at h4
   obtain ⟨⟨c1,c2,c3,c4,c5⟩,h5⟩:=h4
   split at h5
   ·simp [Rd.sat] at h5
   ·rename_i hss0
    simp only [Rd.sat] at h5
    obtain ⟨R5,h6,_⟩:=h5
    have hsv:s≠virt i:=fun e=>hss0 (.inr e)
    have hss:s'≠s:=fun e=>hss0 (.inl e)
    obtain ⟨b,cap,cur,e1,e2,e3,e4⟩:=hI.addr_eq hs hg hnd hc
    rw [Hv (Qw hp)] at e1
    simp at e1
    have hs2:lk ((virt i,(⟨verOf (lk env (virt i))+1,.own v'⟩:Slot))::(s',⟨k',.own (T.set .any p' T0')⟩)::env) s=some ⟨k,.own T0⟩:=by
     rw [Ab _ _ _ _ hsv,Ab _ _ _ _ (fun e=>hss e.symm)];exact hs
    obtain ⟨b2,cap2,cur2,cs1,g1,g2,g3,g4,g5,κ2,hI2,hκ2⟩:=hI'.storeOwn hs2 hg hnd hp (Ak _ _ _) hsv c3 c4
    have hlen:=Bg _ _ _ _ _ g5
    have h1c:=Ax v' [] cs1 c5 hrf' g5
    rw [By] at g4
    have hb:b2=b∧cur2=cur:=by
     have g6:=hkeep b s p _ hsv (fun e=>hss e.symm) e4
     have hb:=hI'.inj b2 b s p _ _ g1 g6
     subst hb
     refine ⟨rfl,?_⟩
     rw [e3] at g2;simp at g2;exact g2.symm
    obtain ⟨rfl,rfl⟩:=hb
    have core : ∀ more : List (Nat × Slot), (more = [] ∨ ∃ t kt q, more = [(t, ⟨kt, .val (.addr s (k + 1) q 0 [0])⟩)] ∧ lk env t = some ⟨kt, .val (.addr s k q 0 [0])⟩ ∧ t ≠ s ∧ t ≠ virt i ∧ t ≠ s' ∧ notPre (p ++ sub) q = true ∧ t < 1000000) →
      o.wp C.P a w (fun a' w'=>FR C n ((more++(s,(⟨k+1,.own (T.set v' (p++sub) T0)⟩:Slot))::(virt i,⟨verOf (lk env (virt i))+1,.val .any⟩)::[(s',⟨k',.own (T.set .any p' T0')⟩)])++env) a' w') Q:=by
     intro more hmore
     refine S9 (w':=w.setRow b2 (splice cur2.toList (nd.offN sub) cs1).toArray) ?_ ?_
     ·simp only [execOp,ho,e1,g4,Sem.run_bind,c1]
      rw [Ob hP hit e3 v' cs1 (by omega) (Bw hlen h1c) h1c g3]
      rfl
     ·rw [hdst]
      rcases hmore with rfl|⟨t,kt,q,rfl,q1,q2,q3,q4,q5,q6⟩
      ·refine FR.congr (env := (s, ⟨k + 1, .own (T.set v' (p ++ sub) T0)⟩) :: kill [virt i] ((virt i, ⟨verOf (lk env (virt i)) + 1, .own v'⟩) :: (s', ⟨k', .own (T.set .any p' T0')⟩) :: env)) (fun t => ?_)
        ⟨hd,hn,κ2,_,hI2,fun t ht=>by rw [Al _ _ _ _ (by simp [virt];omega)];exact hV t ht⟩
       simp only [kill,List.map_cons,List.map_nil,List.cons_append,List.nil_append,lk,if_true,verOf]
       by_cases q1:s=t
       ·simp [q1]
       ·simp only [q1,if_false]
        by_cases q2:virt i=t
        ·simp [q2]
        ·simp [q2]
      ·
       have hlt:lk ((s,(⟨k+1,.own (T.set v' (p++sub) T0)⟩:Slot))::kill [virt i] ((virt i,⟨verOf (lk env (virt i))+1,.own v'⟩)::(s',⟨k',.own (T.set .any p' T0')⟩)::env)) t=some ⟨kt,.val (.addr s k q 0 [0])⟩:=by
        rw [Ab _ _ _ _ q2]
        simp only [kill,List.map_cons,List.map_nil,List.cons_append,List.nil_append]
        rw [Ab _ _ _ _ q3,Ab _ _ _ _ q3,Ab _ _ _ _ q4]
        exact q1
       have hbnd:=hI2.bind t kt (.addr s (k+1) q 0 [0]) (V t) (by rw [hlt];exact Nat.le_refl _) rfl 0 (by
        obtain ⟨_,ct,u1,u2⟩:=hI.val t kt _ q1
        simp only [CR] at u2
        obtain ⟨v0,rfl,_,u3⟩:=u2
        refine ⟨[v0],u1,?_⟩
        simp only [CR]
        refine ⟨v0,rfl,⟨_,Ak _ _ _,Nat.le_refl _⟩,fun hnode=>?_⟩
        obtain ⟨T2,n2,m1,m2,m3⟩:=hnode
        rw [Ak] at m1
        simp only [Option.some.injEq,Slot.mk.injEq,SV.own.injEq,true_and] at m1
        subst m1
        have hnp:=Pf _ _ q5
        rcases G1 v' (p++sub) T0 t0 (by rw [Hh p sub T0 nd hg];exact Fo hnd hp) q n2 m2 m3 with ⟨r,hr,_⟩|⟨_,n0,m4,m5⟩
        ·exact absurd ⟨r,hr.symm⟩ hnp
        ·obtain ⟨b0,h0,y1,y2⟩:=u3 ⟨T0,n0,hs,m4,m5⟩
         exact ⟨b0,h0,hκ2 b0 s q h0 (hkeep b0 s q h0 hsv (fun e=>hss e.symm) y1) hsv (fun hx=>hnp hx.2),y2⟩)
       refine FR.congr (env:=(t,⟨kt,.val (.addr s (k+1) q 0 [0])⟩)::(s,⟨k+1,.own (T.set v' (p++sub) T0)⟩)::kill [virt i] ((virt i,⟨verOf (lk env (virt i))+1,.own v'⟩)::(s',⟨k',.own (T.set .any p' T0')⟩)::env)) (fun t'=>?_)
        ⟨hd,hn,κ2,_,hbnd,fun t' ht'=>by
         by_cases et:t'=t
         ·subst et;rw [By];exact hV t' ht'
         ·rw [Al _ _ _ _ et,Al _ _ _ _ (by simp [virt];omega)];exact hV t' ht'⟩
       simp only [kill,List.map_cons,List.map_nil,List.cons_append,List.nil_append,lk,if_true,verOf]
       by_cases q0:t=t'
       ·simp [q0]
       ·simp only [q0,if_false]
        by_cases q1:s=t'
        ·simp [q1]
        ·simp only [q1,if_false]
         by_cases q2:virt i=t'
         ·simp [q2]
         ·simp [q2]
    simp only [refresh,Rd.sat] at h6
    obtain ⟨R6,h7,_⟩:=h6
    split at h7
    ·rename_i tt' cc' hgst
     simp only [Rd.sat] at h7
     obtain ⟨R7,h8,_⟩:=h7
     split at h8
     ·rename_i kt s2 k2 q2 hlt
      split at h8
      ·rename_i hcc
       obtain ⟨rfl,rfl,z3,z4,z5,z6,z7⟩:=hcc
       simp only [Rd.sat] at h8
       obtain ⟨rfl,_⟩:=h8
       exact core _ (.inr ⟨_,_,_,rfl,hlt,z3,z4,z5,z7,z6⟩)
      ·simp only [Rd.sat] at h8
       obtain ⟨rfl,_⟩:=h8
       exact core [] (.inl rfl)
     ·simp only [Rd.sat] at h8
      obtain ⟨rfl,_⟩:=h8
      exact core [] (.inl rfl)
    ·simp only [Rd.sat] at h7
     obtain ⟨rfl,_⟩:=h7
     exact core [] (.inl rfl)
theorem Ald (hP : TtOk C.P tt) (hF : FR C n env a w) {t : TypeId} {sz by_ : Nat} {z : T} {e : TypeId} (hit : tyAt tt t = some ⟨sz, by_, z, .slice e⟩) {x : Operand} {o : Oper} {ty : Array TypeId}
  (ho:o.op=.call { callee:=.builtin .len,args:=#[x],argTypes:=ty }) (hty:ty[0]? = some t) (hok:opOk n o=true)
  (h:(rdv x fun v=>elems v fun l=>fin o.dst (.int .i64 l.length)).sat AF env U R) {Q:Exit→Act→World→Prop} :
  o.wp C.P a w (fun a' w'=>FR C n (U++env) a' w') Q:=by
 obtain ⟨hd,hn,κ,V,hI,hV⟩:=hF
 obtain ⟨v,R',h1,hv⟩:=Au hI hV (Ap hok (by simp [ho,Op.operands,Call.operands])) h
 obtain ⟨l,R'',ad,cap,hu,h2⟩:=Aex hI hv h1
 refine Ah (v:=.int .i64 l.length) (w':=w) ?_ (Ay hd hn hI hV (Am hok) (HV.mk_int _ _ _) h2)
 simp [execOp,ho,Go.resolve,invoke,builtin,Builtin.len_,hty,hu,run_underlying (A8 hP hit),goInt]
theorem Alg (hF : FR C n env a w) {x y : Operand} {o : Oper} {ty : Array TypeId} (ho : o.op = .call { callee := .builtin .max, args := #[x, y], argTypes := ty }) (hok : opOk n o = true)
  (h:(rdv x fun v=>rdv y fun u=>match v,u with
  | .int k a,.int _ b=>fin o.dst (.int k (if b>a then b else a))
  | _,_=>.fail).sat AF env U R) {Q:Exit→Act→World→Prop} :
  o.wp C.P a w (fun a' w'=>FR C n (U++env) a' w') Q:=by
 obtain ⟨hd,hn,κ,V,hI,hV⟩:=hF
 obtain ⟨v,R',h1,hv⟩:=Au hI hV (Ap hok (by simp [ho,Op.operands,Call.operands])) h
 obtain ⟨u,R'',h2,hu⟩:=Au hI hV (Ap hok (by simp [ho,Op.operands,Call.operands])) h1
 cases v <;> try (simp [Rd.sat] at h2;done)
 cases u <;> try (simp [Rd.sat] at h2;done)
 have hx:=hv.int
 have hy:=hu.int
 refine Ah (w':=w) ?_ (Ay hd hn hI hV (Am hok) (HV.mk_int _ _ _) h2)
 simp [execOp,ho,Go.resolve,invoke,builtin,Builtin.max_,hx,hy,Builtin.max2]
theorem Amh (hF : FR C n env a w) {x y : Operand} {o : Oper} {ty : Array TypeId} (ho : o.op = .call { callee := .builtin .min, args := #[x, y], argTypes := ty }) (hok : opOk n o = true)
  (h:(rdv x fun v=>rdv y fun u=>match v,u with
  | .int k a,.int _ b=>fin o.dst (.int k (if b<a then b else a))
  | _,_=>.fail).sat AF env U R) {Q:Exit→Act→World→Prop} :
  o.wp C.P a w (fun a' w'=>FR C n (U++env) a' w') Q:=by
 obtain ⟨hd,hn,κ,V,hI,hV⟩:=hF
 obtain ⟨v,R',h1,hv⟩:=Au hI hV (Ap hok (by simp [ho,Op.operands,Call.operands])) h
 obtain ⟨u,R'',h2,hu⟩:=Au hI hV (Ap hok (by simp [ho,Op.operands,Call.operands])) h1
 cases v <;> try (simp [Rd.sat] at h2;done)
 cases u <;> try (simp [Rd.sat] at h2;done)
 have hx:=hv.int
 have hy:=hu.int
 refine Ah (w':=w) ?_ (Ay hd hn hI hV (Am hok) (HV.mk_int _ _ _) h2)
 simp [execOp,ho,Go.resolve,invoke,builtin,Builtin.min_,hx,hy,Builtin.min2]
end
end
section
theorem Kd {X:Cx} {s:Nat} {p:List Nat}:∀ (l1 l2:List T) (i:Nat) (c1 c2:List Value),CRL X s p i l1 c1→CRL X s p (i+l1.length) l2 c2→CRL X s p i (l1++l2) (c1++c2)
 | [],l2,i,c1,c2,h1,h2=>by simp only [CRL] at h1;subst h1;simpa using h2
 | t::l1,l2,i,c1,c2,h1,h2=>by
  simp only [CRL] at h1
  have hl:=Bg _ _ _ _ _ h1.1
  simp only [List.length_take] at hl
  simp only [List.cons_append,CRL]
  rw [List.take_append_of_le_length (by omega),List.drop_append_of_le_length (by omega)]
  exact ⟨h1.1,Kd l1 l2 (i+1) _ c2 h1.2 (by rw [show i+1+l1.length=i+(t::l1).length by simp;omega];exact h2)⟩
theorem L8 {X X':Cx} {s s':Nat} (hsz:X'.sz=X.sz) (hF:∀ b,X.F b→X'.F b∧X'.w.heap[b]? = X.w.heap[b]?):∀ (l:List T) (p p':List Nat) (i i':Nat) (cs:List Value),T.pureL l=true→CRL X s p i l cs→CRL X' s' p' i' l cs
 | [],_,_,_,_,_,_,h=>by simpa only [CRL] using h
 | t::l,p,p',i,i',cs,c,h=>by
  simp only [CRL] at h ⊢
  simp only [T.pureL,Bool.and_eq_true] at c
  exact ⟨Av X X' s s' hsz hF t _ _ _ c.1 h.1,L8 hsz hF l p p' (i+1) (i'+1) _ c.2 h.2⟩
theorem P2 {X X' : Cx} {s s' : Nat} (hsz : X'.sz = X.sz) (hF : ∀ b, X.F b → X'.F b ∧ X'.w.heap[b]? = X.w.heap[b]?)
  (hk:∀ b j r v,X.kap b=some (s,j::r,v)→X'.kap b=some (s',j::r,v)∧X'.w.heap[b]? = X.w.heap[b]?):∀ (l:List T) (i:Nat) (cs:List Value),T.refFreeL l=true→CRL X s [] i l cs→CRL X' s' [] i l cs
 | [],_,_,_,h=>by simpa only [CRL] using h
 | t::l,i,cs,c,h=>by
  simp only [CRL] at h ⊢
  simp only [T.refFreeL,Bool.and_eq_true] at c
  exact ⟨Bd hsz hF (fun b q v hb=>hk b i q v hb) c.1 h.1,P2 hsz hF hk l (i+1) _ c.2 h.2⟩
theorem Is {X X' : Cx} {s s' : Nat} (m : Nat) (hsz : X'.sz = X.sz) (hF : ∀ b, X.F b → X'.F b ∧ X'.w.heap[b]? = X.w.heap[b]?) : ∀ (l : List T) (i : Nat) (cs : List Value),
  (∀ b j r v,i≤j→j<i+l.length→X.kap b=some (s,j::r,v)→X'.kap b=some (s',(j+m)::r,v)∧X'.w.heap[b]? = X.w.heap[b]?)→T.refFreeL l=true→CRL X s [] i l cs→CRL X' s' [] (i+m) l cs
 | [],_,_,_,_,h=>by simpa only [CRL] using h
 | t::l,i,cs,hk,c,h=>by
  simp only [CRL] at h ⊢
  simp only [T.refFreeL,Bool.and_eq_true] at c
  refine ⟨Bd hsz hF (fun b q v hb=>hk b i q v (Nat.le_refl _) (by simp) hb) c.1 h.1,?_⟩
  have:=Is m hsz hF l (i+1) _ (fun b j r v h1 h2 hb=>hk b j r v (by omega) (by simp;omega) hb) c.2 h.2
  rw [show i+m+1=i+1+m by omega]
  exact this
section
variable {C:Ctx} {env:Env} {V:Nat→Value} {w:World} {κ:Kap} {a:Act} {AF:FuncId→List T→T→Prop} {U:List (Nat×Slot)} {R:List Nat} {n:Nat}
variable {tt:Tt} {P:Program}
theorem J5 (hI : Inv C env V w κ) {e : TypeId} {v : T} {u : Value} (hv : HV (cx C env w κ) v u) {c : List T → Rd} (h : (elemsE e v c).sat AF env U R) :
  ∃ l R' ad cap,u=.slice ad l.length cap∧(c l).sat AF env U R'∧(∀ t∈l,t.size=C.P.cellsOf e)∧
   (l≠[]→∃ b off s p cs,ad=some ⟨b,off,none⟩∧cs.length=l.length*C.P.cellsOf e∧(∀ j x,cs[j]? = some x→w.cell? ⟨b,off+j,none⟩=some x)∧CRL (cx C env w κ) s p 0 l cs):=by
 cases v <;> try (simp [elemsE,Rd.sat] at h;done)
 case nil=>
  obtain ⟨s0,cs,e1,e2⟩:=hv.cells
  simp only [CR] at e2
  subst e2
  exact ⟨[],R,none,0,by simpa [mkv] using e1,h,by simp,fun h=>absurd rfl h⟩
 case sl o e' l=>
  cases o with
  | true=>simp [elemsE,Rd.sat] at h
  | false=>
   simp only [elemsE] at h
   split at h
   ·rename_i he
    subst he
    obtain ⟨s0,cs,e1,e2⟩:=hv.cells
    simp only [CR] at e2
    obtain ⟨ad,cap,rfl,g1,g2,g3,g4,g5⟩:=e2
    refine ⟨l,R,ad,cap,by simpa [mkv] using e1,h,g3,fun hl=>?_⟩
    obtain ⟨b,off,rfl,hFb,cur,e'',fz,hb,hle,hC⟩:=g5 hl
    refine ⟨b,off,s0,[],_,rfl,by have:=D4 _ _ _ _ _ _ hC;rw [this,Bj g3];rfl,fun j x hj=>?_,hC⟩
    rw [cell_of_row w b (off+j) cur e'' fz hb]
    rw [List.getElem?_take] at hj
    split at hj
    ·rw [List.getElem?_drop] at hj;simpa using hj
    ·cases hj
   ·simp [Rd.sat] at h
 case ref s k p=>
  simp only [elemsE] at h
  obtain ⟨T0,nd,R',hs,hg,hnn,h1⟩:=Bk h
  cases nd <;> try (simp [T.isNode] at hnn;done)
  case box=>simp [Rd.sat] at h1
  case win=>simp [Rd.sat] at h1
  case sl o' e' l=>
   cases o' with
   | false=>simp [T.isNode] at hnn
   | true=>
    simp only at h1
    split at h1
    ·rename_i he
     subst he
     obtain ⟨s0,hc⟩:=hv.ref_cells
     obtain ⟨b,cap,cur,e1,e2,e3,e4⟩:=hI.ref_eq hs hg hnn hc
     simp only [headOf,List.cons.injEq,and_true] at e1
     simp only [CR] at e2
     obtain ⟨b2,cap2,cur2,q1,q2,q3,q4,q5,q6,q7,q8⟩:=e2
     rw [e1] at q1
     simp at q1
     obtain ⟨rfl,rfl⟩:=q1
     refine ⟨l,R',_,cap,e1,h1,q7,fun hl=>⟨b,0,s,p,_,rfl,by have:=D4 _ _ _ _ _ _ q8;rw [this,Bj q7];rfl,fun j x hj=>?_,q8⟩⟩
     rw [Nat.zero_add,cell_of_row w b j cur2 e' (0,0) q2]
     rw [List.getElem?_take] at hj
     split at hj
     ·simpa using hj
     ·cases hj
    ·simp [Rd.sat] at h1
theorem Fz (hP : TtOk P tt) {t e : TypeId} {sz by_ : Nat} {z : T} (hit : tyAt tt t = some ⟨sz, by_, z, .slice e⟩) {ie : Ty} (hie : tyAt tt e = some ie) (ty : TypeId) (base ad : Option Addr) (len cap cap2 : Nat) (hle : len ≤ cap) :
  (Builtin.append_ #[t,t] ty #[.slice base len cap,.slice ad 0 cap2]).run P w=.ok (.slice base len cap) w:=by
 have hu:=A8 hP hit
 simp only [Builtin.append_,List.getElem?_toArray,List.getElem?_cons_zero,List.getElem?_cons_succ,Sem.run_bind,run_underlying hu,Result.andThen_ok,C8 hP hie,Sem.run_pure,Builtin.lenOf]
 cases ad with
 | none=>
  cases base with
  | none=>simp [Builtin.firstCells,hle]
  | some b=>simp [Builtin.firstCells,storeCells,hle]
 | some ad=>
  cases base with
  | none=>simp [Builtin.firstCells,loadCells,loadCellsFrom,hle]
  | some b=>simp [Builtin.firstCells,loadCells,loadCellsFrom,storeCells,hle]
theorem K7 {vi : Nat} {dst : Option Nat} {ie : Ty} {e : TypeId} {u : T} {l : List T} {ups : List (Nat × Slot)} (h : (appendOwn vi dst ie e u l ups).sat AF env U R) :
  ∃ s2 k2 l2,u=.ref s2 k2 []∧lk env s2=some ⟨k2,.own (.sl true e l2)⟩∧T.solidL l2=true∧l2≠[]∧s2≠vi∧0<ie.size∧l.length+l2.length≤1099511627776∧(l.length+l2.length)*ie.bytes≤140737488355328∧∃ R',(match ups with
  | []=>finOwn dst (.sl true e l2) [(s2,⟨k2,.val .any⟩)]
  | (s,x)::_=>if s=s2 then .fail else .rd vi fun sv=>finOwn dst (.sl true e (l++l2)) [(vi,⟨verOf sv+1,.val .any⟩),(s,x),(s2,⟨k2,.val .any⟩)]).sat AF env U R':=by
 cases u <;> try (simp [appendOwn,Rd.sat] at h;done)
 rename_i s2 k2 p2
 cases p2 with
 | cons i p2=>simp [appendOwn,Rd.sat] at h
 | nil=>
  simp only [appendOwn] at h
  obtain ⟨T2,nd,R',hs,hg,hnn,h1⟩:=Bk h
  simp only [T.get,Option.some.injEq] at hg
  subst hg
  cases T2 <;> try (simp [Rd.sat] at h1;done)
  rename_i o' e' l2
  cases o' with
  | false=>simp [Rd.sat] at h1
  | true=>
   simp only at h1
   split at h1
   ·rename_i hc
    obtain ⟨rfl,c1,c2,c3⟩:=hc
    simp only [Rd.sat] at h1
    obtain ⟨⟨b1,b2,b3⟩,h2⟩:=h1
    exact ⟨s2,k2,l2,rfl,hs,c1,fun e0=>by subst e0;simp at c3,c2,b1,b2,b3,R',h2⟩
   ·simp [Rd.sat] at h1
theorem U6 (hP : TtOk P tt) {t e ty : TypeId} {sz by_ : Nat} {z : T} (hit : tyAt tt t = some ⟨sz, by_, z, .slice e⟩) {ie : Ty} (hie : tyAt tt e = some ie) {bb len capb : Nat} {curb : Array Value} (hb : w.heap[bb]? = some (.cells curb e (0, 0))) (hle : len ≤ capb) (hsz : curb.size = capb * ie.size)
  (b2 len2 cap2:Nat) (news:List Value) (hl:news.length=len2*ie.size) (hnews:∀ j u,news[j]? = some u→w.cell? (Addr.add ⟨b2,0,none⟩ j)=some u) (h1:∀ u∈news,u.oneCell'=true) (hpos:0<len2) (hmax:len+len2≤maxLen) (hbytes:(len+len2)*ie.bytes≤140737488355328)
  {v':Value} {w':World} (hr:(Builtin.append_ #[t,t] ty #[.slice (some ⟨bb,0,none⟩) len capb,.slice (some ⟨b2,0,none⟩) len2 cap2]).run P w=.ok v' w') {g a2 c2:Nat} (hv:v'=.slice (some ⟨g,0,none⟩) a2 c2):g=bb∨w.heap.size≤g:=by
 obtain ⟨ti,i1,i2,i3,i4⟩:=Dn hP hie
 subst hv
 by_cases hroom:len+len2≤capb
 ·left
  have hr2:=run_append_room (P:=P) w t ty e ti (A8 hP hit) i1 bb len capb curb hb ⟨b2,0,none⟩ len2 cap2 news (by rw [hl,i3]) hnews h1 hroom (by
   rw [i3,hl,hsz,← Nat.add_mul];exact Nat.mul_le_mul_right _ hroom)
  rw [hr2] at hr
  simp at hr
  exact hr.1.1.symm
 ·right
  have hlen:(curb.toList.take (len*ie.size)).length=len*ie.size:=by
   rw [List.length_take,Array.length_toList,hsz,Nat.min_eq_left (Nat.mul_le_mul_right _ hle)]
  have hr2 := run_append_grow (P := P) w t ty e ti (mkv ie.zero ie.zero.zc) (A8 hP hit) i1 i2 ⟨bb, 0, none⟩ len capb _ (by rw [i3]; exact hlen) (fun j x hj => by
    rw [Bu,Nat.zero_add,cell_of_row w bb j curb e (0,0) hb]
    rw [List.getElem?_take] at hj
    split at hj
    ·simpa using hj
    ·cases hj) ⟨b2,0,none⟩ len2 cap2 news (by rw [hl,i3]) hnews (by omega) (by have hm:maxLen=9223372036854775807:=(by decide);omega) (growslice_fits (by omega) (by rw [i4];exact hbytes))
  rw [hr2] at hr
  simp at hr
  omega
theorem Qx [Small n] (hP : TtOk C.P tt) (hd : a.defers = []) (hn : a.tmps.size = n) (hn1 : n ≤ 1000000) (hI : Inv C env V w κ) (hV : ∀ t, t < 1000000 → V t = a.tmps.getD t undef) {t e : TypeId} {sz by_ : Nat} {z : T} (hit : tyAt tt t = some ⟨sz, by_, z, .slice e⟩) {ie : Ty} (hie : tyAt tt e = some ie) {x y : Operand} {i : Nat} {o : Oper}
  (ho:o.op=.call { callee:=.builtin .append,args:=#[x,y],argTypes:=#[t,t] }) {s k s2 k2 d:Nat} {p:List Nat} {T0:T} {l l2:List T} (hs:lk env s=some ⟨k,.own T0⟩) (hg:T.get p T0=some (.sl true e l)) (hv:HV (cx C env w κ) (.ref s k p) (a.eval x))
  (hs2:lk env s2=some ⟨k2,.own (.sl true e l2)⟩) (hu:HV (cx C env w κ) (.ref s2 k2 []) (a.eval y)) (hss:s≠s2) (hsv:s≠virt i) (hs2v:s2≠virt i) (hsol:T.solidL l2=true) (hne:l2≠[]) (c1:0<ie.size) (c2:l.length+l2.length≤1099511627776) (c3:(l.length+l2.length)*ie.bytes≤140737488355328)
  (hdst:o.dst=some d) (hdn:d<n) {Q:Exit→Act→World→Prop} :
  o.wp C.P a w (fun a' w'=>FR C n ([(d,⟨verOf (lk env d)+1,.own (.sl true e (l++l2))⟩),(virt i,⟨verOf (lk env (virt i))+1,.val .any⟩),(s,⟨k,.own (T.set .any p T0)⟩),(s2,⟨k2,.val .any⟩)]++env) a' w') Q:=by
 obtain ⟨ti,i1,i2,i3,i4⟩:=Dn hP hie
 have hsz:C.P.cellsOf e=ie.size:=Dd hP hie
 have hexec:∀ (r:Value) (w':World),(Builtin.append_ #[t,t] o.type #[a.eval x,a.eval y]).run C.P w=.ok r w'→(execOp a.eval o).run C.P w=.ok (.value r) w':=fun r w' hr=>by
  simp [execOp,ho,Go.resolve,invoke,builtin,hr]
 have hzc:=B8 ie.zero (hP e ie hie).2.1
 have hzsz:(mkv ie.zero ie.zero.zc).cells.size=ie.size:=by
  rw [Bw hzc.2.2.2 (Ax (X:=cx C env w κ) (s:=0) ie.zero [] _ hzc.2.2.1 hzc.2.1 (Gt _ _ _ _ (hP e ie hie).2.1))]
  simpa [hzc.2.2.2] using (hP e ie hie).2.2.1
 obtain ⟨_,hc2⟩:=hu.ref_cells
 obtain ⟨b2,cap2,cur2,q1,q2,q3,q4⟩:=hI.ref_eq hs2 (show T.get [] (.sl true e l2)=some (.sl true e l2) from rfl) rfl hc2
 simp only [headOf,List.cons.injEq,and_true] at q1
 have hr2:T.refFreeL l2=true:=by simpa [T.refFree] using (hI.own s2 k2 _ hs2).1
 simp only [CR] at q2
 obtain ⟨b2',cap2',cur2',r1,r2,r3,r4,r5,r6,r7,r8⟩:=q2
 rw [q1] at r1
 simp only [List.cons.injEq,and_true,Value.slice.injEq,Option.some.injEq,Addr.mk.injEq] at r1
 obtain ⟨rfl,_,rfl⟩:=r1
 have hX2:(cx C env w κ).sz e=ie.size:=hsz
 rw [hX2] at r6 r7 r8
 have hnl:(cur2'.toList.take (l2.length*ie.size)).length=l2.length*ie.size:=by have:=D4 _ _ _ _ _ _ r8;rw [this,Bj r7]
 have hnews:∀ j u,(cur2'.toList.take (l2.length*ie.size))[j]? = some u→w.cell? (Addr.add ⟨b2,0,none⟩ j)=some u:=fun j u hj=>by
  rw [Bu,Nat.zero_add,cell_of_row w b2 j cur2' e (0,0) r2]
  rw [List.getElem?_take] at hj
  split at hj
  ·simpa using hj
  ·cases hj
 have h1c:=Ce l2 [] 0 _ hsol hr2 r8
 have hpos:0<l2.length:=List.length_pos_iff.2 hne
 have hr0:=Br p T0 _ hg (hI.own s k T0 hs).1
 obtain ⟨s0,hc⟩:=hv.ref_cells
 obtain ⟨b,cap1,cur,u1,u2,u3,u4⟩:=hI.ref_eq hs hg rfl hc
 simp at u1
 obtain ⟨κ1,hI1,hkeep⟩:=hI.moveNode hs hg rfl (d:=virt i) (Gi i) (fun e=>hsv e.symm) (.sl true e l) [] [a.eval x] hr0 (fun b' cap' X' f1 f2 f3 f4 f5=>by
  have hb:=hI.inj b' b s p _ _ f1 u4
  subst hb
  have:headOf (.sl true e l) b' cap'=headOf (.sl true e l) b' cap1:=by rw [f1] at u4;simpa using u4
  rw [this,← u1] at f5
  exact f5)
 have hm:mkv (.sl true e l) [a.eval x]=a.eval x:=rfl
 rw [hm] at hI1
 obtain ⟨_,csb,m1,m2⟩:=hI1.own (virt i) _ _ (Ak _ _ _)
 rw [By] at m1
 simp only [CR] at m2
 obtain ⟨bb,capb,curb,rfl,n2,n3,n4,n5,n6,n7,n8⟩:=m2
 simp only [mkv,List.headD] at m1
 have hXsz:(cx C ((virt i,(⟨verOf (lk env (virt i))+1,.own (.sl true e l)⟩:Slot))::(s,⟨k,.own (T.set .any p T0)⟩)::env) w κ1).sz e=ie.size:=hsz
 rw [hXsz] at n6 n8 n7
 have n3':κ1 bb=some (virt i,[],.slice (some ⟨bb,0,none⟩) l.length capb):=n3
 have hown0:w.ownsRow 0 e ie.size (a.eval x) l.length (curb.toList.take (l.length*ie.size)):=by
  refine ⟨?_,.inr ⟨bb,capb,curb,m1,Nat.zero_le _,n2,n4,n5,n6,rfl⟩⟩
  have:=D4 _ _ _ _ _ _ n8
  rw [this,Bj n7]
 have hbbF:¬ C.F bb:=(hI1.col bb _ _ _ n3).2
 obtain ⟨v',w',hr,hown,hgrow,_⟩:=run_append_own (P:=C.P) w 0 t o.type e ti (mkv ie.zero ie.zero.zc) ie.size ie.bytes (A8 hP hit) i1 i2 i3 i4 hzsz c1
  (a.eval x) l.length _ hown0 ⟨b2,0,none⟩ l2.length cap2 _ hnl hnews h1c (by unfold maxLen;omega) c3 (Nat.zero_le _)
 have hob:(a.eval x).ownBlock=some bb:=by rw [m1];rfl
 rw [hob] at hgrow
 rw [← q1] at hr
 refine Ah (hexec v' w' hr) ?_
 rw [hdst]
 obtain ⟨hxl,hrow⟩:=hown
 rcases hrow with ⟨_,hl0⟩|⟨g,cap',curg,rfl,_,hgg,hcap,hmax,hcsz,htake⟩
 ·omega
 ·have hgw : g = bb ∨ w.heap.size ≤ g := by
   rw [q1,m1] at hr
   exact U6 hP hit hie n2 n4 n6 b2 l2.length cap2 _ hnl hnews h1c hpos (by unfold maxLen;omega) c3 hr rfl
  have hglt:g<w'.heap.size:=(Array.getElem?_eq_some_iff.1 hgg).1
  have hdv:d≠virt i:=fun e=>by rw [e] at hdn;simp [virt] at hdn;omega
  have hsame:∀ b,b<w.heap.size→b≠bb→w'.heap[b]? = w.heap[b]?:=fun b hb hne=>hgrow.block b hb (by simpa using hne)
  have hk2:∀ b q v,κ b=some (s2,q,v)→κ1 b=some (s2,q,v):=fun b q v hk=>hkeep b s2 q v hs2v (fun e=>hss e.symm) hk
  let κd:Nat→Option (List Nat×Value):=fun b=>if b=g then some ([],.slice (some ⟨g,0,none⟩) (l.length+l2.length) cap') else
   match κ1 b with
   | some (u,j::r,v)=>if u=virt i then (if j<l.length then some (j::r,v) else none) else if u=s2 then some ((j+l.length)::r,v) else none
   | _=>none
  have hκd:∀ b p v,κd b=some (p,v)→(b=g∧p=[])∨∃ u j r,κ1 b=some (u,j::r,v)∧((u=virt i∧j<l.length∧p=j::r)∨(u=s2∧u≠virt i∧p=(j+l.length)::r)):=by
   intro b p v hb
   simp only [κd] at hb
   split at hb
   ·rename_i e;simp at hb;exact .inl ⟨e,hb.1⟩
   ·right
    cases hk:κ1 b with
    | none=>simp [hk] at hb
    | some yy=>
     obtain ⟨u',r,v1⟩:=yy
     cases r with
     | nil=>simp [hk] at hb
     | cons j r=>
      simp only [hk] at hb
      split at hb
      ·rename_i e1
       split at hb
       ·rename_i e2
        simp only [Option.some.injEq,Prod.mk.injEq] at hb
        exact ⟨u',j,r,by rw [hb.2],.inl ⟨e1,e2,hb.1.symm⟩⟩
       ·cases hb
      ·rename_i e1
       split at hb
       ·rename_i e2
        simp only [Option.some.injEq,Prod.mk.injEq] at hb
        exact ⟨u',j,r,by rw [hb.2],.inr ⟨e2,e1,hb.1.symm⟩⟩
       ·cases hb
  obtain ⟨κ',hI',_⟩:=hI1.fresh [virt i,s2] d (Small.ne hdn) (.sl true e (l++l2)) [.slice (some ⟨g,0,none⟩) (l.length+l2.length) cap'] w' κd
   hgrow.os hgrow.tape hgrow.output hgrow.size (fun b hb=>hsame b (Nat.lt_of_lt_of_le hb.1 hI.size) (fun e=>hbbF (e▸hb)))
   (fun b s p v hk hsn _=>hsame b (hI1.col b s p v hk).1 (fun e=>by subst e;rw [n3'] at hk;simp at hk;exact hsn (by simp [hk.1])))
   (fun b p v hb=>by
    rcases hκd b p v hb with ⟨rfl,_⟩|⟨u,j,r,hk,hcase⟩
    ·rcases hgw with e|hge
     ·subst e
      exact ⟨hglt,hbbF,fun s p v hk=>by rw [n3'] at hk;simp at hk;exact .inl (by simp [hk.1])⟩
     ·exact ⟨hglt,fun hF=>by have:=hF.1;have:=hI.size;omega,fun s p v hk=>by have:=(hI1.col _ _ _ _ hk).1;omega⟩
    ·have hcl:=hI1.col b _ _ _ hk
     refine ⟨Nat.lt_of_lt_of_le hcl.1 hgrow.size,hcl.2,fun s p v hk'=>?_⟩
     rw [hk] at hk'
     simp only [Option.some.injEq,Prod.mk.injEq] at hk'
     rcases hcase with ⟨h1,_⟩|⟨h1,_⟩ <;> exact .inl (by simp [← hk'.1,h1]))
   (fun b b' p v v' hb hb'=>by
    rcases hκd b p v hb with ⟨rfl,hp⟩|⟨u,j,r,hk,hcase⟩
    ·rcases hκd b' p v' hb' with ⟨rfl,_⟩|⟨u',j',r',hk',hcase'⟩
     ·rfl
     ·rcases hcase' with ⟨_,_,h3⟩|⟨_,_,h3⟩ <;> rw [hp] at h3 <;> cases h3
    ·rcases hκd b' p v' hb' with ⟨rfl,hp⟩|⟨u',j',r',hk',hcase'⟩
     ·rcases hcase with ⟨_,_,h3⟩|⟨_,_,h3⟩ <;> rw [hp] at h3 <;> cases h3
     ·rcases hcase with ⟨h1,h2,h3⟩|⟨h1,h2,h3⟩ <;> rcases hcase' with ⟨g1,g2,g3⟩|⟨g1,g2,g3⟩
      ·rw [h3] at g3
       simp only [List.cons.injEq] at g3
       obtain ⟨rfl,rfl⟩:=g3
       subst h1;subst g1
       exact hI1.inj b b' _ _ _ _ hk hk'
      ·rw [h3] at g3
       simp only [List.cons.injEq] at g3
       omega
      ·rw [h3] at g3
       simp only [List.cons.injEq] at g3
       omega
      ·rw [h3] at g3
       simp only [List.cons.injEq] at g3
       have:j=j':=by omega
       subst this
       obtain ⟨_,rfl⟩:=g3
       subst h1;subst g1
       exact hI1.inj b b' _ _ _ _ hk hk')
   (by
    simp only [T.refFree] at hr0 ⊢
    rw [Bp] at hr0 hr2 ⊢
    intro t ht
    rcases List.mem_append.1 ht with ht|ht
    ·exact hr0 t ht
    ·exact hr2 t ht)
   (fun X' f1 f2 f3 f4=>by
    simp only [CR,List.length_append]
    refine ⟨g,cap',curg,rfl,by rw [f2];exact hgg,f4 g [] _ (by simp [κd]),hcap,hmax,by rw [f1,hsz];exact hcsz,fun t ht=>?_,?_⟩
    ·rw [f1,hsz]
     rcases List.mem_append.1 ht with ht|ht
     ·exact n7 t ht
     ·exact r7 t ht
    ·rw [f1,hsz,htake]
     have hFr:∀ b,C.F b→X'.F b∧X'.w.heap[b]? = w.heap[b]?:=fun b hb=>⟨by rw [f3];exact hb,by rw [f2];exact hsame b (Nat.lt_of_lt_of_le hb.1 hI.size) (fun e=>hbbF (e▸hb))⟩
     have hgne:∀ b u j r v,κ1 b=some (u,j::r,v)→b≠bb∧b≠g∧b<w.heap.size:=fun b u j r v hk=>by
      have hlt:=(hI1.col b _ _ _ hk).1
      have hbne:b≠bb:=fun e=>by subst e;rw [n3'] at hk;simp at hk
      refine ⟨hbne,fun e=>?_,hlt⟩
      rcases hgw with e2|hge
      ·exact hbne (e.trans e2)
      ·omega
     refine Kd l l2 0 _ _ ?_ ?_
     ·have h := Is (X := cx C ((virt i, (⟨verOf (lk env (virt i)) + 1, .own (.sl true e l)⟩ : Slot)) :: (s, ⟨k, .own (T.set .any p T0)⟩) :: env) w κ1) (X' := X') (s := virt i) (s' := d) 0 f1 hFr l 0 _ (fun b j r v _ hj hk => by
       have hk':κ1 b=some (virt i,j::r,v):=hk
       obtain ⟨g1,g2,g3⟩:=hgne b _ _ _ _ hk'
       exact ⟨f4 b (j::r) v (by simp only [κd];rw [if_neg g2];simp [hk',show j<l.length by omega]),by rw [f2];exact hsame b g3 g1⟩) (by simpa [T.refFree] using hr0) n8
      exact h
     ·have h := Is (X := cx C env w κ) (X' := X') (s := s2) (s' := d) l.length f1 hFr l2 0 _ (fun b j r v _ _ hk => by
       have hk':κ1 b=some (s2,j::r,v):=hk2 b _ _ hk
       obtain ⟨g1,g2,g3⟩:=hgne b _ _ _ _ hk'
       exact ⟨f4 b ((j+l.length)::r) v (by simp only [κd];rw [if_neg g2];simp [hk',hs2v]),by rw [f2];exact hsame b g3 g1⟩) hr2 r8
      exact h)
  refine (B6 (v:=.slice (some ⟨g,0,none⟩) (l.length+l2.length) cap') hd hn hdn hI' (fun t ht=>?_)).congr (fun t=>?_)
  ·by_cases e:t=d
   ·simp [e,upd,mkv]
   ·rw [Al _ _ _ _ e,if_neg e,Al _ _ _ _ (by simp [virt];omega)];exact hV t ht
  ·have hvd : verOf (lk ((virt i, (⟨verOf (lk env (virt i)) + 1, .own (.sl true e l)⟩ : Slot)) :: (s, ⟨k, .own (T.set .any p T0)⟩) :: env) d) = verOf (lk env d) := by
    rw [Ab _ _ _ _ hdv]
    by_cases e:d=s
    ·subst e;rw [Ak,hs];rfl
    ·rw [Ab _ _ _ _ e]
   have hv2:verOf (lk ((virt i,(⟨verOf (lk env (virt i))+1,.own (.sl true e l)⟩:Slot))::(s,⟨k,.own (T.set .any p T0)⟩)::env) s2)=k2:=by
    rw [Ab _ _ _ _ hs2v,Ab _ _ _ _ (fun e=>hss e.symm),hs2];rfl
   rw [hvd]
   simp only [kill,List.map_cons,List.map_nil,List.cons_append,List.nil_append,hv2]
   simp only [lk,if_true,verOf]
   by_cases e1:d=t
   ·simp [e1]
   ·simp only [e1,if_false]
    by_cases e2:virt i=t
    ·simp [e2]
    ·simp only [e2,if_false]
     by_cases e3:s=t
     ·subst e3;simp [Ne.symm hss]
     ·simp only [e3,if_false]
theorem Q3 [Small n] (hP : TtOk C.P tt) (hd : a.defers = []) (hn : a.tmps.size = n) (hI : Inv C env V w κ) (hV : ∀ t, t < 1000000 → V t = a.tmps.getD t undef) {t e : TypeId} {sz by_ : Nat} {z : T} (hit : tyAt tt t = some ⟨sz, by_, z, .slice e⟩) {ie : Ty} (hie : tyAt tt e = some ie) {x y : Operand} {o : Oper}
  (ho:o.op=.call { callee:=.builtin .append,args:=#[x,y],argTypes:=#[t,t] }) {s2 k2 d:Nat} {l2:List T} (hv:a.eval x=.slice none 0 0)
  (hs2:lk env s2=some ⟨k2,.own (.sl true e l2)⟩) (hu:HV (cx C env w κ) (.ref s2 k2 []) (a.eval y)) (hsol:T.solidL l2=true) (hne:l2≠[]) (c1:0<ie.size) (c2:l2.length≤1099511627776) (c3:l2.length*ie.bytes≤140737488355328)
  (hdst:o.dst=some d) (hdn:d<n) {Q:Exit→Act→World→Prop} :
  o.wp C.P a w (fun a' w'=>FR C n ([(d,⟨verOf (lk env d)+1,.own (.sl true e l2)⟩),(s2,⟨k2,.val .any⟩)]++env) a' w') Q:=by
 obtain ⟨ti,i1,i2,i3,i4⟩:=Dn hP hie
 have hsz:C.P.cellsOf e=ie.size:=Dd hP hie
 have hexec:∀ (r:Value) (w':World),(Builtin.append_ #[t,t] o.type #[a.eval x,a.eval y]).run C.P w=.ok r w'→(execOp a.eval o).run C.P w=.ok (.value r) w':=fun r w' hr=>by
  simp [execOp,ho,Go.resolve,invoke,builtin,hr]
 have hzc:=B8 ie.zero (hP e ie hie).2.1
 have hzsz:(mkv ie.zero ie.zero.zc).cells.size=ie.size:=by
  rw [Bw hzc.2.2.2 (Ax (X:=cx C env w κ) (s:=0) ie.zero [] _ hzc.2.2.1 hzc.2.1 (Gt _ _ _ _ (hP e ie hie).2.1))]
  simpa [hzc.2.2.2] using (hP e ie hie).2.2.1
 obtain ⟨_,hc2⟩:=hu.ref_cells
 obtain ⟨b2,cap2,cur2,q1,q2,q3,q4⟩:=hI.ref_eq hs2 (show T.get [] (.sl true e l2)=some (.sl true e l2) from rfl) rfl hc2
 simp only [headOf,List.cons.injEq,and_true] at q1
 have hr2:T.refFreeL l2=true:=by simpa [T.refFree] using (hI.own s2 k2 _ hs2).1
 simp only [CR] at q2
 obtain ⟨b2',cap2',cur2',r1,r2,r3,r4,r5,r6,r7,r8⟩:=q2
 rw [q1] at r1
 simp only [List.cons.injEq,and_true,Value.slice.injEq,Option.some.injEq,Addr.mk.injEq] at r1
 obtain ⟨rfl,_,rfl⟩:=r1
 have hX2:(cx C env w κ).sz e=ie.size:=hsz
 rw [hX2] at r6 r7 r8
 have hnl:(cur2'.toList.take (l2.length*ie.size)).length=l2.length*ie.size:=by have:=D4 _ _ _ _ _ _ r8;rw [this,Bj r7]
 have hnews:∀ j u,(cur2'.toList.take (l2.length*ie.size))[j]? = some u→w.cell? (Addr.add ⟨b2,0,none⟩ j)=some u:=fun j u hj=>by
  rw [Bu,Nat.zero_add,cell_of_row w b2 j cur2' e (0,0) r2]
  rw [List.getElem?_take] at hj
  split at hj
  ·simpa using hj
  ·cases hj
 have h1c:=Ce l2 [] 0 _ hsol hr2 r8
 have hpos:0<l2.length:=List.length_pos_iff.2 hne
 obtain ⟨v',w',hr,hown,hgrow,_⟩:=run_append_own (P:=C.P) w 0 t o.type e ti (mkv ie.zero ie.zero.zc) ie.size ie.bytes (A8 hP hit) i1 i2 i3 i4 hzsz c1
  (.slice none 0 0) 0 [] (World.ownsRow_nil w 0 e ie.size) ⟨b2,0,none⟩ l2.length cap2 _ hnl hnews h1c (by unfold maxLen;omega) (by simpa using c3) (Nat.zero_le _)
 simp only [Nat.zero_add,List.nil_append] at hown
 refine Ah (hexec v' w' (by rw [hv,q1];exact hr)) ?_
 rw [hdst]
 obtain ⟨hxl,hrow⟩:=hown
 rcases hrow with ⟨_,hl0⟩|⟨g,cap',cur,rfl,_,hg,hcap,hmax,hcsz,htake⟩
 ·omega
 ·have hgs : w.heap.size ≤ g := by
   rcases Nat.lt_or_ge g w.heap.size with hlt|hge
   ·exfalso
    have hrr:=hr
    have hnew:=run_append_nil (P:=C.P) w t o.type e ti (mkv ie.zero ie.zero.zc) (A8 hP hit) i1 i2 ⟨b2,0,none⟩ l2.length cap2 _ (by rw [hnl,i3]) hnews (by omega) (by omega) (by rw [i4];omega)
    rw [hnew] at hrr
    simp only [Result.ok.injEq,Value.slice.injEq,Option.some.injEq,Addr.mk.injEq] at hrr
    omega
   ·exact hge
  have hglt:g<w'.heap.size:=(Array.getElem?_eq_some_iff.1 hg).1
  have hsame:∀ b,b<w.heap.size→w'.heap[b]? = w.heap[b]?:=fun b hb=>hgrow.block b hb (by simp [Value.ownBlock])
  let κd:Nat→Option (List Nat×Value):=fun b=>if b=g then some ([],.slice (some ⟨g,0,none⟩) l2.length cap') else
   match κ b with
   | some (u,j::r,v)=>if u=s2 then some (j::r,v) else none
   | _=>none
  have hκd:∀ b p v,κd b=some (p,v)→(b=g∧p=[])∨∃ j r,κ b=some (s2,j::r,v)∧p=j::r:=by
   intro b p v hb
   simp only [κd] at hb
   split at hb
   ·rename_i e;simp at hb;exact .inl ⟨e,hb.1⟩
   ·right
    cases hk:κ b with
    | none=>simp [hk] at hb
    | some yy=>
     obtain ⟨u',r,v1⟩:=yy
     cases r with
     | nil=>simp [hk] at hb
     | cons j r=>
      simp only [hk] at hb
      split at hb
      ·rename_i e1
       simp only [Option.some.injEq,Prod.mk.injEq] at hb
       exact ⟨j,r,by rw [hb.2,e1],hb.1.symm⟩
      ·cases hb
  obtain ⟨κ',hI',_⟩:=hI.fresh [s2] d (Small.ne hdn) (.sl true e l2) [.slice (some ⟨g,0,none⟩) l2.length cap'] w' κd
   hgrow.os hgrow.tape hgrow.output hgrow.size (fun b hb=>hsame b (Nat.lt_of_lt_of_le hb.1 hI.size))
   (fun b s p v hk hsn _=>hsame b (hI.col b s p v hk).1)
   (fun b p v hb=>by
    rcases hκd b p v hb with ⟨rfl,_⟩|⟨j,r,hk,_⟩
    ·exact ⟨hglt,fun hF=>by have:=hF.1;have:=hI.size;omega,fun s p v hk=>by have:=(hI.col _ _ _ _ hk).1;omega⟩
    ·have hcl:=hI.col b _ _ _ hk
     refine ⟨Nat.lt_of_lt_of_le hcl.1 hgrow.size,hcl.2,fun s p v hk'=>?_⟩
     rw [hk] at hk'
     simp only [Option.some.injEq,Prod.mk.injEq] at hk'
     exact .inl (by simp [← hk'.1]))
   (fun b b' p v v' hb hb'=>by
    rcases hκd b p v hb with ⟨rfl,hp⟩|⟨j,r,hk,hp⟩
    ·rcases hκd b' p v' hb' with ⟨rfl,_⟩|⟨j',r',hk',hp'⟩
     ·rfl
     ·rw [hp] at hp';cases hp'
    ·rcases hκd b' p v' hb' with ⟨rfl,hp'⟩|⟨j',r',hk',hp'⟩
     ·rw [hp] at hp';cases hp'
     ·rw [hp] at hp'
      simp only [List.cons.injEq] at hp'
      obtain ⟨rfl,rfl⟩:=hp'
      exact hI.inj b b' _ _ _ _ hk hk')
   (by simpa [T.refFree] using hr2)
   (fun X' f1 f2 f3 f4=>by
    simp only [CR]
    refine ⟨g,cap',cur,rfl,by rw [f2];exact hg,f4 g [] _ (by simp [κd]),hcap,hmax,by rw [f1,hsz];exact hcsz,fun t ht=>by rw [f1,hsz];exact r7 t ht,?_⟩
    rw [f1,hsz,htake]
    have hFr:∀ b,C.F b→X'.F b∧X'.w.heap[b]? = w.heap[b]?:=fun b hb=>⟨by rw [f3];exact hb,by rw [f2];exact hsame b (Nat.lt_of_lt_of_le hb.1 hI.size)⟩
    have h:=Is (X:=cx C env w κ) (X':=X') (s:=s2) (s':=d) 0 f1 hFr l2 0 _ (fun b j r v _ _ hk=>by
     have hk':κ b=some (s2,j::r,v):=hk
     have hlt:=(hI.col b _ _ _ hk').1
     exact ⟨f4 b (j::r) v (by simp only [κd];rw [if_neg (by omega)];simp [hk']),by rw [f2];exact hsame b hlt⟩) hr2 r8
    exact h)
  refine (B6 (v:=.slice (some ⟨g,0,none⟩) l2.length cap') hd hn hdn hI' (fun t ht=>?_)).congr (fun t=>?_)
  ·by_cases e:t=d
   ·simp [e,upd,mkv]
   ·rw [Al _ _ _ _ e,if_neg e];exact hV t ht
  ·simp only [kill,List.map_cons,List.map_nil,List.cons_append,List.nil_append,hs2,verOf]
theorem Ae8 [Small n] (hP : TtOk C.P tt) (hF : FR C n env a w) (hn1 : n ≤ 1000000) {t e : TypeId} {sz by_ : Nat} {z : T} (hit : tyAt tt t = some ⟨sz, by_, z, .slice e⟩) {ie : Ty} (hie : tyAt tt e = some ie) {x y : Operand} {i : Nat} {o : Oper}
  (ho:o.op=.call { callee:=.builtin .append,args:=#[x,y],argTypes:=#[t,t] }) (hok:opOk n o=true)
  (h : (rdv x fun v => rdv y fun u => appendBase e (virt i) v fun l ups => elemsE e u fun l2 =>
     .need (0<ie.size∧l.length+l2.length≤1099511627776∧(l.length+l2.length)*ie.bytes≤140737488355328) <|
     (if T.pureL l2&&T.refFreeL l2&&l2.all T.plain then
      match ups with
      | []=>if l2.isEmpty then fin o.dst .nil else finOwn o.dst (.sl true e l2) []
      | _=>.rd (virt i) fun sv=>finOwn o.dst (.sl true e (l++l2)) ((virt i,⟨verOf sv+1,.val .any⟩)::ups)
     else appendOwn (virt i) o.dst ie e u l ups)).sat AF env U R) {Q:Exit→Act→World→Prop} :
  o.wp C.P a w (fun a' w'=>FR C n (U++env) a' w') Q:=by
 obtain ⟨hd,hn,κ,V,hI,hV⟩:=hF
 obtain ⟨v,R',h1,hv⟩:=Au hI hV (Ap hok (by simp [ho,Op.operands,Call.operands])) h
 obtain ⟨u,R'',h2,hu⟩:=Au hI hV (Ap hok (by simp [ho,Op.operands,Call.operands])) h1
 obtain ⟨ti,i1,i2,i3,i4⟩:=Dn hP hie
 have hsz:C.P.cellsOf e=ie.size:=Dd hP hie
 have hexec:∀ (r:Value) (w':World),(Builtin.append_ #[t,t] o.type #[a.eval x,a.eval y]).run C.P w=.ok r w'→(execOp a.eval o).run C.P w=.ok (.value r) w':=fun r w' hr=>by
  simp [execOp,ho,Go.resolve,invoke,builtin,hr]
 have hzc:=B8 ie.zero (hP e ie hie).2.1
 have hzsz:(mkv ie.zero ie.zero.zc).cells.size=ie.size:=by
  rw [Bw hzc.2.2.2 (Ax (X:=cx C env w κ) (s:=0) ie.zero [] _ hzc.2.2.1 hzc.2.1 (Gt _ _ _ _ (hP e ie hie).2.1))]
  simpa [hzc.2.2.2] using (hP e ie hie).2.2.1
 cases v <;> try (simp [appendBase,Rd.sat] at h2;done)
 case nil=>
  simp only [appendBase] at h2
  obtain ⟨l2,R3,ad,cap,hy,h3,hall,hcells⟩:=J5 hI hu h2
  simp only [Rd.sat] at h3
  obtain ⟨⟨c1,c2,c3⟩,h4⟩:=h3
  obtain ⟨s0,cs,e1,e2⟩:=hv.cells
  simp only [CR] at e2
  subst e2
  simp only [mkv,List.headD] at e1
  split at h4
  ·rename_i hpl
   simp only [Bool.and_eq_true] at hpl
   split at h4
   ·rename_i hemp
    have:l2=[]:=by simpa using hemp
    subst this
    simp only [List.length_nil] at hy
    refine Ah (hexec (.slice none 0 0) w ?_) (Ay hd hn hI hV (Am hok) (HV.mk_nil _) h4)
    rw [e1,hy]
    exact Fz hP hit hie _ none ad 0 0 cap (Nat.le_refl _)
   ·rename_i hemp
    have hne:l2≠[]:=by simpa using hemp
    obtain ⟨d,hdst,rfl⟩:=Bx h4
    obtain ⟨b,off,s,p,cs,rfl,hcl,hcc,hC⟩:=hcells hne
    simp only [List.length_nil,Nat.zero_add] at c2 c3
    have h1c:=Ce l2 p 0 cs (by
     have:∀ (l:List T),l.all T.plain=true→T.solidL l=true:=by
      intro l;induction l with
      | nil=>simp [T.solidL]
      | cons t l ih=>intro h;simp only [List.all_cons,Bool.and_eq_true] at h;simp [T.solidL,(B8 t h.1).2.2.1,ih h.2]
     exact this l2 hpl.2) hpl.1.2 hC
    obtain ⟨v',w',hr,hown,hgrow,hnil⟩:=run_append_own (P:=C.P) w 0 t o.type e ti (mkv ie.zero ie.zero.zc) ie.size ie.bytes (A8 hP hit) i1 i2 i3 i4 hzsz c1
     (.slice none 0 0) 0 [] (World.ownsRow_nil w 0 e ie.size) ⟨b,off,none⟩ l2.length cap cs (by rw [hcl,hsz]) (fun j x hj=>by rw [Bu];exact hcc j x hj) h1c (by unfold maxLen;omega) (by simpa using c3) (Nat.zero_le _)
    simp only [Nat.zero_add,List.nil_append] at hown
    refine Ah (hexec v' w' (by rw [e1,hy];exact hr)) ?_
    obtain ⟨hxl,hrow⟩:=hown
    rcases hrow with ⟨hv0,hl0⟩|⟨g,cap',cur,rfl,_,hg,hcap,hmax,hcsz,htake⟩
    ·exact absurd (List.eq_nil_of_length_eq_zero hl0) hne
    ·
     have hgs:w.heap.size≤g:=by
      rcases Nat.lt_or_ge g w.heap.size with hlt|hge
      ·exfalso
       have hrr:=hr
       have hnew:=run_append_nil (P:=C.P) w t o.type e ti (mkv ie.zero ie.zero.zc) (A8 hP hit) i1 i2 ⟨b,off,none⟩ l2.length cap cs (by rw [hcl,hsz,i3]) (fun j x hj=>by rw [Bu];exact hcc j x hj)
        (by have:=List.length_pos_iff.2 hne;omega) (by omega) (by rw [i4];omega)
       rw [hnew] at hrr
       simp only [Result.ok.injEq,Value.slice.injEq,Option.some.injEq,Addr.mk.injEq] at hrr
       omega
      ·exact hge
     have hglt:g<w'.heap.size:=(Array.getElem?_eq_some_iff.1 hg).1
     rw [hdst]
     have hdn:=Am hok d hdst
     obtain ⟨κ',hI',_⟩:=hI.fresh [] d (Small.ne hdn) (.sl true e l2) [.slice (some ⟨g,0,none⟩) l2.length cap'] w' (fun b=>if b=g then some ([],.slice (some ⟨g,0,none⟩) l2.length cap') else none)
      hgrow.os hgrow.tape hgrow.output hgrow.size (fun b hb=>hgrow.block b (Nat.lt_of_lt_of_le hb.1 hI.size) (by simp [Value.ownBlock])) (fun b s p v hk _ _=>hgrow.block b (hI.col b s p v hk).1 (by simp [Value.ownBlock]))
      (fun b p v hb=>by
       split at hb
       ·rename_i e;subst e
        refine ⟨hglt,fun hF=>by have:=hF.1;have:=hI.size;omega,fun s p v hk=>by have:=(hI.col _ _ _ _ hk).1;omega⟩
       ·cases hb)
      (fun b b' p v v' hb hb'=>by
       split at hb
       ·split at hb'
        ·rename_i e e';rw [e,e']
        ·cases hb'
       ·cases hb) (by simpa [T.refFree] using hpl.1.2)
      (fun X' f1 f2 f3 f4=>by
       simp only [CR]
       refine ⟨g,cap',cur,rfl,by rw [f2];exact hg,f4 g [] _ (by simp),hcap,hmax,by rw [f1,hsz];exact hcsz,fun t ht=>by rw [f1];exact hall t ht,?_⟩
       rw [f1,hsz,htake]
       exact Gf (cx C env w κ) X' s d f1 (fun b hb=>⟨by rw [f3];exact hb,by rw [f2];exact hgrow.block b (Nat.lt_of_lt_of_le hb.1 hI.size) (by simp [Value.ownBlock])⟩) l2 p [] 0 cs hpl.1.1 hC)
     refine B6 (v:=.slice (some ⟨g,0,none⟩) l2.length cap') hd hn hdn (by simpa [kill] using hI') (fun t ht=>?_)
     by_cases e:t=d
     ·simp [e,upd,mkv]
     ·rw [Al _ _ _ _ e,if_neg e];exact hV t ht
  ·obtain ⟨s2,k2,l2',hu2,hs2,hsol,hne,_,b1,b2,b3,R4,hx⟩:=K7 h4
   subst hu2
   obtain ⟨d,hdst,rfl⟩:=Bx hx
   exact Q3 hP hd hn hI hV hit hie ho e1 hs2 hu hsol hne b1 (by simpa using b2) (by simpa using b3) hdst (Am hok d hdst)
 case ref s k p=>
  simp only [appendBase] at h2
  split at h2
  ·simp [Rd.sat] at h2
  ·rename_i hsv
   obtain ⟨T0,nd,R3,hs,hg,hnd,h3⟩:=Bk h2
   cases nd <;> try (simp [T.isNode] at hnd;done)
   case box=>simp [Rd.sat] at h3
   case win=>simp [Rd.sat] at h3
   case sl oo e' l=>
    cases oo with
    | false=>simp [T.isNode] at hnd
    | true=>
     simp only at h3
     split at h3
     ·rename_i he
      subst he
      obtain ⟨l2,R4,ad,cap,hy,h4,hall,hcells⟩:=J5 hI hu h3
      simp only [Rd.sat] at h4
      obtain ⟨⟨c1,c2,c3⟩,h5⟩:=h4
      split at h5
      ·rename_i hpl
       simp only [Bool.and_eq_true] at hpl
       simp only [Rd.sat] at h5
       obtain ⟨R5,h6,_⟩:=h5
       obtain ⟨d,hdst,rfl⟩:=Bx h6
       have hdn:=Am hok d hdst
       have hr0:=Br p T0 _ hg (hI.own s k T0 hs).1
       obtain ⟨s0,hc⟩:=hv.ref_cells
       obtain ⟨b,cap1,cur,q1,q2,q3,q4⟩:=hI.ref_eq hs hg hnd hc
       simp at q1
       obtain ⟨κ1,hI1,hkeep⟩:=hI.moveNode hs hg hnd (d:=virt i) (Gi i) (fun e=>hsv e.symm) (.sl true e' l) [] [a.eval x] hr0 (fun b' cap' X' f1 f2 f3 f4 f5=>by
        have hb:=hI.inj b' b s p _ _ f1 q4
        subst hb
        have:headOf (.sl true e' l) b' cap'=headOf (.sl true e' l) b' cap1:=by rw [f1] at q4;simpa using q4
        rw [this,← q1] at f5
        exact f5)
       have hm:mkv (.sl true e' l) [a.eval x]=a.eval x:=rfl
       rw [hm] at hI1
       obtain ⟨_,csb,m1,m2⟩:=hI1.own (virt i) _ _ (Ak _ _ _)
       rw [By] at m1
       simp only [CR] at m2
       obtain ⟨bb,capb,curb,rfl,n2,n3,n4,n5,n6,n7,n8⟩:=m2
       simp only [mkv,List.headD] at m1
       have hXsz:(cx C ((virt i,(⟨verOf (lk env (virt i))+1,.own (.sl true e' l)⟩:Slot))::(s,⟨k,.own (T.set .any p T0)⟩)::env) w κ1).sz e'=ie.size:=hsz
       rw [hXsz] at n6 n8 n7
       have hown0:w.ownsRow 0 e' ie.size (a.eval x) l.length (curb.toList.take (l.length*ie.size)):=by
        refine ⟨?_,.inr ⟨bb,capb,curb,m1,Nat.zero_le _,n2,n4,n5,n6,rfl⟩⟩
        have:=D4 _ _ _ _ _ _ n8
        rw [this,Bj n7]
       have hbbF:¬ C.F bb:=(hI1.col bb _ _ _ n3).2
       have hrun : ∃ v' w' news, (Builtin.append_ #[t, t] o.type #[a.eval x, a.eval y]).run C.P w = .ok v' w' ∧ w'.ownsRow 0 e' ie.size v' (l.length + l2.length) (curb.toList.take (l.length * ie.size) ++ news) ∧
         w.grownBy w' (some bb)∧(∃ s p,CRL (cx C env w κ) s p 0 l2 news)∧(∀ g a2 c2,v'=.slice (some ⟨g,0,none⟩) a2 c2→g=bb∨w.heap.size≤g):=by
        by_cases hne:l2=[]
        ·subst hne
         simp only [List.length_nil] at hy
         refine ⟨a.eval x,w,[],?_,by simpa using hown0,⟨rfl,rfl,rfl,Nat.le_refl _,fun _ _ _=>rfl⟩,⟨0,[],by simp [CRL]⟩,fun g a2 c2 hh=>?_⟩
         ·rw [m1,hy]
          exact Fz hP hit hie _ _ ad l.length capb cap n4
         ·rw [m1] at hh;simp at hh;exact .inl hh.1.symm
        ·obtain ⟨b2,off2,s2,p2,cs2,rfl,hcl,hcc,hC⟩:=hcells hne
         have h1c:=Ce l2 p2 0 cs2 (by
          have:∀ (l:List T),l.all T.plain=true→T.solidL l=true:=by
           intro l;induction l with
           | nil=>simp [T.solidL]
           | cons t l ih=>intro h;simp only [List.all_cons,Bool.and_eq_true] at h;simp [T.solidL,(B8 t h.1).2.2.1,ih h.2]
          exact this l2 hpl.2) hpl.1.2 hC
         obtain ⟨v',w',hr,hown,hgrow,hnil⟩:=run_append_own (P:=C.P) w 0 t o.type e' ti (mkv ie.zero ie.zero.zc) ie.size ie.bytes (A8 hP hit) i1 i2 i3 i4 hzsz c1
          (a.eval x) l.length _ hown0 ⟨b2,off2,none⟩ l2.length cap cs2 (by rw [hcl,hsz]) (fun j x hj=>by rw [Bu];exact hcc j x hj) h1c (by unfold maxLen;omega) c3 (Nat.zero_le _)
         have hob:(a.eval x).ownBlock=some bb:=by rw [m1];rfl
         rw [hob] at hgrow
         refine ⟨v',w',cs2,by rw [hy];exact hr,hown,hgrow,⟨s2,p2,hC⟩,fun g a2 c2 hh=>?_⟩
         subst hh
         by_cases hroom:l.length+l2.length≤capb
         ·left
          have hr2:=run_append_room (P:=C.P) w t o.type e' ti (A8 hP hit) i1 bb l.length capb curb n2 ⟨b2,off2,none⟩ l2.length cap cs2 (by rw [hcl,hsz,i3]) (fun j x hj=>by rw [Bu];exact hcc j x hj) h1c hroom (by
           rw [i3,hcl,hsz,n6,← Nat.add_mul];exact Nat.mul_le_mul_right _ hroom)
          rw [← m1] at hr2
          rw [hr2] at hr
          simp at hr
          exact hr.1.1.symm
         ·right
          have hr2 := run_append_grow (P := C.P) w t o.type e' ti (mkv ie.zero ie.zero.zc) (A8 hP hit) i1 i2 ⟨bb, 0, none⟩ l.length capb _ (by rw [i3]; exact hown0.1) (fun j x hj => by
            rw [Bu,Nat.zero_add,cell_of_row w bb j curb e' (0,0) n2]
            rw [List.getElem?_take] at hj
            split at hj
            ·simpa using hj
            ·cases hj) ⟨b2,off2,none⟩ l2.length cap cs2 (by rw [hcl,hsz,i3]) (fun j x hj=>by rw [Bu];exact hcc j x hj) (by omega) (by omega) (growslice_fits (by omega) (by rw [i4];exact c3))
          rw [← m1] at hr2
          rw [hr2] at hr
          simp at hr
          omega
       obtain ⟨v',w',news,hr,hown,hgrow,⟨s2,p2,hC2⟩,hwhere⟩:=hrun
       refine Ah (hexec v' w' hr) ?_
       rw [hdst]
       obtain ⟨hxl,hrow⟩:=hown
       rcases hrow with ⟨hv0,hl0⟩|⟨g,cap',curg,rfl,_,hgg,hcap,hmax,hcsz,htake⟩
       ·
        exfalso
        subst hv0
        have hl00:l=[]∧l2=[]:=by
         constructor
         ·exact List.eq_nil_of_length_eq_zero (by omega)
         ·exact List.eq_nil_of_length_eq_zero (by omega)
        obtain ⟨rfl,rfl⟩:=hl00
        simp only [List.length_nil] at hy
        have hr2:=Fz (w:=w) hP hit hie o.type (some ⟨bb,0,none⟩) ad 0 capb cap (Nat.zero_le _)
        rw [hy,m1] at hr
        simp only [List.length_nil] at hr
        rw [hr2] at hr
        simp at hr
       ·have hgw:=hwhere g _ _ rfl
        have hglt:g<w'.heap.size:=(Array.getElem?_eq_some_iff.1 hgg).1
        have hdv:d≠virt i:=fun e=>by have h1:d<n:=hdn;rw [e] at h1;simp [virt] at h1;omega
        have hsame:∀ b,b<w.heap.size→b≠bb→w'.heap[b]? = w.heap[b]?:=fun b hb hne=>hgrow.block b hb (by simpa using hne)
        obtain ⟨κ',hI',_⟩:=hI1.fresh [virt i] d (Small.ne hdn) (.sl true e' (l++l2)) [.slice (some ⟨g,0,none⟩) (l.length+l2.length) cap'] w'
         (fun b=>if b=g then some ([],.slice (some ⟨g,0,none⟩) (l.length+l2.length) cap') else match κ1 b with|some (u,j::r,v)=>if u=virt i then some (j::r,v) else none|_=>none)
         hgrow.os hgrow.tape hgrow.output hgrow.size (fun b hb=>hsame b (Nat.lt_of_lt_of_le hb.1 hI.size) (fun e=>hbbF (e▸hb)))
         (fun b s p v hk hsn _=>hsame b (hI1.col b s p v hk).1 (fun e=>by subst e;rw [show (cx C _ w κ1).kap b=κ1 b from rfl] at n3;rw [hk] at n3;simp at n3;exact hsn (by simp [n3.1])))
         (fun b p v hb=>by
          split at hb
          ·rename_i e;subst e
           rcases hgw with rfl|hge
           ·exact ⟨hglt,hbbF,fun s p v hk=>by rw [show κ1 b=some (virt i,[],_) from n3] at hk;simp at hk;exact .inl (by simp [hk.1])⟩
           ·exact ⟨hglt,fun hF=>by have:=hF.1;have:=hI.size;omega,fun s p v hk=>by have:=(hI1.col _ _ _ _ hk).1;omega⟩
          ·cases hk:κ1 b with
           | none=>simp [hk] at hb
           | some y=>
            obtain ⟨u',r,v1⟩:=y
            cases r with
            | nil=>simp [hk] at hb
            | cons j r=>
             simp only [hk] at hb
             split at hb
             ·rename_i e
              have hcl:=hI1.col b _ _ _ hk
              refine ⟨Nat.lt_of_lt_of_le hcl.1 hgrow.size,hcl.2,fun s p v hk'=>?_⟩
              simp only [Option.some.injEq,Prod.mk.injEq] at hk'
              exact .inl (by simp [← hk'.1,e])
             ·cases hb)
         (fun b b' p v v' hb hb'=>by
          split at hb
          ·split at hb'
           ·rename_i e e';rw [e,e']
           ·simp at hb
            cases hk:κ1 b' with
            | none=>simp [hk] at hb'
            | some y=>
             obtain ⟨u',r,v1⟩:=y
             cases r with
             | nil=>simp [hk] at hb'
             | cons j r=>
              simp only [hk] at hb'
              split at hb'
              ·simp at hb';rw [hb.1] at hb';simp at hb'
              ·cases hb'
          ·cases hk:κ1 b with
           | none=>simp [hk] at hb
           | some y=>
            obtain ⟨u',r,v1⟩:=y
            cases r with
            | nil=>simp [hk] at hb
            | cons j r=>
             simp only [hk] at hb
             split at hb
             ·split at hb'
              ·simp at hb hb';rw [hb'.1] at hb;simp at hb
              ·cases hk':κ1 b' with
               | none=>simp [hk'] at hb'
               | some y'=>
                obtain ⟨u'',r',v1'⟩:=y'
                cases r' with
                | nil=>simp [hk'] at hb'
                | cons j' r'=>
                 simp only [hk'] at hb'
                 split at hb'
                 ·rename_i e1 _ e2
                  simp only [Option.some.injEq,Prod.mk.injEq] at hb hb'
                  have e3:=hb.1.trans hb'.1.symm
                  subst e1;subst e2
                  rw [e3] at hk
                  exact hI1.inj b b' _ _ _ _ hk hk'
                 ·cases hb'
             ·cases hb)
         (by
          simp only [T.refFree] at hr0 ⊢
          rw [Bp] at hr0 ⊢
          intro t ht
          rcases List.mem_append.1 ht with ht|ht
          ·exact hr0 t ht
          ·exact (Bp l2).1 hpl.1.2 t ht)
         (fun X' f1 f2 f3 f4=>by
          simp only [CR,List.length_append]
          refine ⟨g,cap',curg,rfl,by rw [f2];exact hgg,f4 g [] _ (by simp),hcap,hmax,by rw [f1,hsz];exact hcsz,fun t ht=>?_,?_⟩
          ·rw [f1,hsz]
           rcases List.mem_append.1 ht with ht|ht
           ·exact n7 t ht
           ·rw [hall t ht,hsz]
          ·rw [f1,hsz,htake]
           have hFr:∀ b,C.F b→X'.F b∧X'.w.heap[b]? = w.heap[b]?:=fun b hb=>⟨by rw [f3];exact hb,by rw [f2];exact hsame b (Nat.lt_of_lt_of_le hb.1 hI.size) (fun e=>hbbF (e▸hb))⟩
           refine Kd l l2 0 _ _ ?_ (L8 (X:=cx C env w κ) f1 hFr l2 p2 [] 0 _ news hpl.1.1 hC2)
           have hagg := P2 (X := cx C ((virt i, (⟨verOf (lk env (virt i)) + 1, .own (.sl true e' l)⟩ : Slot)) :: (s, ⟨k, .own (T.set .any p T0)⟩) :: env) w κ1) (X' := X') (s := virt i) (s' := d) f1 hFr (fun b j r v hk => by
             have hk':κ1 b=some (virt i,j::r,v):=hk
             have hlt:=(hI1.col b _ _ _ hk').1
             have hbne:b≠bb:=fun e=>by subst e;rw [show κ1 b=some (virt i,[],_) from n3] at hk';simp at hk'
             have hbg:b≠g:=fun e=>by
              rcases hgw with e2|hge
              ·exact hbne (e.trans e2)
              ·omega
             exact ⟨f4 b (j::r) v (by rw [if_neg hbg];simp [hk']),by rw [f2];exact hsame b hlt hbne⟩) l 0 _ (by simpa [T.refFree] using hr0) n8
           exact hagg)
        refine (B6 (v:=.slice (some ⟨g,0,none⟩) (l.length+l2.length) cap') hd hn hdn hI' (fun t ht=>?_)).congr (fun t=>?_)
        ·by_cases e:t=d
         ·simp [e,upd,mkv]
         ·rw [Al _ _ _ _ e,if_neg e,Al _ _ _ _ (by simp [virt];omega)];exact hV t ht
        ·have hvd : verOf (lk ((virt i, (⟨verOf (lk env (virt i)) + 1, .own (.sl true e' l)⟩ : Slot)) :: (s, ⟨k, .own (T.set .any p T0)⟩) :: env) d) = verOf (lk env d) := by
          rw [Ab _ _ _ _ hdv]
          by_cases e:d=s
          ·subst e;rw [Ak,hs];rfl
          ·rw [Ab _ _ _ _ e]
         rw [hvd]
         simp only [kill,List.map_cons,List.map_nil,List.cons_append,List.nil_append,lk,if_true,verOf]
         by_cases e1:d=t
         ·simp [e1]
         ·simp only [e1,if_false]
          by_cases e2:virt i=t
          ·simp [e2]
          ·simp [e2]
      ·obtain ⟨s2,k2,l2',hu2,hs2,hsol,hne,hs2v,b1,b2,b3,R4',hx⟩:=K7 h5
       subst hu2
       simp only at hx
       split at hx
       ·simp [Rd.sat] at hx
       ·rename_i hss
        simp only [Rd.sat] at hx
        obtain ⟨R5,h6,_⟩:=hx
        obtain ⟨d,hdst,rfl⟩:=Bx h6
        exact Qx hP hd hn hn1 hI hV hit hie ho hs hg hv hs2 hu hss hsv hs2v hsol hne b1 b2 b3 hdst (Am hok d hdst)
     ·simp [Rd.sat] at h3
end
end
section
theorem Inv.putS {C : Ctx} {env : Env} {V : Nat → Value} {w : World} {κ : Kap} (h : Inv C env V w κ) (s k : Nat) (T0 t0 t1 : T) (P : List Nat) (srcs : List Nat) (κo : Nat → Option (List Nat × Value)) (w' : World)
  (hs:lk env s=some ⟨k,.own T0⟩) (hsrc:s ∉ srcs) (hg:T.get P T0=some t0) (hag:t1.isAgg=t0.isAgg) (hr1:t1.refFree=true)
  (hos:w'.os=w.os) (htape:w'.tape=w.tape) (hout:w'.output=w.output) (hsize:w.heap.size≤w'.heap.size)
  (hfrozen:∀ b,C.F b→w'.heap[b]? = w.heap[b]?) (hkept:∀ b u p v,κ b=some (u,p,v)→u ∉ srcs→u≠s→w'.heap[b]? = w.heap[b]?)
  (hcol:∀ b r v,κo b=some (r,v)→b<w'.heap.size∧¬ C.F b)
  (hcol2:∀ b r v,κo b=some (r,v)→∀ u r v,κ b=some (u,r,v)→(u=s∧P <+: r)∨u∈srcs)
  (hinj:∀ b b' p v v',κo b=some (p,v)→κo b'=some (p,v')→b=b')
  (hk:∀ r n,T.get r t1=some n→n.isNode=true→(∃ n0,T.get (P++r) T0=some n0∧n0.isNode=true)∧∀ b v,κ b=some (s,P++r,v)→recol κ s P srcs κo b=some (s,P++r,v))
  (hroot:∀ (cs:List Value) (X':Cx),X'.sz=C.P.cellsOf→X'.w=w'→X'.F=C.F→X'.kap=recol κ s P srcs κo→Refs (cx C env w κ) X'→CR (cx C env w κ) s [] T0 cs→CR X' s [] (T.set t1 P T0) cs) :
  Inv C ((s,⟨k,.own (T.set t1 P T0)⟩)::kill srcs env) V w' (recol κ s P srcs κo):=by
 have hver:verOf (lk env s)=k:=by rw [hs];rfl
 have hrefs:Refs (cx C env w κ) (cx C ((s,⟨k,.own (T.set t1 P T0)⟩)::kill srcs env) w' (recol κ s P srcs κo)):=by
  intro u j q ho
  obtain ⟨y,hy,hj⟩:=ho
  by_cases e:u=s
  ·subst e
   rw [hs] at hy
   simp at hy;subst hy
   refine ⟨⟨_,Ak _ _ _,hj⟩,fun hn=>?_⟩
   obtain ⟨T2,n,h1,h2,h3⟩:=hn
   rw [Ak] at h1
   simp only [Option.some.injEq,Slot.mk.injEq,SV.own.injEq] at h1
   obtain ⟨rfl,rfl⟩:=h1
   rcases G1 t1 P T0 t0 hg q n h2 h3 with ⟨r,rfl,hr⟩|⟨h4,n0,h5,h6⟩
   ·obtain ⟨⟨n0,g1,g2⟩,g3⟩:=hk r n hr h3
    exact ⟨⟨T0,n0,hs,g1,g2⟩,fun b v hb=>g3 b v hb⟩
   ·exact ⟨⟨T0,n0,hs,h5,h6⟩,fun b v hb=>Bs hcol2 hb (by simp [h4,hsrc])⟩
  ·by_cases e2:u∈srcs
   ·refine ⟨⟨_,by rw [Ab _ _ _ _ e];exact A7 _ _ _ e2,by rw [hy];exact hj⟩,fun hn=>?_⟩
    obtain ⟨T2,n,h1,_⟩:=hn
    rw [Ab _ _ _ _ e,A7 _ _ _ e2] at h1
    simp at h1
   ·refine ⟨⟨y,by rw [Ab _ _ _ _ e,A9 _ _ _ e2];exact hy,hj⟩,fun hn=>?_⟩
    obtain ⟨T2,n,h1,h2⟩:=hn
    rw [Ab _ _ _ _ e,A9 _ _ _ e2] at h1
    exact ⟨⟨T2,n,h1,h2⟩,fun b v hb=>Bs hcol2 hb (by simp [e,e2])⟩
 have hc:∀ t,t≠s→t ∉ srcs→Carry (cx C env w κ) (cx C ((s,⟨k,.own (T.set t1 P T0)⟩)::kill srcs env) w' (recol κ s P srcs κo)) t t [] []:=fun t h1 h2=>
  ⟨rfl,fun b hb=>⟨hb,hfrozen b hb⟩,fun b q v hb=>⟨Bs hcol2 hb (by simp [h1,h2]),hkept b t _ v hb h2 h1⟩,hrefs⟩
 refine ⟨hos.trans h.os,htape.trans h.tape,hout.trans h.output,Nat.le_trans h.size hsize,fun b hb=>(hfrozen b hb).trans (h.frozen b hb),?_,?_,fun t k' y hy=>?_,fun t k' y hy=>?_,fun t k' hy=>?_,H5 h.pin rfl hrefs (fun u0 T0 h0=>by
  by_cases e:u0=s
  ·subst e;exact ⟨_,hs⟩
  ·rw [Ab _ _ _ _ e] at h0
   by_cases e2:u0∈srcs
   ·rw [A7 _ _ _ e2] at h0;simp at h0
   ·rw [A9 _ _ _ e2] at h0;exact ⟨_,h0⟩),fun b v hb k9 T9 h9=>by
  by_cases e:3000001=s
  ·exact h.root b v hb k T0 (by rw [e];exact hs)
  ·rw [Ab _ _ _ _ e] at h9
   by_cases e2:3000001∈srcs
   ·rw [A7 _ _ _ e2] at h9;cases h9
   ·rw [A9 _ _ _ e2] at h9;exact h.root b v hb k9 T9 h9⟩
 ·intro b u p v hm
  rcases Cg hm with ⟨_,r',_,ho⟩|⟨_,hb,_⟩
  ·exact hcol b r' v ho
  ·exact ⟨Nat.lt_of_lt_of_le (h.col b u p v hb).1 hsize,(h.col b u p v hb).2⟩
 ·intro b b' u p v v' hm hm'
  rcases Cg hm with ⟨e,r,rfl,ho⟩|⟨hn,hb,_⟩
  ·rcases Cg hm' with ⟨_,r',e',ho'⟩|⟨hn',_⟩
   ·have:r=r':=List.append_cancel_left e'
    subst this
    exact hinj b b' r v v' ho ho'
   ·exact absurd (.inl ⟨e,List.prefix_append P r⟩) hn'
  ·rcases Cg hm' with ⟨e',r',rfl,_⟩|⟨_,hb',_⟩
   ·exact absurd (.inl ⟨e',List.prefix_append P r'⟩) hn
   ·exact h.inj b b' u p v v' hb hb'
 ·by_cases e:t=s
  ·subst e;rw [Ak] at hy;simp at hy
  ·rw [Ab _ _ _ _ e] at hy
   by_cases e2:t∈srcs
   ·rw [A7 _ _ _ e2] at hy
    simp at hy
    obtain ⟨_,rfl⟩:=hy
    exact ⟨rfl,Lz _ _ _⟩
   ·rw [A9 _ _ _ e2] at hy
    exact ⟨(h.val t k' y hy).1,Dh (hc t e e2) (h.val t k' y hy).2⟩
 ·by_cases e:t=s
  ·subst e
   rw [Ak] at hy
   simp only [Option.some.injEq,Slot.mk.injEq,SV.own.injEq] at hy
   obtain ⟨_,rfl⟩:=hy
   obtain ⟨hr0,cs,hV,hCR⟩:=h.own t k T0 hs
   exact ⟨D2 t1 hr1 P T0 t0 hg hr0,cs,by rw [hV];exact Da (T.isAgg_set t1 P T0 t0 hg hag).symm cs,hroot cs _ rfl rfl rfl rfl hrefs hCR⟩
  ·rw [Ab _ _ _ _ e] at hy
   by_cases e2:t∈srcs
   ·rw [A7 _ _ _ e2] at hy
    simp at hy
   ·rw [A9 _ _ _ e2] at hy
    exact ⟨(h.own t k' y hy).1,Dh (hc t e e2) (h.own t k' y hy).2⟩
 ·by_cases e:t=s
  ·subst e;rw [Ak] at hy;simp at hy
  ·rw [Ab _ _ _ _ e] at hy
   by_cases e2:t∈srcs
   ·rw [A7 _ _ _ e2] at hy
    simp at hy
   ·rw [A9 _ _ _ e2] at hy
    exact h.und t k' hy
theorem Aep {X X':Cx} {s s':Nat} {p p':List Nat} {t:T} (h:t.scalar=true) {cs:List Value} (hc:CR X s p t cs):CR X' s' p' t cs:=by
 cases t <;> try (simp_all [T.scalar,CR];done)
 simp only [CR] at hc ⊢
 exact ⟨hc.1,Con.ok_free X' (by simpa [T.scalar] using h)⟩
theorem Bm {t:T} (h:t.scalar=true):t.size=1:=by cases t <;> simp_all [T.scalar,T.size]
theorem Cn:∀ {l:List T},(∀ t∈l,t.scalar=true)→T.solidL l=true∧T.refFreeL l=true
 | [],_=>⟨rfl,rfl⟩
 | t::l,h=>by
  have h1:=h t (by simp)
  have h2:=Cn (l:=l) (fun x hx=>h x (by simp [hx]))
  refine ⟨?_,?_⟩
  ·simp only [T.solidL,h2.1,Bool.and_true];cases t <;> simp_all [T.scalar,T.solid]
  ·simp only [T.refFreeL,h2.2,Bool.and_true];cases t <;> simp_all [T.scalar,T.refFree]
theorem Cm {X : Cx} {s : Nat} {p : List Nat} : ∀ (l : List T) (i : Nat) (cs : List Value), (∀ t ∈ l, t.scalar = true) → CRL X s p i l cs →
  cs.length=l.length∧∀ (j:Nat) (t:T) (v:Value),l[j]? = some t→cs[j]? = some v→∀ (X':Cx) (s':Nat) (p':List Nat),CR X' s' p' t [v]
 | [],i,cs,_,h=>by
  simp only [CRL] at h
  subst h
  exact ⟨rfl,fun j t v hj=>by simp at hj⟩
 | t::l,i,cs,ha,h=>by
  simp only [CRL] at h
  have h1:=Bm (ha t (by simp))
  rw [h1] at h
  have ih:=Cm l (i+1) _ (fun x hx=>ha x (by simp [hx])) h.2
  have hl:=Bg _ _ _ _ _ h.1
  rw [h1] at hl
  match cs,hl,h,ih with
  | [],hl,_,_=>simp at hl
  | c::cs,_,h,ih=>
   simp only [List.drop_succ_cons,List.drop_zero,List.take_succ_cons,List.take_zero] at h ih
   refine ⟨by simp [ih.1],fun j t' v hj hv X' s' p'=>?_⟩
   cases j with
   | zero=>
    simp only [List.getElem?_cons_zero,Option.some.injEq] at hj hv
    subst hj;subst hv
    exact Aep (ha t (by simp)) h.1
   | succ j=>
    simp only [List.getElem?_cons_succ] at hj hv
    exact ih.2 j t' v hj hv X' s' p'
theorem Aih {X X' : Cx} {s s' : Nat} {p p' : List Nat} {e : TypeId} {l : List T} {b cap off : Nat} (hX : X'.sz = X.sz) (hw : X'.w = X.w) (hF : ∀ b, X.F b → X'.F b) (ha : ∀ t ∈ l, t.scalar = true) (ho : off < l.length)
  (h:CR X s p (.sl false e l) [.slice (some ⟨b,0,none⟩) l.length cap]):CR X' s' p' (.sl false e (l.drop off)) [.slice (some ⟨b,off,none⟩) (l.length-off) (cap-off)]:=by
 simp only [CR] at h ⊢
 obtain ⟨ad,cap',e1,g1,g2,g3,g4,g5⟩:=h
 simp only [List.cons.injEq,Value.slice.injEq,and_true,true_and] at e1
 obtain ⟨rfl,rfl⟩:=e1
 have hne:l≠[]:=fun e=>by subst e;simp at ho
 obtain ⟨b',off',e2,hFb,cur,e'',fz,hb,hle,hC⟩:=g5 hne
 simp only [Option.some.injEq,Addr.mk.injEq,and_true] at e2
 obtain ⟨rfl,rfl⟩:=e2
 have hz:X.sz e=1:=by
  cases l with
  | nil=>exact absurd rfl hne
  | cons t l=>rw [← g3 t (by simp)];exact Bm (ha t (by simp))
 have hz':X'.sz e=1:=by rw [hX];exact hz
 rw [hz,Nat.mul_one] at hC hle
 have hS:=Cm l 0 _ ha hC
 have hdl:(l.drop off).length=l.length-off:=List.length_drop
 rw [hdl,hz']
 refine ⟨some ⟨b,off,none⟩,cap-off,rfl,by omega,by omega,fun t ht=>Bm (ha t (List.mem_of_mem_drop ht)),?_,fun _=>⟨b,off,rfl,hF b hFb,cur,e'',fz,by rw [hw];exact hb,by omega,?_⟩⟩
 ·rw [Dc] at g4 ⊢
  exact fun t ht=>g4 t (List.mem_of_mem_drop ht)
 ·rw [Nat.mul_one]
  refine Cu _ 0 _ (by rw [hdl];simp;omega) (fun t ht=>Bm (ha t (List.mem_of_mem_drop ht))) (fun j t v hj hv=>?_)
  rw [List.getElem?_drop] at hj
  have hjl:off+j<l.length:=by have:=(List.getElem?_eq_some_iff.1 hj).1;omega
  rw [List.getElem?_take_of_lt (by omega),List.getElem?_drop] at hv
  refine hS.2 (off+j) t v hj ?_ _ _ _
  rw [List.getElem?_take_of_lt hjl,List.getElem?_drop,Nat.zero_add]
  exact hv
theorem Jv {l:List T} (h:∀ t∈l,t.scalar=true):T.freezeL l=l:=by
 rw [C7]
 conv=>rhs;rw [← List.map_id l]
 exact List.map_congr_left fun t ht=>by
  have:=h t ht
  cases t <;> first|rfl|(simp [T.scalar] at this)
theorem W3 {o:Bool} {e:TypeId} {l:List T} (ha:∀ t∈l,t.scalar=true):∀ r n,T.get r (.sl o e l)=some n→n.isNode=true→r=[]
 | [],_,_,_=>rfl
 | j::r,n,h,hn=>by
  cases hj:l[j]? with
  | none=>cases o <;> simp [T.get,hj] at h
  | some t=>
   cases o with
   | false=>simp [T.get] at h
   | true=>
    have:=Cz (ha t (List.mem_of_getElem? hj)) r n (by simpa [T.get,hj] using h)
    rw [this] at hn;cases hn
section
variable {C:Ctx} {env:Env} {V:Nat→Value} {w:World} {κ:Kap} {a:Act} {AF:FuncId→List T→T→Prop} {U:List (Nat×Slot)} {R:List Nat} {n:Nat}
variable {tt:Tt} {P:Program}
theorem Ai7 (hP : TtOk C.P tt) (hF : FR C n env a w) {t t' e : TypeId} {sz by_ : Nat} {z : T} (hit : tyAt tt t = some ⟨sz, by_, z, .slice e⟩) {ie : Ty} (hie : tyAt tt e = some ie) {x y : Operand} {o : Oper} {d : Nat} (hdst : o.dst = some d)
  (ho:o.op=.call { callee:=.builtin .copy,args:=#[x,y],argTypes:=#[t,t'] }) (hok:opOk n o=true)
  (h:(rdv x fun v=>rdv y fun u=>elemsE e u fun l2=>match v with
   | .ref s k p=>if s=d then .fail else rdn s k p fun T0 nd=>match nd with
    | .sl true e' l => .need (e' = e ∧ ie.size = 1 ∧ l2.all T.scalar = true ∧ l.all T.scalar = true ∧ 0 < l2.length)
      (.rd d fun sd=>.done [(d,⟨verOf sd,.val (.int .i64 (min l2.length l.length:Nat))⟩),(s,⟨k,.own (T.set (.sl true e (l2.take l.length++l.drop l2.length)) p T0)⟩)])
    | _=>.fail
   | _=>.fail).sat AF env U R) {Q:Exit→Act→World→Prop} :
  o.wp C.P a w (fun a' w'=>FR C n (U++env) a' w') Q:=by
 obtain ⟨hd,hn,κ,V,hI,hV⟩:=hF
 obtain ⟨v,R',h1,hv⟩:=Au hI hV (Ap hok (by simp [ho,Op.operands,Call.operands])) h
 obtain ⟨u,R'',h2,hu⟩:=Au hI hV (Ap hok (by simp [ho,Op.operands,Call.operands])) h1
 obtain ⟨ti,i1,i2,i3,i4⟩:=Dn hP hie
 have hsz:C.P.cellsOf e=ie.size:=Dd hP hie
 have hdn:=Am hok d hdst
 have hexec:∀ (r:Value) (w':World),(Builtin.copy_ #[t,t'] o.type #[a.eval x,a.eval y]).run C.P w=.ok r w'→(execOp a.eval o).run C.P w=.ok (.value r) w':=fun r w' hr=>by
  simp [execOp,ho,Go.resolve,invoke,builtin,hr]
 obtain ⟨l2,R3,ad,cap2,hy,h3,hall,hcells⟩:=J5 hI hu h2
 cases v <;> try (simp [Rd.sat] at h3;done)
 rename_i s k p
 simp only at h3
 split at h3
 ·simp [Rd.sat] at h3
 ·rename_i hne
  obtain ⟨T0,nd,R4,hs,hg,hnd,h4⟩:=Bk h3
  split at h4
  ·rename_i e' l
   simp only [Rd.sat] at h4
   obtain ⟨⟨rfl,c1,c2,c3,c4⟩,R5,⟨rfl,_⟩,_⟩:=h4
   have ha2:∀ t∈l2,t.scalar=true:=fun t ht=>List.all_eq_true.1 c2 t ht
   have ha1:∀ t∈l,t.scalar=true:=fun t ht=>List.all_eq_true.1 c3 t ht
   obtain ⟨s1,hc⟩:=hv.ref_cells
   obtain ⟨b,cap,cur,k1,k2,k3,k4⟩:=hI.ref_eq hs hg hnd hc
   simp only [List.cons.injEq,and_true] at k1
   simp only [CR] at k2
   obtain ⟨b',cap',cur',m1,m2,m3,m4,m5,m6,m7,m8⟩:=k2
   have k3':w.heap[b]? = some (.cells cur e' (0,0)):=k3
   have hbb:b'=b∧cap'=cap:=by
    have:a.eval x=.slice (some ⟨b',0,none⟩) l.length cap':=by simpa using m1
    rw [k1] at this
    simp [headOf] at this
    exact ⟨this.1.symm,this.2.symm⟩
   obtain ⟨rfl,rfl⟩:=hbb
   have hcc:cur'=cur:=by
    have m2':w.heap[b']? = some (.cells cur' e' (0,0)):=m2
    rw [k3'] at m2';simp at m2';exact m2'.symm
   subst hcc
   have hX:(cx C env w κ).sz e'=1:=by show C.P.cellsOf e'=1;rw [hsz];exact c1
   rw [hX,Nat.mul_one] at m8 m6
   have hl2:l2≠[]:=fun e=>by subst e;simp at c4
   obtain ⟨b2,off2,s2,p2,cs,rfl,hcl,hcc2,hC2⟩:=hcells hl2
   rw [hsz,c1,Nat.mul_one] at hcl
   have hS2:=Cm l2 0 cs ha2 hC2
   have hS1:=Cm l 0 _ ha1 m8
   have hle:l.length≤cur'.size:=by omega
   have hlen8:(cur'.toList.take l.length).length=l.length:=hS1.1
   have hoc:=Ce l2 p2 0 cs (Cn ha2).1 (Cn ha2).2 hC2
   have hFb:¬ C.F b':=(hI.col b' _ _ _ k4).2
   obtain ⟨N,hN⟩:∃ N,N=Nat.min l2.length l.length:=⟨_,rfl⟩
   have hN1:N≤l2.length:=by rw [hN];exact Nat.min_le_left _ _
   have hN2:N≤l.length:=by rw [hN];exact Nat.min_le_right _ _
   have hcn:(cs.take N).length=N:=by rw [List.length_take];omega
   have hrun := run_copy_row C.P w t t' o.type e' b' 0 l.length cap' ⟨b2, off2, none⟩ l2.length cap2 cur' e' (cs.take N) (A8 hP hit) (by rw [i1]; simp [i3, c1]) k3' (by rw [hcn, hN]) (fun j v hj => by
     rw [Bu]
     have hjN:j<N:=by
      have:=(List.getElem?_eq_some_iff.1 hj).1;omega
     rw [List.getElem?_take_of_lt hjN] at hj
     exact hcc2 j v hj) (by omega) (fun v hv=>hoc v (List.mem_of_mem_take hv))
   rw [hcn] at hrun
   refine Ah (hexec _ _ (by rw [hy,k1];exact hrun)) ?_
   rw [hdst]
   have hnew:l2.take l.length++l.drop l2.length=l2.take N++l.drop N:=by
    by_cases hx:l2.length≤l.length
    ·have:N=l2.length:=by rw [hN];exact Nat.min_eq_left hx
     rw [this,List.take_of_length_le hx,List.take_of_length_le (Nat.le_refl _)]
    ·have:N=l.length:=by rw [hN];exact Nat.min_eq_right (by omega)
     rw [this,List.drop_of_length_le (by omega),List.drop_of_length_le (Nat.le_refl _)]
   have hnl:(l2.take N++l.drop N).length=l.length:=by simp;omega
   have hna:∀ t∈l2.take N++l.drop N,t.scalar=true:=fun t ht=>by
    rcases List.mem_append.1 ht with h|h
    ·exact ha2 t (List.mem_of_mem_take h)
    ·exact ha1 t (List.mem_of_mem_drop h)
   have hmin:(min l2.length l.length:Nat)=N:=hN.symm
   rw [hnew,hmin]
   let κo:Nat→Option (List Nat×Value):=fun c=>if c=b' then some ([],headOf (.sl true e' l) b' cap') else none
   have hκo:∀ c r v,κo c=some (r,v)→c=b'∧r=[]∧v=headOf (.sl true e' l) b' cap':=fun c r v hc=>by
    simp only [κo] at hc
    split at hc
    ·rename_i e;simp at hc;exact ⟨e,hc.1,hc.2.symm⟩
    ·cases hc
   have hcol2:∀ c r v,κo c=some (r,v)→∀ u r v,κ c=some (u,r,v)→(u=s∧p <+: r)∨u∈([]:List Nat):=fun c r v hc u r' v' hk=>by
    obtain ⟨rfl,_,_⟩:=hκo c r v hc
    rw [k4] at hk
    simp only [Option.some.injEq,Prod.mk.injEq] at hk
    obtain ⟨rfl,rfl,_⟩:=hk
    exact .inl ⟨rfl,List.prefix_refl _⟩
   have hnewsz:cur'.toList.take 0++cs.take N++cur'.toList.drop (0+N)=cs.take N++cur'.toList.drop N:=by simp
   rw [hnewsz]
   have hput:=hI.putS s k T0 (.sl true e' l) (.sl true e' (l2.take N++l.drop N)) p [] κo (w.setRow b' (cs.take N++cur'.toList.drop N).toArray) hs (by simp) hg rfl (by simp only [T.refFree];exact (Cn hna).2)
    rfl rfl rfl (by simp) (fun c hc=>setRow_other _ _ _ _ (fun e=>hFb (e▸hc))) (fun c u r v hk hu hus=>setRow_other _ _ _ _ (fun e=>by subst e;rw [k4] at hk;simp at hk;exact hus hk.1.symm))
    (fun c r v hc=>by obtain ⟨rfl,_,_⟩:=hκo c r v hc;exact ⟨by simpa using (hI.col c _ _ _ k4).1,hFb⟩) hcol2
    (fun c c' r v v' hc hc'=>by rw [(hκo c r v hc).1,(hκo c' r v' hc').1])
    (fun r n' hr hn'=>by
     have:=W3 hna r n' hr hn'
     subst this
     refine ⟨⟨.sl true e' l,by rw [List.append_nil];exact hg,rfl⟩,fun c v hk=>?_⟩
     rw [List.append_nil] at hk ⊢
     have:=hI.inj c b' _ _ _ _ hk k4
     subst this
     rw [k4] at hk
     simp only [Option.some.injEq,Prod.mk.injEq,true_and] at hk
     subst hk
     have hx:=Ez (κ:=κ) (s:=s) (P:=p) (srcs:=[]) (κo:=κo) (b:=c) (r:=[]) (v:=headOf (.sl true e' l) c cap') (by simp [κo])
     rw [List.append_nil] at hx
     exact hx)
    (fun cs1 X' f1 f2 f3 f4 f5 hT=>by
     obtain ⟨cs0,h6,h7⟩:=Dj (X':=X') p T0 [] cs1 (.sl true e' l) (.sl true e' (l2.take N++l.drop N)) hg hT rfl rfl
      ⟨f1,fun c hc=>⟨by rw [f3];exact hc,by rw [f2];exact setRow_other _ _ _ _ (fun e=>hFb (e▸hc))⟩,fun c r v hk hnp=>by
       simp only [List.nil_append] at hk ⊢
       have hcb:c≠b':=fun e=>by
        subst e
        rw [show (cx C env w κ).kap c=κ c from rfl,k4] at hk
        simp at hk
        exact hnp (by rw [hk.1];exact List.prefix_refl r)
       refine ⟨by rw [f4];exact Bs hcol2 hk (by simp [hnp]),by rw [f2];exact setRow_other _ _ _ _ hcb⟩,f5⟩
     refine h7 ?_
     simp only [List.nil_append] at h6 ⊢
     simp only [CR] at h6 ⊢
     obtain ⟨b3,cap3,cur3,n1,n2,n3,n4,n5,n6,n7,n8⟩:=h6
     have hb3:b3=b':=hI.inj b3 b' s p _ _ n3 k4
     subst hb3
     have hcap3:cap3=cap':=by
      have:κ b3=some (s,p,.slice (some ⟨b3,0,none⟩) l.length cap3):=n3
      rw [k4] at this
      simp [headOf] at this
      exact this.symm
     subst hcap3
     have hcur3:cur3=cur':=by
      have n2':w.heap[b3]? = some (.cells cur3 e' (0,0)):=n2
      rw [k3'] at n2';simp at n2';exact n2'.symm
     subst hcur3
     rw [hnl]
     have hX':X'.sz e'=1:=by rw [f1];exact hX
     refine ⟨b3,cap3,(cs.take N++cur3.toList.drop N).toArray,n1,by rw [f2];exact setRow_heap _ _ _ _ _ _ k3',?_,n4,n5,?_,fun t ht=>by rw [hX'];exact Bm (hna t ht),?_⟩
     ·rw [f4]
      have hx:=Ez (κ:=κ) (s:=s) (P:=p) (srcs:=[]) (κo:=κo) (b:=b3) (r:=[]) (v:=headOf (.sl true e' l) b3 cap3) (by simp [κo])
      rw [List.append_nil] at hx
      exact hx
     ·rw [hX',Nat.mul_one]
      have:(cs.take N++cur3.toList.drop N).toArray.size=cur3.size:=by simp;omega
      rw [this]
      exact m6
     ·rw [hX',Nat.mul_one]
      refine Cu _ 0 _ (by rw [hnl];simp;omega) (fun t ht=>Bm (hna t ht)) (fun j t v hj hv=>?_)
      have hjl:j<l.length:=by have:=(List.getElem?_eq_some_iff.1 hj).1;omega
      rw [List.getElem?_take_of_lt hjl] at hv
      have hv':(cs.take N++cur3.toList.drop N)[j]? = some v:=by simpa using hv
      by_cases hjN:j<N
      ·rw [List.getElem?_append_left (by rw [List.length_take];omega),List.getElem?_take_of_lt hjN] at hj
       rw [List.getElem?_append_left (by omega),List.getElem?_take_of_lt hjN] at hv'
       exact hS2.2 j t v hj hv' X' s _
      ·rw [List.getElem?_append_right (by rw [List.length_take];omega),List.length_take,Nat.min_eq_left hN1,List.getElem?_drop,show N+(j-N)=j by omega] at hj
       rw [List.getElem?_append_right (by omega),hcn,List.getElem?_drop,show N+(j-N)=j by omega] at hv'
       exact hS1.2 j t v hj (by rw [List.getElem?_take_of_lt hjl];exact hv') X' s _)
   have hk0:kill [] env=env:=rfl
   rw [hk0] at hput
   have hb:=hput.bind d (verOf (lk env d)) (.int .i64 (N:Nat)) (.int .i64 (N:Nat)) (by rw [Ab _ _ _ _ (fun e=>hne e.symm)];exact Nat.le_refl _) rfl 0 ⟨[.int .i64 (N:Nat)],rfl,by simp only [CR]⟩
   refine B6 hd hn hdn hb (fun t ht=>?_)
   by_cases e:t=d
   ·simp [e,upd];rfl
   ·rw [Al _ _ _ _ e,if_neg e];exact hV t ht
  ·simp [Rd.sat] at h4
end
end
section
section
variable {C:Ctx} {env:Env} {V:Nat→Value} {w:World} {κ:Kap} {a:Act} {AF:FuncId→List T→T→Prop} {U:List (Nat×Slot)} {R:List Nat} {n:Nat}
variable {tt:Tt} {P:Program}
theorem Ue : ∀ (vs : List Value) (k : Nat) (cells : Array Value), k + vs.length ≤ cells.size → (∀ v ∈ vs, v.cells = #[v]) →
  ∃ out,Instr.fill (fun i=>some (i,1)) cells ((vs.zipIdx k).map fun x=>(x.2,x.1))=some out∧out.size=cells.size∧(∀ j,j<k→out[j]? = cells[j]?)∧(∀ j v,vs[j]? = some v→out[k+j]? = some v)
 | [],k,cells,_,_=>⟨cells,by simp [Instr.fill],rfl,fun _ _=>rfl,fun j v h=>by simp at h⟩
 | v::vs,k,cells,hl,hc=>by
  simp only [List.length_cons] at hl
  have hv:=hc v (by simp)
  obtain ⟨out,h1,h2,h3,h4⟩:=Ue vs (k+1) (cells.setIfInBounds k v) (by simp;omega) (fun u hu=>hc u (by simp [hu]))
  refine ⟨out,?_,by simpa using h2,fun j hj=>?_,fun j u hj=>?_⟩
  ·simp only [List.zipIdx_cons,List.map_cons,Instr.fill,hv]
   rw [if_neg (by simp;omega)]
   have:((#[v]:Array Value).zipIdx.foldl (fun cs (x:Value×Nat)=>cs.setIfInBounds (k+x.2) x.1) cells)=cells.setIfInBounds k v:=by simp
   rw [← h1,← this]
  ·rw [h3 j (by omega),Array.getElem?_setIfInBounds_ne (by omega)]
  ·cases j with
   | zero=>
    simp at hj;subst hj
    rw [h3 (k+0) (by omega),Nat.add_zero]
    simp [show k<cells.size by omega]
   | succ j=>
    simp at hj
    have:=h4 j u hj
    rw [show k+(j+1)=k+1+j by omega];exact this
theorem Agl {t : T} (hp : t.pure = true) (hr : t.refFree = true) (hso : t.solid = true) (hs : t.size = 1) {X : Cx} {u : Value} (hv : HV X t u) (ha : t.isAgg = false) :
  u.cells = #[u]∧∀ (X':Cx),X'.sz=X.sz→(∀ b,X.F b→X'.F b∧X'.w.heap[b]? = X.w.heap[b]?)→∀ (s:Nat) (p:List Nat),CR X' s p t [u]:=by
 obtain ⟨s0,cs,e1,e2⟩:=hv.cells
 have hl:=Bg _ _ _ _ _ e2
 rw [hs] at hl
 match cs,hl with
 | [c],_=>
  have hu:u=c:=by rw [e1];cases t <;> simp_all [mkv,T.isAgg]
  subst hu
  have h1:=Ax t [] [u] hso hr e2
  refine ⟨?_,fun X' g1 g2 s p=>Av X X' s0 s g1 g2 t [] p [u] hp e2⟩
  have:=Bw (t:=t) (cs:=[u]) (by rw [hs];rfl) h1
  rw [← e1] at this
  exact this
theorem Sq [Small n] (hP : TtOk C.P tt) (hF : FR C n env a w) {t e : TypeId} {sz by_ : Nat} {z : T} (hit : tyAt tt t = some ⟨sz, by_, z, .slice e⟩) {ie : Ty} (hie : tyAt tt e = some ie) {m : Nat} {parts : Array (Nat × Operand)} {o : Oper}
  (ho:o.op=.buildSlice t m parts) (hok:opOk n o=true) (hs1:ie.size=1) (hparts:parts.toList.map (·.1)=List.range m) (hm:m≤1000) (hag:ie.zero.isAgg=false)
  (h:(rdvL (parts.toList.map (·.2)) fun vs=>if vs.all (fun v=>v.pure&&v.refFree&&v.solid && !v.isAgg) then .need (∀ v∈vs,v.size=1) (finOwn o.dst (.sl true e vs) []) else .fail).sat AF env U R) {Q:Exit→Act→World→Prop} :
  o.wp C.P a w (fun a' w'=>FR C n (U++env) a' w') Q:=by
 obtain ⟨hd,hn,κ,V,hI,hV⟩:=hF
 obtain ⟨vs,R',h1,hl,h2⟩:=Dy hI hV (parts.toList.map (·.2)) _ R (fun x hx=>by
  rw [List.mem_map] at hx
  obtain ⟨y,hy,rfl⟩:=hx
  exact Ap hok (by simp [ho,Op.operands];exact ⟨y.1,by simpa using hy⟩)) h
 split at h1
 ·rename_i hall
  simp only [Rd.sat] at h1
  obtain ⟨hsz,h3⟩:=h1
  obtain ⟨d,hdst,rfl⟩:=Bx h3
  have hml:vs.length=m:=by rw [hl,List.length_map,← List.length_map (f:=(·.1)),hparts,List.length_range]
  let us:List Value:=(parts.toList.map (·.2)).map a.eval
  have hus:us.length=m:=by simp only [us,List.length_map];rw [← hml,hl,List.length_map]
  have hone:∀ (j:Nat) (v:T) (u:Value),vs[j]? = some v→us[j]? = some u→u.cells = #[u]∧∀ (X':Cx),X'.sz=(cx C env w κ).sz→(∀ b,(cx C env w κ).F b→X'.F b∧X'.w.heap[b]? = (cx C env w κ).w.heap[b]?)→∀ (s:Nat) (p:List Nat),CR X' s p v [u]:=by
   intro j v u hv hu
   obtain ⟨hj,rfl⟩:=List.getElem?_eq_some_iff.1 hv
   have hj2:j<(parts.toList.map (·.2)).length:=by omega
   have:=h2 j hj hj2
   have hu':u=a.eval (parts.toList.map (·.2))[j]:=by
    simp only [us] at hu
    rw [List.getElem?_map,List.getElem?_eq_getElem hj2] at hu
    simpa using hu.symm
   subst hu'
   have ha:=List.all_eq_true.1 hall _ (List.getElem_mem hj)
   simp only [Bool.and_eq_true,Bool.not_eq_true'] at ha
   exact Agl ha.1.1.1 ha.1.1.2 ha.1.2 (hsz _ (List.getElem_mem hj)) this ha.2
  have hcell:∀ u∈us,u.cells = #[u]:=by
   intro u hu
   obtain ⟨j,hj,rfl⟩:=List.getElem_of_mem hu
   have hjv:j<vs.length:=by omega
   exact (hone j vs[j] us[j] (List.getElem?_eq_getElem hjv) (List.getElem?_eq_getElem hj)).1
  obtain ⟨ti,i1,i2,i3,i4⟩:=Dn hP hie
  have hplain:=(hP e ie hie).2.1
  obtain ⟨zv,z1,z2,z3,z4⟩:=Vg hplain (by rw [(hP e ie hie).2.2.1];exact hs1) hag
  have hpe:(parts.map fun x=>(x.1,a.eval x.2)).toList=(us.zipIdx 0).map fun x=>(x.2,x.1):=by
   rw [Array.toList_map]
   apply List.ext_getElem?
   intro j
   simp only [us,List.getElem?_map,List.getElem?_zipIdx,Option.map_map]
   cases hj:parts.toList[j]? with
   | none=>simp
   | some x=>
    have:(parts.toList.map (·.1))[j]? = some x.1:=by rw [List.getElem?_map,hj];rfl
    rw [hparts] at this
    have hjj:=(List.getElem?_eq_some_iff.1 this)
    obtain ⟨hjm,hjx⟩:=hjj
    simp at hjx
    simp [← hjx]
  have hmk:∀ k,((Array.range k).map (fun i=>(if k=0 then (#[]:Array Value) else #[zv])[i%(if k=0 then (#[]:Array Value) else #[zv]).size]!)).size=k:=fun k=>by simp
  obtain ⟨out,f1,f2,f3,f4⟩:=Ue us 0 ((Array.range m).map (fun i=>(if m=0 then (#[]:Array Value) else #[zv])[i%(if m=0 then (#[]:Array Value) else #[zv]).size]!)) (by rw [hmk,hus];omega) hcell
  rw [hmk] at f2
  have hrun:(execOp a.eval o).run C.P w=.ok (.value (.slice (some ⟨w.heap.size,0,none⟩) m m)) (w.alloc (.cells out e)):=by
   have hnot:¬ (m>2^24):=by omega
   simp only [execOp,ho,Instr.buildSlice,Sem.run_bind,run_underlying (A8 hP hit),Result.andThen_ok,C8 hP hie,hs1,Nat.mul_one]
   rw [if_neg hnot]
   by_cases hm0:m=0
   ·rw [if_pos hm0]
    rw [if_pos hm0] at f1
    simp only [Sem.run_bind,Sem.run_pure,Result.andThen_ok]
    rw [hpe,f1]
    rfl
   ·rw [if_neg hm0]
    rw [if_neg hm0] at f1
    simp only [Sem.run_bind,zeroValue,typeInfo,run_program,Result.andThen_ok,i1,Sem.run_pure,i2,z2,z3]
    rw [hpe,f1]
    rfl
  refine Ah hrun ?_
  rw [hdst]
  refine H3 hd hn hI hV (Am hok d hdst) (.sl true e vs) rfl ?_ _ _ (fun X' g1 g2 g3 g4=>?_)
  ·simp only [T.refFree]
   rw [Bp]
   intro t ht
   have ha:=List.all_eq_true.1 hall t ht
   simp only [Bool.and_eq_true] at ha
   exact ha.1.1.2
  ·have hszX:X'.sz e=1:=by rw [g1,Dd hP hie,hs1]
   simp only [CR]
   rw [hml]
   refine ⟨w.heap.size,m,out,rfl,by rw [g2];exact heap_alloc_new w _,g4,Nat.le_refl _,by unfold maxLen;omega,by rw [f2,hszX,Nat.mul_one],fun t ht=>by rw [hszX];exact hsz t ht,?_⟩
   rw [hszX,Nat.mul_one,List.take_of_length_le (by simp [f2])]
   refine Cu _ 0 _ (by simp [f2,hml]) hsz (fun j t v hj hv=>?_)
   have hjm:j<m:=by have:=(List.getElem?_eq_some_iff.1 hj).1;omega
   have huj:us[j]? = some us[j]:=List.getElem?_eq_getElem (by omega)
   have:=f4 j us[j] huj
   rw [Nat.zero_add] at this
   rw [Array.getElem?_toList,this] at hv
   have hv':v=us[j]:=by simpa using hv.symm
   subst hv'
   exact (hone j t us[j] hj huj).2 X' g1 (fun b hb=>⟨by rw [g3];exact hb,by rw [g2];exact Bv w _ b (Nat.lt_of_lt_of_le hb.1 hI.size)⟩) d _
 ·simp [Rd.sat] at h1
theorem Qv [Small n] (hP : TtOk C.P tt) (hF : FR C n env a w) {t e : TypeId} {sz by_ : Nat} {z : T} (hit : tyAt tt t = some ⟨sz, by_, z, .slice e⟩) {ie : Ty} (hie : tyAt tt e = some ie) {parts : Array (Nat × Operand)} {o : Oper}
  (ho:o.op=.buildSlice t 0 parts) (hok:opOk n o=true) (hparts:parts.toList=[]) (h:(finOwn o.dst (.sl true e []) []).sat AF env U R) {Q:Exit→Act→World→Prop} :
  o.wp C.P a w (fun a' w'=>FR C n (U++env) a' w') Q:=by
 obtain ⟨hd,hn,κ,V,hI,hV⟩:=hF
 obtain ⟨d,hdst,rfl⟩:=Bx h
 have hpe:parts = #[]:=Array.toList_eq_nil_iff.1 hparts
 have hrun:(execOp a.eval o).run C.P w=.ok (.value (.slice (some ⟨w.heap.size,0,none⟩) 0 0)) (w.alloc (.cells #[] e)):=by
  simp only [execOp,ho,hpe,Instr.buildSlice,Sem.run_bind,run_underlying (A8 hP hit),Result.andThen_ok,C8 hP hie,Nat.zero_mul]
  rw [if_neg (by decide)]
  have hr0:Array.range 0 = #[]:=by simp
  simp only [if_true,Sem.run_bind,Sem.run_pure,Result.andThen_ok,hr0,Array.map_empty]
  rfl
 refine Ah hrun ?_
 rw [hdst]
 refine H3 hd hn hI hV (Am hok d hdst) (.sl true e []) rfl rfl _ _ (fun X' g1 g2 g3 g4=>?_)
 simp only [CR]
 exact ⟨w.heap.size,0,#[],rfl,by rw [g2];exact heap_alloc_new w _,g4,Nat.le_refl _,by unfold maxLen;omega,by simp,fun t ht=>by simp at ht,by simp only [List.length_nil,Nat.zero_mul,List.take_zero,CRL]⟩
theorem Aa7 (hI : Inv C env V w κ) {v : T} {u : Value} (hv : HV (cx C env w κ) v u) {c : Rd} (h : (vetted v c).sat AF env U R) :
  ∃ s0 cs R',u=mkv v cs∧CR (cx C env w κ) s0 [] v cs∧u.cells=cs.toArray∧c.sat AF env U R':=by
 by_cases hr:∃ s k p,v=.ref s k p
 ·obtain ⟨s,k,p,rfl⟩:=hr
  simp only [vetted] at h
  obtain ⟨T0,nd,R',hs,hg,hnd,h1⟩:=Bk h
  obtain ⟨s0,hc⟩:=hv.ref_cells
  obtain ⟨b,cap,cur,e1,_⟩:=hI.ref_eq hs hg hnd hc
  simp at e1
  refine ⟨s0,[u],R',rfl,hc,?_,h1⟩
  rw [e1]
  cases nd <;> simp [headOf,Value.cells]
 ·have he : vetted v c = if v.solid && v.refFree then c else .fail := by
   cases v <;> first|rfl|exact absurd ⟨_,_,_,rfl⟩ hr
  rw [he] at h
  split at h
  ·rename_i hc
   simp only [Bool.and_eq_true] at hc
   obtain ⟨s0,cs,e1,e2⟩:=hv.cells
   exact ⟨s0,cs,R,e1,e2,by rw [e1];exact Bw (Bg _ _ _ _ _ e2) (Ax v [] cs hc.1 hc.2 e2),h⟩
  ·simp [Rd.sat] at h
theorem Lt (c : List Value) : ∀ (off k : Nat) (cs : Array Value), off + k + c.length ≤ cs.size →
  ((c.zipIdx k).foldl (fun cs (x:Value×Nat)=>cs.setIfInBounds (off+x.2) x.1) cs).toList=splice cs.toList (off+k) c:=by
 induction c with
 | nil=>intro off k cs h;simp [splice]
 | cons x c ih=>
  intro off k cs h
  simp only [List.length_cons] at h
  simp only [List.zipIdx_cons,List.foldl_cons]
  rw [ih off (k+1) _ (by simp;omega)]
  simp only [Array.toList_setIfInBounds,splice,List.length_cons]
  have h1:off+k<cs.toList.length:=by simp;omega
  rw [show off+(k+1)=off+k+1 by omega,List.take_succ_eq_append_getElem (by simp;omega)]
  rw [List.take_set_of_le (by omega),List.getElem_set_self,List.drop_set_of_lt (by omega)]
  simp [Nat.add_assoc,Nat.add_comm 1]
theorem Jc (v:T):v.rawed.size=v.size∧(v.noOwn=true→v.rawed.noOwn=true)∧∀ (X:Cx) (s:Nat) (p:List Nat) (cs:List Value),CR X s p v cs→CR X s p v.rawed cs:=by
 cases v <;> try exact ⟨rfl,id,fun _ _ _ _ h=>h⟩
 rename_i c
 cases c <;> try exact ⟨rfl,id,fun _ _ _ _ h=>h⟩
 exact ⟨rfl,id,fun X s p cs h=>by simp only [CR,T.rawed,Con.ok,and_true] at h ⊢;exact h.1⟩
theorem Nq (hI : Inv C env V w κ) (hV : ∀ t, t < 1000000 → V t = a.tmps.getD t undef) {fs : List (TypeId × Nat × Nat)} {places : Array (Nat × Nat)} (hpl : ∀ (j : Nat) (x : TypeId × Nat × Nat), fs[j]? = some x → places[j]? = some (x.2.1, x.2.2)) :
  ∀ (l:List (Nat×Operand)) (acc:List T) (cur:Array Value) (c:List T→Rd) (R:List Nat),(∀ x∈l,opndOk x.2=true)→T.noOwnL acc=true→(∃ s,CRL (cx C env w κ) s [] 0 acc cur.toList)→
  (buildRd fs l acc c).sat AF env U R→
  ∃ acc' cur' R',(c acc').sat AF env U R'∧T.noOwnL acc'=true∧(∃ s,CRL (cx C env w κ) s [] 0 acc' cur'.toList)∧Instr.fill (places[·]?) cur (l.map fun x=>(x.1,a.eval x.2))=some cur'
 | [],acc,cur,c,R,_,hno,hC,h=>⟨acc,cur,R,h,hno,hC,by simp [Instr.fill]⟩
 | (j,x)::l,acc,cur,c,R,hok,hno,⟨s,hC⟩,h=>by
  simp only [buildRd] at h
  obtain ⟨v,R',h1,hv⟩:=Au hI hV (hok (j,x) (by simp)) h
  obtain ⟨s0,cs,R'',e1,e2,e3,h2⟩:=Aa7 hI hv h1
  cases hz:acc[j]? with
  | none=>simp [hz,Rd.sat] at h2
  | some z=>
   cases hf:fs[j]? with
   | none=>simp [hz,hf,Rd.sat] at h2
   | some y=>
    obtain ⟨tf,offf,szf⟩:=y
    simp only [hz,hf,Rd.sat] at h2
    obtain ⟨⟨c1,c2,c3⟩,h3⟩:=h2
    have hlen:=Bg _ _ _ _ _ e2
    have hlc:=D4 _ _ _ _ _ _ hC
    have hle:=Du acc j z hz
    have hC':=M6 (X':=cx C env w κ) acc j 0 cur.toList z v.rawed cs hz hC (fun m _=>⟨rfl,fun _ h=>⟨h,rfl⟩,fun _ _ _ h=>⟨h,rfl⟩,fun _ _ _ h=>⟨h,fun hn=>⟨hn,fun _ _ hk=>hk⟩⟩⟩) (by rw [(Jc v).1,c2,c3]) (by rw [hlen,c2,c3])
     ((Jc v).2.2 _ _ _ _ (Cy _ _ s0 s rfl (fun _ h=>⟨h,rfl⟩) (fun _ _ _ h=>⟨h,fun hn=>⟨hn,fun _ _ h=>h⟩⟩) v [] _ cs hv.1 e2))
    have hno':T.noOwnL (acc.set j v.rawed)=true:=by
     rw [Fv] at hno ⊢
     intro t ht
     rcases List.mem_or_eq_of_mem_set ht with ht|rfl
     ·exact hno t ht
     ·exact (Jc v).2.1 hv.1
    have hsz0:cur.toList.length=cur.size:=by simp
    obtain ⟨acc',cur',R3,k1,k2,k3,k4⟩:=Nq hI hV hpl l (acc.set j v.rawed) (splice cur.toList offf cs).toArray c R'' (fun x hx=>hok x (by simp [hx])) hno' ⟨s,by rw [c1] at hC';simpa using hC'⟩ h3
    refine ⟨acc',cur',R3,k1,k2,k3,?_⟩
    simp only [List.map_cons,Instr.fill]
    rw [hpl j _ hf]
    simp only [e3,List.size_toArray,hlen,c3]
    rw [if_neg (by simp;omega)]
    have hfold:(cs.toArray.zipIdx.foldl (fun cs (x:Value×Nat)=>cs.setIfInBounds (offf+x.2) x.1) cur)=(splice cur.toList offf cs).toArray:=by
     have:=Lt cs offf 0 cur (by omega)
     apply Array.ext'
     rw [← Array.foldl_toList]
     simpa using this
    rw [← k4,← hfold]
theorem Aho (size : Nat) (u : Value) (cs : List Value) (cells : Array Value) (hc : u.cells = cs.toArray) (h1 : cs.length = size) (h2 : cells.size = size) :
  Instr.fill (fun i=>some (i*size,size)) cells [(0,u)]=some u.cells:=by
 have hfold:(cs.toArray.zipIdx.foldl (fun cs (x:Value×Nat)=>cs.setIfInBounds (0+x.2) x.1) cells)=(splice cells.toList 0 cs).toArray:=by
  have:=Lt cs 0 0 cells (by omega)
  apply Array.ext'
  rw [← Array.foldl_toList]
  simpa using this
 have hsp:splice cells.toList 0 cs=cs:=by
  simp only [splice,List.take_zero,List.nil_append,Nat.zero_add]
  rw [List.drop_of_length_le (by simp;omega),List.append_nil]
 simp only [Instr.fill,Nat.zero_mul,hc]
 rw [if_neg (by simp;omega)]
 rw [hfold,hsp]
theorem Rf [Small n] (hP : TtOk C.P tt) (hF : FR C n env a w) (hn1 : n ≤ 1000000) {t e : TypeId} {sz by_ : Nat} {z : T} (hit : tyAt tt t = some ⟨sz, by_, z, .slice e⟩) {ie : Ty} (hie : tyAt tt e = some ie) {parts : Array (Nat × Operand)} {x : Operand} {i : Nat} {o : Oper}
  (ho:o.op=.buildSlice t 1 parts) (hp:parts.toList=[(0,x)]) (hok:opOk n o=true)
  (h:(rdv x fun v=>take (virt i) v fun v' ups=>.need (v'.size=ie.size∧v'.solid=true∧0<ie.size∧ie.size≤1000)<|match ups with
   | []=>finOwn o.dst (.sl true e [v']) []
   | _=>.rd (virt i) fun sv=>finOwn o.dst (.sl true e [v']) ((virt i,⟨verOf sv+1,.val .any⟩)::ups)).sat AF env U R) {Q:Exit→Act→World→Prop} :
  o.wp C.P a w (fun a' w'=>FR C n (U++env) a' w') Q:=by
 obtain ⟨hd,hn,κ,V,hI,hV⟩:=hF
 have hpe:parts = #[(0,x)]:=Array.ext' (by simpa using hp)
 subst hpe
 obtain ⟨v,R',h1,hv⟩:=Au hI hV (Ap hok (by simp [ho,Op.operands])) h
 obtain ⟨ti,i1,i2,i3,i4⟩:=Dn hP hie
 have hzp:=(hP e ie hie).2.1
 have hzc:=B8 ie.zero hzp
 have hzcells:(mkv ie.zero ie.zero.zc).cells=ie.zero.zc.toArray:=Bw hzc.2.2.2 (Ax (X:=cx C env w κ) (s:=0) ie.zero [] _ hzc.2.2.1 hzc.2.1 (Gt _ _ _ _ hzp))
 have hrun:∀ cs:List Value,(a.eval x).cells=cs.toArray→cs.length=ie.size→0<ie.size→ie.size≤1000→(execOp a.eval o).run C.P w=.ok (.value (.slice (some ⟨w.heap.size,0,none⟩) 1 1)) (w.alloc (.cells (a.eval x).cells e)):=by
  intro cs hc hl h0 h1000
  have hnot:¬ (1*ie.size>2^24):=by omega
  have hf:=Aho ie.size (a.eval x) cs ((Array.range (1*ie.size)).map (fun i=>(ie.zero.zc.toArray)[i%(ie.zero.zc.toArray).size]!)) hc hl (by simp)
  simp only [execOp,ho,Instr.buildSlice,Sem.run_bind,run_underlying (A8 hP hit),Result.andThen_ok,C8 hP hie]
  rw [if_neg hnot,if_neg (by omega)]
  simp only [Sem.run_bind,zeroValue,typeInfo,run_program,Result.andThen_ok,i1,Sem.run_pure,i2,hzcells]
  rw [show ((#[((0:Nat),x)]:Array (Nat×Operand)).map fun x=>(x.1,a.eval x.2)).toList=[(0,a.eval x)] by simp,hf]
  rfl
 rcases Hy hI (Gi i) hv h1 with ⟨hpu,hr,h2⟩|⟨s,k,p,T0,nd,v',R'',hne,hs,hg,hnd,hrf,hag,hsz,h2,κ',hI',_⟩
 ·simp only [Rd.sat] at h2
  obtain ⟨⟨hsz,hsolid,h0,h1000⟩,h3⟩:=h2
  obtain ⟨d,hdst,rfl⟩:=Bx h3
  obtain ⟨s0,cs,e1,e2⟩:=hv.cells
  have hlen:=Bg _ _ _ _ _ e2
  have hcells:(a.eval x).cells=cs.toArray:=by rw [e1];exact Bw hlen (Ax v [] cs hsolid hr e2)
  refine Ah (hrun cs hcells (by omega) h0 h1000) ?_
  rw [hdst]
  refine H3 hd hn hI hV (Am hok d hdst) (.sl true e [v]) rfl (by simpa [T.refFree,T.refFreeL] using hr) _ _ (fun X' g1 g2 g3 g4=>?_)
  have hsX:X'.sz e=v.size:=by rw [g1,Dd hP hie,hsz]
  simp only [CR,CRL,List.length_cons,List.length_nil]
  refine ⟨w.heap.size,1,(a.eval x).cells,rfl,by rw [g2];exact heap_alloc_new w _,g4,Nat.le_refl _,by unfold maxLen;omega,by rw [hcells];simp [hsX,hlen],fun t ht=>by simp only [List.mem_singleton] at ht;rw [ht,hsX],?_,?_⟩
  ·rw [hcells,hsX,Nat.zero_add,Nat.one_mul,List.take_take,Nat.min_self,List.take_of_length_le (by simp [hlen])]
   exact Av (cx C env w κ) X' s0 d g1 (fun b hb=>⟨by rw [g3];exact hb,by rw [g2];exact Bv w _ b (Nat.lt_of_lt_of_le hb.1 hI.size)⟩) v [] _ cs hpu e2
  ·rw [hcells,hsX,Nat.zero_add,Nat.one_mul];simp
 ·simp only [Rd.sat] at h2
  obtain ⟨⟨hsz',hsolid,h0,h1000⟩,R3,h3,_⟩:=h2
  obtain ⟨d,hdst,rfl⟩:=Bx h3
  have hdn:=Am hok d hdst
  have hvirt:(1000000:Nat)≤virt i:=by simp [virt]
  have hdv:d≠virt i:=fun e=>by have h1:d<n:=hdn;rw [e] at h1;exact absurd h1 (by omega)
  obtain ⟨_,cs,e1,e2⟩:=hI'.own (virt i) _ _ (Ak _ _ _)
  rw [By] at e1
  have hlen:=Bg _ _ _ _ _ e2
  have hcells:(a.eval x).cells=cs.toArray:=by rw [e1];exact Bw hlen (Ax v' [] cs hsolid hrf e2)
  refine Ah (hrun cs hcells (by omega) h0 h1000) ?_
  rw [hdst]
  have key:=Aey hP hd hn hI' (d:=d) (dv:=virt i) (fun t ht hne=>by rw [Al _ _ _ _ hne];exact hV t ht) hvirt hdn hn1 (Ak _ _ _) (By _ _ _) hie hsz' hsolid
  refine key.congr (fun t=>?_)
  have hvd:verOf (lk ((virt i,(⟨verOf (lk env (virt i))+1,.own v'⟩:Slot))::(s,⟨k,.own (T.set .any p T0)⟩)::env) d)=verOf (lk env d):=by
   rw [Ab _ _ _ _ hdv]
   by_cases e:d=s
   ·subst e;rw [Ak,hs];rfl
   ·rw [Ab _ _ _ _ e]
  rw [hvd]
  simp only [kill,List.map_cons,List.map_nil,List.cons_append,List.nil_append,lk,verOf]
  by_cases e1:d=t
  ·simp [e1]
  ·simp only [e1,if_false]
   by_cases e2:virt i=t
   ·simp [e2]
   ·simp [e2]
theorem Ahd (size : Nat) (u v : Value) (cs ds : List Value) (cells : Array Value) (hc : u.cells = cs.toArray) (hd : v.cells = ds.toArray) (h1 : cs.length = size) (h3 : ds.length = size) (h2 : cells.size = 2 * size) :
  Instr.fill (fun i=>some (i*size,size)) cells [(0,u),(1,v)]=some (cs++ds).toArray:=by
 have hfold:∀ (k:Nat) (es:List Value) (A:Array Value),k+es.length≤A.size→(es.toArray.zipIdx.foldl (fun cs (x:Value×Nat)=>cs.setIfInBounds (k+x.2) x.1) A)=(splice A.toList k es).toArray:=fun k es A hA=>by
  have:=Lt es k 0 A (by simpa using hA)
  apply Array.ext'
  rw [← Array.foldl_toList]
  simpa using this
 have hlen:(splice cells.toList 0 cs).length=2*size:=by
  simp [splice];omega
 have hsp:splice (splice cells.toList 0 cs) size ds=cs++ds:=by
  simp only [splice,List.take_zero,List.nil_append,Nat.zero_add]
  rw [List.take_append_of_le_length (by omega),List.take_of_length_le (by omega),List.drop_of_length_le (by simp;omega),List.append_nil]
 simp only [Instr.fill,Nat.zero_mul,Nat.one_mul,hc,hd]
 rw [if_neg (by simp;omega)]
 rw [hfold 0 cs cells (by omega)]
 rw [if_neg (by simp;omega)]
 rw [hfold size ds _ (by simp only [List.size_toArray,hlen];omega),hsp]
theorem Qn [Small n] (hP : TtOk C.P tt) (hF : FR C n env a w) {t e : TypeId} {sz by_ : Nat} {z : T} (hit : tyAt tt t = some ⟨sz, by_, z, .slice e⟩) {ie : Ty} (hie : tyAt tt e = some ie) {parts : Array (Nat × Operand)} {x y : Operand} {o : Oper}
  (ho:o.op=.buildSlice t 2 parts) (hp:parts.toList=[(0,x),(1,y)]) (hok:opOk n o=true)
  (h:(rdv x fun v=>rdv y fun u=>if v.pure&&v.refFree&&v.solid&&(u.pure&&u.refFree&&u.solid) then .need (v.size=ie.size∧u.size=ie.size∧0<ie.size∧ie.size≤1000) (finOwn o.dst (.sl true e [v,u]) []) else .fail).sat AF env U R) {Q:Exit→Act→World→Prop} :
  o.wp C.P a w (fun a' w'=>FR C n (U++env) a' w') Q:=by
 obtain ⟨hd,hn,κ,V,hI,hV⟩:=hF
 have hpe:parts = #[(0,x),(1,y)]:=Array.ext' (by simpa using hp)
 subst hpe
 obtain ⟨v,R',h1,hv⟩:=Au hI hV (Ap hok (by simp [ho,Op.operands])) h
 obtain ⟨u,R2,h2,hu⟩:=Au hI hV (Ap hok (by simp [ho,Op.operands])) h1
 split at h2
 ·rename_i hall
  simp only [Bool.and_eq_true] at hall
  obtain ⟨⟨⟨pv,rv⟩,sv⟩,⟨⟨pu,ru⟩,su⟩⟩:=hall
  simp only [Rd.sat] at h2
  obtain ⟨⟨hz1,hz2,h0,h1000⟩,h3⟩:=h2
  obtain ⟨d,hdst,rfl⟩:=Bx h3
  obtain ⟨ti,i1,i2,i3,i4⟩:=Dn hP hie
  have hzp:=(hP e ie hie).2.1
  have hzc:=B8 ie.zero hzp
  have hzcells:(mkv ie.zero ie.zero.zc).cells=ie.zero.zc.toArray:=Bw hzc.2.2.2 (Ax (X:=cx C env w κ) (s:=0) ie.zero [] _ hzc.2.2.1 hzc.2.1 (Gt _ _ _ _ hzp))
  obtain ⟨s0,cs,e1,e2⟩:=hv.cells
  obtain ⟨s1,ds,f1,f2⟩:=hu.cells
  have hlen:=Bg _ _ _ _ _ e2
  have hlen2:=Bg _ _ _ _ _ f2
  have hcells:(a.eval x).cells=cs.toArray:=by rw [e1];exact Bw hlen (Ax v [] cs sv rv e2)
  have hcells2:(a.eval y).cells=ds.toArray:=by rw [f1];exact Bw hlen2 (Ax u [] ds su ru f2)
  have hrun:(execOp a.eval o).run C.P w=.ok (.value (.slice (some ⟨w.heap.size,0,none⟩) 2 2)) (w.alloc (.cells (cs++ds).toArray e)):=by
   have hnot:¬ (2*ie.size>2^24):=by omega
   have hf:=Ahd ie.size (a.eval x) (a.eval y) cs ds ((Array.range (2*ie.size)).map (fun i=>(ie.zero.zc.toArray)[i%(ie.zero.zc.toArray).size]!)) hcells hcells2 (by omega) (by omega) (by simp)
   simp only [execOp,ho,Instr.buildSlice,Sem.run_bind,run_underlying (A8 hP hit),Result.andThen_ok,C8 hP hie]
   rw [if_neg hnot,if_neg (by omega)]
   simp only [Sem.run_bind,zeroValue,typeInfo,run_program,Result.andThen_ok,i1,Sem.run_pure,i2,hzcells]
   rw [show ((#[((0:Nat),x),((1:Nat),y)]:Array (Nat×Operand)).map fun x=>(x.1,a.eval x.2)).toList=[(0,a.eval x),(1,a.eval y)] by simp,hf]
   rfl
  refine Ah hrun ?_
  rw [hdst]
  refine H3 hd hn hI hV (Am hok d hdst) (.sl true e [v,u]) rfl (by simp [T.refFree,T.refFreeL,rv,ru]) _ _ (fun X' g1 g2 g3 g4=>?_)
  have hsX:X'.sz e=ie.size:=by rw [g1,Dd hP hie]
  have hold:∀ b,(cx C env w κ).F b→X'.F b∧X'.w.heap[b]? = (cx C env w κ).w.heap[b]?:=fun b hb=>⟨by rw [g3];exact hb,by rw [g2];exact Bv w _ b (Nat.lt_of_lt_of_le hb.1 hI.size)⟩
  simp only [CR,CRL,List.length_cons,List.length_nil]
  refine ⟨w.heap.size,2,(cs++ds).toArray,rfl,by rw [g2];exact heap_alloc_new w _,g4,Nat.le_refl _,by unfold maxLen;omega,by simp [hsX,hlen,hlen2];omega,fun t ht=>?_,?_,?_,?_⟩
  ·simp only [List.mem_cons,List.not_mem_nil,or_false] at ht
   rcases ht with rfl|rfl <;> omega
  ·have : List.take v.size (List.take ((0 + 1 + 1) * X'.sz e) (cs ++ ds)) = cs := by
    rw [List.take_take,List.take_append_of_le_length (by omega),List.take_of_length_le (by omega)]
   simp only
   rw [this]
   exact Av (cx C env w κ) X' s0 d g1 hold v [] _ cs pv e2
  ·have : List.take u.size (List.drop v.size (List.take ((0 + 1 + 1) * X'.sz e) (cs ++ ds))) = ds := by
    rw [List.take_of_length_le (show (cs++ds).length≤(0+1+1)*X'.sz e by simp [hsX];omega),List.drop_append_of_le_length (by omega),List.drop_of_length_le (by omega),List.nil_append,List.take_of_length_le (by omega)]
   simp only
   rw [this]
   exact Av (cx C env w κ) X' s1 d g1 hold u [] _ ds pu f2
  ·simp [hsX];omega
 ·simp [Rd.sat] at h2
theorem Ahw (hP : TtOk C.P tt) (hF : FR C n env a w) {t : TypeId} {sz by_ : Nat} {zs : List T} {fs : List (TypeId × Nat × Nat)} (hit : tyAt tt t = some ⟨sz, by_, .agg zs, .struct fs⟩) {parts : Array (Nat × Operand)} {o : Oper}
  (ho:o.op=.build t parts) (hok:opOk n o=true) (hfs0:fs.all (fun x=>x.2.2 != 0)=true) (h:(buildRd fs parts.toList zs fun l=>fin o.dst (.agg l)).sat AF env U R) {Q:Exit→Act→World→Prop} :
  o.wp C.P a w (fun a' w'=>FR C n (U++env) a' w') Q:=by
 obtain ⟨hd,hn,κ,V,hI,hV⟩:=hF
 obtain ⟨fields,hu,hfs,_⟩:=Fw hP hit
 obtain ⟨ti,i1,i2,i3,i4⟩:=Dn hP hit
 have hplain:=(hP t _ hit).2.1
 simp only at i2 hplain
 have hpz:=B8 (.agg zs) hplain
 have hfields:∀ (l:List Field),(l.map (fun f=>(f.type,f.offset,C.P.cellsOf f.type))).all (fun x=>x.2.2 != 0)=true→(l.mapM (m:=Sem) fun f=>do pure (f.offset,← sizeOf f.type)).run C.P w=.ok (l.map fun f=>(f.offset,C.P.cellsOf f.type)) w:=by
  intro l
  induction l with
  | nil=>intro _;rfl
  | cons f l ih=>
   intro h
   simp only [List.map_cons,List.all_cons,Bool.and_eq_true,bne_iff_ne,ne_eq] at h
   simp only [List.mapM_cons,Sem.run_bind,Ny (P:=C.P) h.1,Result.andThen_ok,Sem.run_pure,ih h.2,List.map_cons]
 obtain ⟨acc', cur', R', h1, h2, ⟨s, h3⟩, h4⟩ := Nq (a := a) hI hV (fs := fs) (places := (fields.map fun f => (f.offset, C.P.cellsOf f.type))) (fun j x hj => by
   obtain ⟨fd,g1,g2,g3,g4⟩:=Mr hfs hj
   simp [g1,g3,g4]) parts.toList zs (T.zcL zs).toArray _ R (fun x hx=>Ap hok (by simp [ho,Op.operands];exact ⟨x.1,by simpa using hx⟩)) (by
    have:=B9 zs (by simpa [T.pure] using hpz.1);exact this) ⟨0,by simpa using Uj (cx C env w κ) 0 zs [] 0 (by simpa [T.plain] using hplain)⟩ h
 refine Ah (v:=.agg cur') (w':=w) ?_ (Ay hd hn hI hV (Am hok) ⟨by simpa [T.noOwn] using h2,s,cur'.toList,by simp [mkv],by simp only [CR];exact h3⟩ h1)
 have hm:=hfields fields.toList (by rw [hfs];exact hfs0)
 have hmA:(fields.mapM (m:=Sem) fun f=>do pure (f.offset,← sizeOf f.type)).run C.P w=.ok (fields.map fun f=>(f.offset,C.P.cellsOf f.type)) w:=by
  rw [Array.mapM_eq_mapM_toList,Sem.run_map,hm,Result.andThen_ok]
  congr 1
  apply Array.ext'
  simp
 have hz0:(mkv (T.agg zs) (T.agg zs).zc).cells=(T.zcL zs).toArray:=by simp [mkv,T.zc,Value.cells]
 have hparts:(parts.map fun x=>(x.1,a.eval x.2)).toList=parts.toList.map fun x=>(x.1,a.eval x.2):=by simp
 simp only [execOp,ho,Instr.build,Sem.run_bind,zeroValue,typeInfo,run_program,Result.andThen_ok,i1,Sem.run_pure,i2,run_underlying hu,hmA,hz0,hparts,h4]
theorem D0 (hI : Inv C env V w κ) (hV : ∀ t, t < 1000000 → V t = a.tmps.getD t undef) {x : Option Operand} {dflt : Int} {c : Int → Rd} (hx : ∀ y, x = some y → opndOk y = true) (h : (boundRd x dflt c).sat AF env U R) :
  ∃ m R',(c m).sat AF env U R'∧((x=none∧m=dflt)∨∃ y k,x=some y∧a.eval y=.int k m):=by
 cases x with
 | none=>exact ⟨dflt,R,h,.inl ⟨rfl,rfl⟩⟩
 | some y=>
  simp only [boundRd] at h
  obtain ⟨v,R',h1,hv⟩:=Au hI hV (hx y rfl) h
  obtain ⟨k,m,rfl,h2⟩:=I3 h1
  exact ⟨m,R',h2,.inr ⟨y,k,rfl,hv.int⟩⟩
theorem Io (hP : TtOk C.P tt) {t e : TypeId} {sz by_ : Nat} {z : T} (hit : tyAt tt t = some ⟨sz, by_, z, .slice e⟩) {ie : Ty} (hie : tyAt tt e = some ie) {x : Operand} {lo hi : Option Operand} {o : Oper}
  (ho:o.op=.slice t x lo hi none) {ad:Option Addr} {l:List T} {cap:Nat} (e1:a.eval x=.slice ad l.length cap) (g1:l.length≤cap) {L H:Nat}
  (hlo:(lo=none∧(L:Int)=0)∨∃ y k,lo=some y∧a.eval y=.int k (L:Int)) (hhi:(hi=none∧(H:Int)=l.length)∨∃ y k,hi=some y∧a.eval y=.int k (H:Int)) (hLH:L≤H) (hHl:H≤l.length) :
  (execOp a.eval o).run C.P w=.ok (.value (.slice (if cap=L then ad else ad.map (·.add (L*ie.size))) (H-L) (cap-L))) w:=by
 have hb:(Instr.sliceBounds true l.length cap (lo.map a.eval) (hi.map a.eval) none).run C.P w=.ok (L,H,cap) w:=by
  rcases hlo with ⟨rfl,hl0⟩|⟨y,k,rfl,hy⟩
  ·have hL0:L=0:=by omega
   subst hL0
   rcases hhi with ⟨rfl,hh0⟩|⟨y2,k2,rfl,hy2⟩
   ·have:H=l.length:=by omega
    subst this
    simp [Instr.sliceBounds]
   ·have h2:(0:Int)≤(H:Int)∧(H:Int)≤(cap:Int):=by omega
    simp [Instr.sliceBounds,hy2,Instr.sliceBound,asIntOf]
    omega
  ·rcases hhi with ⟨rfl,hh0⟩|⟨y2,k2,rfl,hy2⟩
   ·have:H=l.length:=by omega
    subst this
    simp [Instr.sliceBounds,hy,Instr.sliceBound,asIntOf]
    omega
   ·have h2:(0:Int)≤(H:Int)∧(H:Int)≤(cap:Int):=by omega
    have h3:(0:Int)≤(L:Int)∧(L:Int)≤(H:Int):=by omega
    have h4:H≤cap:=by omega
    simp [Instr.sliceBounds,hy,hy2,Instr.sliceBound,asIntOf,h4,hLH]
 simp only [execOp,ho,Instr.sliceAt,Sem.run_bind,run_underlying (A8 hP hit),Result.andThen_ok,Instr.slice,e1,Option.map_none,hb,C8 hP hie,Sem.run_pure]
theorem P1 {X : Cx} (hX0 : X.sz = C.P.cellsOf) (hXw : X.w = w) (hP : TtOk C.P tt) {t e : TypeId} {sz by_ : Nat} {z : T} (hit : tyAt tt t = some ⟨sz, by_, z, .slice e⟩) {ie : Ty} (hie : tyAt tt e = some ie) {x : Operand} {lo hi : Option Operand} {o : Oper}
  (ho:o.op=.slice t x lo hi none) {l:List T} (hv:HV X (.sl false e l) (a.eval x)) {lo' hi':Int}
  (hlo:(lo=none∧lo'=0)∨∃ y k,lo=some y∧a.eval y=.int k lo') (hhi:(hi=none∧hi'=l.length)∨∃ y k,hi=some y∧a.eval y=.int k hi') (c1:0≤lo') (c2:lo'≤hi') (c3:hi'≤l.length) :
  ∃ v',(execOp a.eval o).run C.P w=.ok (.value v') w∧HV X (.sl false e ((l.take hi'.toNat).drop lo'.toNat)) v':=by
 obtain ⟨s0,cs,e1,e2⟩:=hv.cells
 simp only [CR] at e2
 obtain ⟨ad,cap,rfl,g1,g2,g3,g4,g5⟩:=e2
 simp only [mkv,List.headD] at e1
 obtain ⟨L,rfl⟩:=Int.eq_ofNat_of_zero_le c1
 obtain ⟨H,rfl⟩:=Int.eq_ofNat_of_zero_le (show 0≤hi' by omega)
 have hLH:L≤H:=by omega
 have hHl:H≤l.length:=by omega
 have hrun:=Io (C:=C) (w:=w) hP hit hie ho e1 g1 hlo hhi hLH hHl
 refine ⟨_,hrun,rfl,s0,[_],rfl,?_⟩
 simp only [CR,Int.toNat_natCast]
 have hll:((l.take H).drop L).length=H-L:=by simp;omega
 rw [hll]
 refine ⟨_,cap-L,rfl,by omega,by unfold maxLen at g2 ⊢;omega,fun t ht=>g3 t (List.mem_of_mem_take (List.mem_of_mem_drop ht)),?_,fun hne=>?_⟩
 ·rw [Dc] at g4 ⊢
  exact fun t ht=>g4 t (List.mem_of_mem_take (List.mem_of_mem_drop ht))
 ·have hlne:l≠[]:=by intro h;subst h;simp at hne
  have hpos:L<H:=by
   rcases Nat.lt_or_ge L H with h|h
   ·exact h
   ·exfalso;apply hne;apply List.eq_nil_of_length_eq_zero;rw [hll];omega
  obtain ⟨b,off,rfl,hFb,cur,e'',fz,hb,hle,hC⟩:=g5 hlne
  have hX:X.sz e=ie.size:=by rw [hX0];exact Dd hP hie
  rw [hX] at hle hC ⊢
  refine ⟨b,off+L*ie.size,?_,hFb,cur,e'',fz,hb,?_,?_⟩
  ·rw [if_neg (by omega)];simp [Bu]
  ·have:H*ie.size≤l.length*ie.size:=Nat.mul_le_mul_right _ hHl
   have h2:L*ie.size+(H-L)*ie.size=H*ie.size:=by rw [← Nat.add_mul];congr 1;omega
   omega
  ·have hsplit : ∀ (l : List T) (L H i : Nat) (cs : List Value), (∀ t ∈ l, t.size = ie.size) → L ≤ H → H ≤ l.length → T.pureL l = true → CRL X s0 [] i l cs →
     CRL X s0 [] i ((l.take H).drop L) ((cs.drop (L*ie.size)).take ((H-L)*ie.size)):=by
    intro l
    induction l with
    | nil=>
     intro L H i cs _ h1 h2 _ h
     have hH:H=0:=by simpa using h2
     subst hH
     have hL:L=0:=by omega
     subst hL
     simp [CRL]
    | cons t l ih=>
     intro L H i cs hs h1 h2 hp h
     simp only [CRL] at h
     have ht:=hs t (by simp)
     have hlen:=Bg _ _ _ _ _ h.1
     simp only [List.length_take] at hlen
     simp only [T.pureL,Bool.and_eq_true] at hp
     cases L with
     | succ L=>
      cases H with
      | zero=>omega
      | succ H=>
       have:=ih L H (i+1) (cs.drop t.size) (fun t ht=>hs t (by simp [ht])) (by omega) (by simpa using h2) hp.2 h.2
       simp only [List.take_succ_cons,List.drop_succ_cons]
       rw [List.drop_drop,ht] at this
       rw [show (L+1)*ie.size=ie.size+L*ie.size by rw [Nat.add_mul,Nat.one_mul,Nat.add_comm],show H+1-(L+1)=H-L by omega]
       exact L8 rfl (fun _ h=>⟨h,rfl⟩) _ [] [] (i+1) i _ (by
        rw [Dc];intro t ht
        exact (Dc l).1 hp.2 t (List.mem_of_mem_take (List.mem_of_mem_drop ht))) this
     | zero=>
      cases H with
      | zero=>simp [CRL]
      | succ H=>
       have:=ih 0 H (i+1) (cs.drop t.size) (fun t ht=>hs t (by simp [ht])) (by omega) (by simpa using h2) hp.2 h.2
       simp only [List.drop_zero,Nat.zero_mul,Nat.sub_zero] at this ⊢
       simp only [List.take_succ_cons,CRL]
       rw [List.take_take,List.drop_take]
       have hmul:(H+1)*ie.size=ie.size+H*ie.size:=by rw [Nat.add_mul,Nat.one_mul,Nat.add_comm]
       rw [ht] at h this ⊢
       rw [hmul,show min ie.size (ie.size+H*ie.size)=ie.size by omega,show ie.size+H*ie.size-ie.size=H*ie.size by omega]
       exact ⟨h.1,this⟩
   have:=hsplit l L H 0 _ (fun t ht=>by have:=g3 t ht;rw [hX] at this;exact this) hLH hHl g4 hC
   have h2:L*ie.size+(H-L)*ie.size=H*ie.size:=by rw [← Nat.add_mul];congr 1;omega
   have h3:H*ie.size≤l.length*ie.size:=Nat.mul_le_mul_right _ hHl
   have hcs:(((cur.toList.drop off).take (l.length*ie.size)).drop (L*ie.size)).take ((H-L)*ie.size)=(cur.toList.drop (off+L*ie.size)).take ((H-L)*ie.size):=by
    rw [List.drop_take,List.drop_drop,List.take_take,show min ((H-L)*ie.size) (l.length*ie.size-L*ie.size)=(H-L)*ie.size by omega]
   rw [hcs] at this
   exact this
end
end
section
theorem Sn (z:Value) (m:Nat):Builtin.zeroCells #[z] m=Array.replicate m z:=by
 unfold Builtin.zeroCells
 apply Array.ext
 ·simp
 ·intro i h1 h2
  simp [Nat.mod_one]
theorem Ok {P : Program} (w : World) (t t' ty e : TypeId) (i : TypeInfo) (z : Value) (ky k' : IntKind) (ht : P.underlying t = some (.slice e)) (ht' : P.underlying t' = some (.int k')) (hi : P.info? e = some i) (hz : i.zero = some z) (hs1 : i.size = 1) (hzc : z.cells = #[z]) (hz1 : z.oneCell' = true)
  (g sLen sCap:Nat) (cur:Array Value) (hg:w.heap[g]? = some (.cells cur e (0,0))) (hcs:cur.size=sCap) (hle:sLen≤sCap) (hcm:sCap≤maxLen) (m:Nat) (hm2:sLen+m≤1099511627776) (hby:(sLen+m)*i.bytes≤140737488355328) :
  ∃ v' w',(Builtin.append_ #[t,t'] ty #[.slice (some ⟨g,0,none⟩) sLen sCap,.int ky (m:Int)]).run P w=.ok v' w'∧w'.ownsRow 0 e 1 v' (sLen+m) (cur.toList.take sLen++List.replicate m z)∧w.grownBy w' (some g)∧
   ∃ g' c',v'=.slice (some ⟨g',0,none⟩) (sLen+m) c'∧(g'=g∨w.heap.size≤g'):=by
 have hwrap:IntKind.i64.wrap (m:Int)=(m:Int):=by rw [IntKind.wrap_i64];omega
 have hnb:m*i.bytes≤(sLen+m)*i.bytes:=Nat.mul_le_mul_right _ (by omega)
 have h48a:¬ ((281474976710656:Int)<(m:Int)*(i.bytes:Int)):=by
  rw [← Int.natCast_mul];omega
 have hnonneg:¬ ((m:Int)<0):=by omega
 by_cases hm0:m=0
 ·subst hm0
  refine ⟨.slice (some ⟨g,0,none⟩) (sLen+0) sCap,w,?_,?_,⟨rfl,rfl,rfl,by simp,fun _ _ _=>rfl⟩,g,sCap,rfl,.inl rfl⟩
  ·simp [Builtin.append_,run_underlying ht,run_underlying ht',sizeOf,typeInfo,hi,asInt,asIntOf,show IntKind.i64.wrap (0:Int)=0 from rfl,hle,storeCells,Addr.add_lit,hs1]
  ·refine ⟨by simp;omega,.inr ⟨g,sCap,cur,rfl,Nat.zero_le _,hg,by omega,hcm,by omega,?_⟩⟩
   simp
 have hzeros:=Sn z m
 by_cases hroom:sLen+m≤sCap
 ·have hst:=run_storeCells_at P g sLen e (List.replicate m z) 0 cur w hg (by simp;omega) (fun u hu=>by rw [List.mem_replicate] at hu;rw [hu.2];exact hz1)
  simp only [Nat.add_zero] at hst
  refine ⟨.slice (some ⟨g,0,none⟩) (sLen+m) sCap,w.setRow g (cur.toList.take sLen++List.replicate m z++cur.toList.drop (sLen+m)).toArray,?_,?_,⟨rfl,rfl,rfl,by simp,fun k _ hk=>setRow_other w g k _ (fun e=>hk (by simp [e]))⟩,g,sCap,rfl,.inl rfl⟩
  ·simp [Builtin.append_,run_underlying ht,run_underlying ht',sizeOf,typeInfo,hi,asInt,asIntOf,hwrap,hnonneg,h48a,hroom,zeroValue,hz,hzc,hzeros,hs1,hm0,Addr.add_lit,hst]
  ·refine ⟨by simp;omega,.inr ⟨g,sCap,_,rfl,Nat.zero_le _,setRow_heap w g cur _ e _ hg,hroom,hcm,?_,?_⟩⟩
   ·simp;omega
   ·simp only [Nat.mul_one]
    have hl:(cur.toList.take sLen++List.replicate m z).length=sLen+m:=by simp;omega
    rw [← hl]
    exact List.take_left
 ·have hgc:=grownCap_ge w (sLen+m) sCap e
  have hgm:=grownCap_le_maxLen w (sLen+m) sCap e (by simp only [maxLen];omega)
  have h48:=growslice_fits (need:=sLen+m) (old:=sCap) (by omega) hby
  have h48':¬ (281474976710656<Builtin.nextslicecap (sLen+m) sCap*i.bytes):=by omega
  have h63':¬ (9223372036854775807<((sLen:Int)+(m:Int))):=by omega
  have hfo:=run_firstCells_some (P:=P) w.drew i.size sLen ⟨g,0,none⟩ sLen sCap (cur.toList.take sLen) (by rw [hs1];simp;omega) (fun j v hj=>by
   rw [Bu,Nat.zero_add]
   show w.drew.cell? ⟨g,j,none⟩=some v
   rw [cell_of_row w.drew g j cur e (0,0) hg]
   rw [List.getElem?_take] at hj
   split at hj
   ·simpa using hj
   ·cases hj)
  rw [hs1] at hfo
  refine ⟨.slice (some ⟨w.heap.size,0,none⟩) (sLen+m) (grownCap w (sLen+m) sCap e),w.drew.alloc (.cells ((cur.toList.take sLen).toArray++Array.replicate m z++Builtin.zeroCells z.cells (grownCap w (sLen+m) sCap e-(sLen+m))) e),?_,?_,⟨rfl,rfl,rfl,by simp,fun k hk _=>Bv w.drew _ k hk⟩,w.heap.size,_,rfl,.inr (Nat.le_refl _)⟩
  ·simp [Builtin.append_,run_underlying ht,run_underlying ht',sizeOf,typeInfo,hi,asInt,asIntOf,hwrap,hnonneg,h48a,hroom,zeroValue,hz,hzc,hzeros,hs1,hm0,h63',h48',Question.forced,hfo,newRow,grownCap]
  ·refine ⟨by simp;omega,.inr ⟨w.heap.size,_,_,rfl,Nat.zero_le _,heap_alloc_new w.drew _,hgc,hgm,?_,?_⟩⟩
   ·simp only [Array.size_append,List.size_toArray,size_zeroCells,hzc,Array.size_replicate,List.length_take,Array.length_toList]
    simp
    omega
   ·simp only [Nat.mul_one,Array.toList_append,Array.toList_replicate]
    have hl:(cur.toList.take sLen++List.replicate m z).length=sLen+m:=by simp;omega
    rw [← hl]
    exact List.take_left
section
variable {C:Ctx} {env:Env} {V:Nat→Value} {w:World} {κ:Kap} {a:Act} {AF:FuncId→List T→T→Prop} {U:List (Nat×Slot)} {R:List Nat} {n:Nat}
variable {tt:Tt} {P:Program}
theorem Inv.freshOne (h : Inv C env V w κ) (srcs : List Nat) (d : Nat) (hd9 : d ≠ 3000001) (x : T) (head : Value) (w' : World) (b : Nat) (hos : w'.os = w.os) (htape : w'.tape = w.tape) (hout : w'.output = w.output) (hsize : w.heap.size ≤ w'.heap.size)
  (hfrozen:∀ b,C.F b→w'.heap[b]? = w.heap[b]?) (hkept:∀ b s p v,κ b=some (s,p,v)→s ∉ srcs→s≠d→w'.heap[b]? = w.heap[b]?)
  (hcol:b<w'.heap.size∧¬ C.F b∧∀ s p v,κ b=some (s,p,v)→s∈srcs∨s=d) (hr:x.refFree=true)
  (hx:∀ X':Cx,X'.sz=C.P.cellsOf→X'.w=w'→X'.F=C.F→X'.kap b=some (d,[],head)→CR X' d [] x [head]) :
  ∃ κ',Inv C ((d,⟨verOf (lk env d)+1,.own x⟩)::kill srcs env) (upd V d (mkv x [head])) w' κ':=by
 obtain ⟨κ',h1,_⟩:=h.fresh srcs d hd9 x [head] w' (fun c=>if c=b then some ([],head) else none) hos htape hout hsize hfrozen hkept
  (fun c p v hc=>by
   split at hc
   ·rename_i e;subst e;exact hcol
   ·cases hc)
  (fun c c' p v v' hc hc'=>by
   split at hc
   ·split at hc'
    ·rename_i e e';rw [e,e']
    ·cases hc'
   ·cases hc) hr (fun X' f1 f2 f3 f4=>hx X' f1 f2 f3 (f4 b [] _ (by simp)))
 exact ⟨κ',h1⟩
theorem Wz [Small n] (hP : TtOk C.P tt) (hd : a.defers = []) (hn : a.tmps.size = n) (hI : Inv C env V w κ) (hV : ∀ t, t < 1000000 → V t = a.tmps.getD t undef) {t e : TypeId} {sz by_ : Nat} {z : T} (hit : tyAt tt t = some ⟨sz, by_, z, .slice e⟩) {ie : Ty} (hie : tyAt tt e = some ie) {x : Operand} {lo hi : Option Operand} {o : Oper}
  (ho:o.op=.slice t x lo hi none) (hok:opOk n o=true) {d:Nat} (hdst:o.dst=some d) {s k:Nat} {p:List Nat} {T0:T} {l:List T} (hne:¬ s=d) (hs:lk env s=some ⟨k,.own T0⟩) (hg:T.get p T0=some (.sl true e l)) (hnd:(T.sl true e l).isNode=true)
  (hv:HV (cx C env w κ) (.ref s k p) (a.eval x)) (hcut:cutB lo hi=true) {c:Int} (hhi:(hi=none∧c=l.length)∨∃ y k,hi=some y∧a.eval y=.int k c) (c1:0≤c) (c2:c≤l.length) (c3:ie.size=1) (hsc:∀ t∈l,t.scalar=true) {Q:Exit→Act→World→Prop} :
  o.wp C.P a w (fun a' w'=>FR C n ([(d,⟨verOf (lk env d)+1,.own (.sl true e (l.take c.toNat))⟩),(s,⟨k,.own (T.set .any p T0)⟩)]++env) a' w') Q:=by
 have hdn:=Am hok d hdst
 have hlo:lo=none:=by
  cases lo with
  | none=>rfl
  | some y=>simp [cutB] at hcut
 subst hlo
 obtain ⟨s1,hc⟩:=hv.ref_cells
 obtain ⟨b,cap,cur,k1,k2,k3,k4⟩:=hI.ref_eq hs hg hnd hc
 simp only [List.cons.injEq,and_true,headOf] at k1
 simp only [headOf] at k4
 obtain ⟨N,rfl⟩:=Int.eq_ofNat_of_zero_le c1
 simp only [CR] at k2
 obtain ⟨b',cap',cur',m1,m2,m3,m4,m5,m6,m7,m8⟩:=k2
 have hbb:b'=b∧cap'=cap:=by
  have:a.eval x=.slice (some ⟨b',0,none⟩) l.length cap':=by simpa using m1
  rw [k1] at this
  simp at this
  exact ⟨this.1.symm,this.2.symm⟩
 obtain ⟨rfl,rfl⟩:=hbb
 have hN:N≤l.length:=by omega
 have hr:=Io (C:=C) (a:=a) (w:=w) hP hit hie ho k1 m4 (L:=0) (H:=N) (.inl ⟨rfl,rfl⟩) hhi (Nat.zero_le _) hN
 have hv':(if cap'=0 then (some ⟨b',0,none⟩:Option Addr) else (some ⟨b',0,none⟩:Option Addr).map (·.add (0*ie.size)))=some ⟨b',0,none⟩:=by
  split
  ·rfl
  ·simp only [Option.map_some,Bu,Nat.zero_mul,Nat.zero_add]
 rw [hv',Nat.sub_zero,Nat.sub_zero] at hr
 refine Ah hr ?_
 rw [hdst]
 have hT:=hI.takeOut hs hg hnd
 have hzz:(cx C env w κ).sz e=1:=by rw [show (cx C env w κ).sz e=C.P.cellsOf e from rfl,Dd hP hie,c3]
 rw [hzz,Nat.mul_one] at m6 m8
 have hS:=Cm l 0 _ hsc m8
 have hlt:(l.take N).length=N:=by rw [List.length_take];omega
 obtain ⟨κ',hI'⟩:=hT.freshOne [] d (Small.ne hdn) (.sl true e (l.take N)) (.slice (some ⟨b',0,none⟩) N cap') w b' rfl rfl rfl (Nat.le_refl _) (fun _ _=>rfl) (fun _ _ _ _ _ _ _=>rfl)
  ⟨(hI.col _ _ _ _ k4).1,(hI.col _ _ _ _ k4).2,fun s' p' v' hk=>by
   rcases Cg hk with ⟨_,_,_,ho⟩|⟨hnn,hb',_⟩
   ·cases ho
   ·rw [k4] at hb'
    simp only [Option.some.injEq,Prod.mk.injEq] at hb'
    obtain ⟨rfl,rfl,rfl⟩:=hb'
    exact absurd (.inl ⟨rfl,List.prefix_refl _⟩) hnn⟩
  (by
   simp only [T.refFree]
   exact (Cn (fun t ht=>hsc t (List.mem_of_mem_take ht))).2)
  (fun X' f1 f2 f3 f4=>by
   have hz':X'.sz e=1:=by rw [f1,Dd hP hie,c3]
   simp only [CR,hlt]
   refine ⟨b',cap',cur',rfl,by rw [f2];exact m2,f4,by omega,m5,by rw [hz',Nat.mul_one];exact m6,fun t ht=>by rw [hz'];exact Bm (hsc t (List.mem_of_mem_take ht)),?_⟩
   rw [hz',Nat.mul_one]
   have hlc:(cur'.toList.take l.length).length=l.length:=hS.1
   refine Cu _ 0 _ (by rw [hlt];rw [List.length_take] at hlc ⊢;omega) (fun t ht=>Bm (hsc t (List.mem_of_mem_take ht))) (fun j t v hj hv=>?_)
   have hjN:j<N:=by have:=(List.getElem?_eq_some_iff.1 hj).1;omega
   rw [List.getElem?_take_of_lt hjN] at hj hv
   exact hS.2 j t v hj (by rw [List.getElem?_take_of_lt (by omega)];exact hv) _ _ _)
 have hver:verOf (lk ((s,(⟨k,.own (T.set .any p T0)⟩:Slot))::env) d)=verOf (lk env d):=by rw [Ab _ _ _ _ (fun e=>hne e.symm)]
 rw [hver] at hI'
 refine B6 (v:=.slice (some ⟨b',0,none⟩) N cap') hd hn hdn (by simpa [kill] using hI') (fun t ht=>?_)
 by_cases e:t=d
 ·simp [e,upd,mkv]
 ·rw [Al _ _ _ _ e,if_neg e];exact hV t ht
theorem Rp {X X' : Cx} {s s' : Nat} {p p' : List Nat} (hsz : X'.sz = X.sz) (hF : ∀ b, X.F b → X'.F b ∧ X'.w.heap[b]? = X.w.heap[b]?)
  (hk:∀ b j r v,X.kap b=some (s,p++j::r,v)→X'.kap b=some (s',p'++j::r,v)∧X'.w.heap[b]? = X.w.heap[b]?):∀ (l:List T) (i:Nat) (cs:List Value),T.refFreeL l=true→CRL X s p i l cs→CRL X' s' p' i l cs
 | [],_,_,_,h=>by simpa only [CRL] using h
 | t::l,i,cs,c,h=>by
  simp only [CRL] at h ⊢
  simp only [T.refFreeL,Bool.and_eq_true] at c
  exact ⟨Bd hsz hF (fun b q v hb=>by
   have:=hk b i q v (by simpa using hb)
   simpa using this) c.1 h.1,Rp hsz hF hk l (i+1) _ c.2 h.2⟩
theorem Inv.moveWin (h : Inv C env V w κ) {s k : Nat} {T0 : T} {e : TypeId} {l : List T} {p : List Nat} (hs : lk env s = some ⟨k, .own T0⟩) (hg : T.get p T0 = some (.sl true e l)) {d : Nat} (hd9 : d ≠ 3000001) (hd : d ≠ s) {L H : Nat} (hLH : L ≤ H) (hH : H ≤ l.length) (hz : C.P.cellsOf e = 1)
  {b0 cap0:Nat} (hk0:κ b0=some (s,p,.slice (some ⟨b0,0,none⟩) l.length cap0)) :
  ∃ κ',Inv C ((d,⟨verOf (lk env d)+1,.own (.win e L H l)⟩)::(s,⟨k,.own (T.set .any p T0)⟩)::env) (upd V d (.slice (some ⟨b0,L,none⟩) (H-L) (cap0-L))) w κ':=by
 obtain ⟨b1,cap1,cur1,g1,g2,g3⟩:=h.node_at hs hg rfl
 have hr0:=Br p T0 _ hg (h.own s k T0 hs).1
 simp only [T.refFree] at hr0
 have h1:=h.takeOut hs hg rfl
 have hv1:verOf (lk ((s,(⟨k,.own (T.set .any p T0)⟩:Slot))::env) d)=verOf (lk env d):=by rw [Ab _ _ _ _ hd]
 have key:=h1.fresh [] d hd9 (.win e L H l) [.slice (some ⟨b0,L,none⟩) (H-L) (cap0-L)] w
  (fun b=>match κ b with|some (u,r,v)=>if u=s∧p <+: r then some (r.drop p.length,if r=p then .slice (some ⟨b0,L,none⟩) (H-L) (cap0-L) else v) else none|none=>none)
  rfl rfl rfl (Nat.le_refl _) (fun _ _=>rfl) (fun _ _ _ _ _ _ _=>rfl) (fun b q v hb=>?_) (fun b b' q v v' hb hb'=>?_) (by simpa only [T.refFree] using hr0) (fun X' e1 e2 e3 e4=>?_)
 ·rw [hv1] at key
  obtain ⟨κ',key,hkeep⟩:=key
  exact ⟨κ',by simpa [kill,mkv] using key⟩
 ·cases hk:κ b with
  | none=>simp [hk] at hb
  | some y=>
   obtain ⟨u,r,v1⟩:=y
   simp only [hk] at hb
   split at hb
   ·rename_i hc
    refine ⟨(h.col b _ _ _ hk).1,(h.col b _ _ _ hk).2,fun s' p' v' hr=>?_⟩
    rcases Cg hr with ⟨_,_,_,ho⟩|⟨hnn,hb',_⟩
    ·cases ho
    ·rw [hk] at hb'
     simp only [Option.some.injEq,Prod.mk.injEq] at hb'
     obtain ⟨rfl,rfl,rfl⟩:=hb'
     exact absurd (.inl hc) hnn
   ·cases hb
 ·cases hk:κ b with
  | none=>simp [hk] at hb
  | some y=>
   obtain ⟨u,r,v1⟩:=y
   cases hk':κ b' with
   | none=>simp [hk'] at hb'
   | some y'=>
    obtain ⟨u',r',v1'⟩:=y'
    simp only [hk] at hb
    simp only [hk'] at hb'
    split at hb
    ·split at hb'
     ·rename_i hc hc'
      simp only [Option.some.injEq,Prod.mk.injEq] at hb hb'
      obtain ⟨rfl,⟨r1,rfl⟩⟩:=hc
      obtain ⟨rfl,⟨r1',rfl⟩⟩:=hc'
      have e:r1=r1':=by
       have:=hb.1.trans hb'.1.symm
       simpa using this
      subst e
      exact h.inj b b' _ _ _ _ hk hk'
     ·cases hb'
    ·cases hb
 ·simp only [CR] at g1 ⊢
  obtain ⟨b2,cap2,cur2,m1,m2,m3,m4,m5,m6,m7,m8⟩:=g1
  have m3':κ b2=some (s,p,.slice (some ⟨b2,0,none⟩) l.length cap2):=m3
  have hbb:b2=b0:=h.inj b2 b0 s p _ _ m3' hk0
  subst hbb
  have hcc:cap2=cap0:=by
   rw [m3'] at hk0
   simpa using hk0
  subst hcc
  have hz':X'.sz e=1:=by rw [e1];exact hz
  have hz2:(cx C env w κ).sz e=1:=hz
  rw [hz2] at m6 m7 m8
  refine ⟨b2,cap2,cur2,rfl,by rw [e2];exact m2,e4 b2 [] _ (by simp [hk0]),⟨hLH,hH,m4⟩,m5,⟨by rw [hz'];exact m6,hz'⟩,fun t ht=>by rw [hz'];exact m7 t ht,?_⟩
  rw [hz']
  exact Rp (X:=cx C env w κ) (s:=s) (p:=p) (p':=[]) e1 (fun b hb=>⟨by rw [e3];exact hb,by rw [e2];rfl⟩) (fun b j r v hk=>⟨by
   have hk':κ b=some (s,p++j::r,v):=hk
   exact e4 b (j::r) v (by simp [hk']),by rw [e2];rfl⟩) l 0 _ hr0 m8
theorem Xs [Small n] (hP : TtOk C.P tt) (hd : a.defers = []) (hn : a.tmps.size = n) (hI : Inv C env V w κ) (hV : ∀ t, t < 1000000 → V t = a.tmps.getD t undef) {t e : TypeId} {sz by_ : Nat} {z : T} (hit : tyAt tt t = some ⟨sz, by_, z, .slice e⟩) {ie : Ty} (hie : tyAt tt e = some ie) {x : Operand} {lo hi : Option Operand} {o : Oper}
  (ho:o.op=.slice t x lo hi none) (hok:opOk n o=true) {d:Nat} (hdst:o.dst=some d) {s k:Nat} {p:List Nat} {T0:T} {l:List T} (hne:¬ s=d) (hs:lk env s=some ⟨k,.own T0⟩) (hg:T.get p T0=some (.sl true e l)) (hnd:(T.sl true e l).isNode=true)
  (hv:HV (cx C env w κ) (.ref s k p) (a.eval x)) {lo' hi':Int} (hlo:(lo=none∧lo'=0)∨∃ y k,lo=some y∧a.eval y=.int k lo') (hhi:(hi=none∧hi'=l.length)∨∃ y k,hi=some y∧a.eval y=.int k hi')
  (c1:0≤lo') (c2:lo'≤hi') (c3:hi'≤l.length) (c4:lo'<l.length) (c5:ie.size=1) {Q:Exit→Act→World→Prop} :
  o.wp C.P a w (fun a' w'=>FR C n ([(d,⟨verOf (lk env d)+1,.own (.win e lo'.toNat hi'.toNat l)⟩),(s,⟨k,.own (T.set .any p T0)⟩)]++env) a' w') Q:=by
 have hdn:=Am hok d hdst
 obtain ⟨s1,hc⟩:=hv.ref_cells
 obtain ⟨b,cap,cur,k1,k2,k3,k4⟩:=hI.ref_eq hs hg hnd hc
 simp only [List.cons.injEq,and_true,headOf] at k1
 simp only [headOf] at k4
 obtain ⟨L,rfl⟩:=Int.eq_ofNat_of_zero_le c1
 obtain ⟨H,rfl⟩:=Int.eq_ofNat_of_zero_le (show 0≤hi' by omega)
 have hcap:l.length≤cap:=by
  simp only [CR] at k2
  obtain ⟨b',cap',cur',m1,_,_,m4,_⟩:=k2
  have:a.eval x=.slice (some ⟨b',0,none⟩) l.length cap':=by simpa using m1
  rw [k1] at this
  simp at this
  omega
 have hr:=Io (C:=C) (a:=a) (w:=w) hP hit hie ho k1 hcap hlo hhi (by omega) (by omega)
 rw [if_neg (by omega),c5,Nat.mul_one] at hr
 simp only [Option.map_some,Bu,Nat.zero_add] at hr
 refine Ah hr ?_
 rw [hdst]
 obtain ⟨κ',hI'⟩:=hI.moveWin hs hg (Small.ne hdn) (fun e=>hne e.symm) (L:=L) (H:=H) (by omega) (by omega) (by rw [Dd hP hie,c5]) k4
 simp only [Int.toNat_natCast]
 refine B6 (v:=.slice (some ⟨b,L,none⟩) (H-L) (cap-L)) hd hn hdn (by simpa using hI') (fun t ht=>?_)
 by_cases e:t=d
 ·simp [e,upd]
 ·rw [Al _ _ _ _ e,if_neg e];exact hV t ht
theorem Abh [Small n] (hP : TtOk C.P tt) (hF : FR C n env a w) (hn1 : n ≤ 1000000) {t t' e : TypeId} {sz by_ sz' by' : Nat} {z z' : T} {k' : IntKind} (hit : tyAt tt t = some ⟨sz, by_, z, .slice e⟩) (hit' : tyAt tt t' = some ⟨sz', by', z', .int k'⟩) {ie : Ty} (hie : tyAt tt e = some ie) {x y : Operand} {i : Nat} {o : Oper}
  (ho:o.op=.call { callee:=.builtin .append,args:=#[x,y],argTypes:=#[t,t'] }) (hok:opOk n o=true)
  (h : (rdv x fun v => rdv y fun u => match v, u with
     | .ref s k p,.int _ m=>if s=virt i then .fail else rdn s k p fun T0 nd=>match nd with
      | .sl true e' l => .need (e' = e ∧ ie.size = 1 ∧ ie.zero.scalar = true ∧ l.all T.scalar = true ∧ 0 ≤ m ∧ l.length + m.toNat ≤ 1099511627776 ∧ (l.length + m.toNat) * ie.bytes ≤ 140737488355328)
        (.rd (virt i) fun sv=>finOwn o.dst (.sl true e (l++List.replicate m.toNat ie.zero)) [(virt i,⟨verOf sv+1,.val .any⟩),(s,⟨k,.own (T.set .any p T0)⟩)])
      | _=>.fail
     | _,_=>.fail).sat AF env U R) {Q:Exit→Act→World→Prop} :
  o.wp C.P a w (fun a' w'=>FR C n (U++env) a' w') Q:=by
 obtain ⟨hd,hn,κ,V,hI,hV⟩:=hF
 obtain ⟨v,R',h1,hv⟩:=Au hI hV (Ap hok (by simp [ho,Op.operands,Call.operands])) h
 obtain ⟨u,R'',h2,hu⟩:=Au hI hV (Ap hok (by simp [ho,Op.operands,Call.operands])) h1
 obtain ⟨ti,i1,i2,i3,i4⟩:=Dn hP hie
 have hexec:∀ (r:Value) (w':World),(Builtin.append_ #[t,t'] o.type #[a.eval x,a.eval y]).run C.P w=.ok r w'→(execOp a.eval o).run C.P w=.ok (.value r) w':=fun r w' hr=>by
  simp [execOp,ho,Go.resolve,invoke,builtin,hr]
 cases v <;> try (simp [Rd.sat] at h2;done)
 rename_i s k p
 cases u <;> try (simp [Rd.sat] at h2;done)
 rename_i ku m
 simp only at h2
 split at h2
 ·simp [Rd.sat] at h2
 rename_i hsv
 obtain ⟨T0,nd,R3,hs,hg,hnd,h3⟩:=Bk h2
 split at h3
 ·rename_i e' l
  simp only [Rd.sat] at h3
  obtain ⟨⟨rfl,c1,c2,c3,c4,c5,c6⟩,R4,h5,_⟩:=h3
  obtain ⟨d,hdst,rfl⟩:=Bx h5
  have hdn:=Am hok d hdst
  have hsc:∀ t∈l,t.scalar=true:=fun t ht=>List.all_eq_true.1 c3 t ht
  obtain ⟨M,rfl⟩:=Int.eq_ofNat_of_zero_le c4
  simp only [Int.toNat_natCast] at c5 c6 ⊢
  obtain ⟨s1,hc⟩:=hv.ref_cells
  obtain ⟨b,cap,cur,k1,k2,k3,k4⟩:=hI.ref_eq hs hg hnd hc
  simp only [List.cons.injEq,and_true,headOf] at k1
  simp only [headOf] at k4
  simp only [CR] at k2
  obtain ⟨b',cap',cur',m1,m2,m3,m4,m5,m6,m7,m8⟩:=k2
  have hbb:b'=b∧cap'=cap:=by
   have:a.eval x=.slice (some ⟨b',0,none⟩) l.length cap':=by simpa using m1
   rw [k1] at this
   simp at this
   exact ⟨this.1.symm,this.2.symm⟩
  obtain ⟨rfl,rfl⟩:=hbb
  have hzz:(cx C env w κ).sz e'=1:=by rw [show (cx C env w κ).sz e'=C.P.cellsOf e' from rfl,Dd hP hie,c1]
  rw [hzz,Nat.mul_one] at m6 m8
  have hS:=Cm l 0 _ hsc m8
  obtain ⟨_,hplain,hzs,_⟩:=hP e' ie hie
  have hag:ie.zero.isAgg=false:=by cases hz0:ie.zero <;> simp_all [T.scalar,T.isAgg]
  obtain ⟨zv,z1,z2,z3,z4⟩:=Vg hplain (Bm c2) hag
  have hin:C.P.underlying t'=some (.int k'):=(hP t' _ hit').2.2.2.1
  have hm2:w.heap[b']? = some (.cells cur' e' (0,0)):=m2
  obtain ⟨v',w',hr,hown,hgrow,g',c',rfl,hwhere⟩:=Ok (P:=C.P) w t t' o.type e' ti (mkv ie.zero ie.zero.zc) ku k' (A8 hP hit) hin i1 i2 (by rw [i3,c1]) (by rw [z2,z3]) (by rw [z2];exact z4) b' l.length cap' cur' hm2 m6 m4 m5 M c5 (by rw [i4];exact c6)
  refine Ah (hexec _ w' (by rw [k1,hu.int];exact hr)) ?_
  rw [hdst]
  have hT:=hI.takeOut hs hg hnd
  obtain ⟨hxl,hrow⟩:=hown
  rcases hrow with ⟨hv0,_⟩|⟨g,cg,curg,hge,_,hgg,hcap,hmax,hcsz,htake⟩
  ·cases hv0
  simp only [Value.slice.injEq,Option.some.injEq,Addr.mk.injEq,and_true,true_and] at hge
  obtain ⟨rfl,rfl⟩:=hge
  have hglt:g'<w'.heap.size:=(Array.getElem?_eq_some_iff.1 hgg).1
  have hbF:¬ C.F b':=(hI.col _ _ _ _ k4).2
  have hsame:∀ c,c<w.heap.size→c≠b'→w'.heap[c]? = w.heap[c]?:=fun c hc hne=>hgrow.block c hc (by simpa using hne)
  have hcolT:∀ {c u q v},recol κ s p [] (fun _=>none) c=some (u,q,v)→κ c=some (u,q,v)∧c≠b':=by
   intro c u q v hk
   rcases Cg hk with ⟨_,_,_,ho⟩|⟨hnn,hb',_⟩
   ·cases ho
   ·refine ⟨hb',fun e=>?_⟩
    subst e
    rw [k4] at hb'
    simp only [Option.some.injEq,Prod.mk.injEq] at hb'
    obtain ⟨rfl,rfl,rfl⟩:=hb'
    exact hnn (.inl ⟨rfl,List.prefix_refl _⟩)
  have hB:=hT.bind (virt i) (verOf (lk env (virt i))+1) .any undef (by rw [Ab _ _ _ _ (fun e=>hsv e.symm)];omega) rfl 0 (Lz _ _ _)
  have hdv:d≠virt i:=fun e=>by simp [virt] at e;omega
  have hsr:∀ t∈l++List.replicate M ie.zero,t.scalar=true:=fun t ht=>by
   rcases List.mem_append.1 ht with ht|ht
   ·exact hsc t ht
   ·rw [List.mem_replicate] at ht;rw [ht.2];exact c2
  obtain ⟨κ',hI'⟩:=hB.freshOne [] d (Small.ne hdn) (.sl true e' (l++List.replicate M ie.zero)) (.slice (some ⟨g',0,none⟩) (l.length+M) c') w' g' hgrow.os hgrow.tape hgrow.output hgrow.size
   (fun c hc=>hsame c (Nat.lt_of_lt_of_le hc.1 hI.size) (fun e=>hbF (e▸hc)))
   (fun c s p v hk _ _=>hsame c (hI.col c _ _ _ (hcolT hk).1).1 (hcolT hk).2)
   ⟨hglt,fun hF=>by
    rcases hwhere with rfl|hge
    ·exact hbF hF
    ·have:=hF.1;have:=hI.size;omega,fun s p v hk=>by
    have h1:=hcolT hk
    rcases hwhere with rfl|hge
    ·exact absurd rfl h1.2
    ·have:=(hI.col _ _ _ _ h1.1).1;omega⟩
   (by simp only [T.refFree];exact (Cn hsr).2)
   (fun X' f1 f2 f3 f4=>by
    have hz':X'.sz e'=1:=by rw [f1,Dd hP hie,c1]
    simp only [CR,List.length_append,List.length_replicate]
    rw [Nat.mul_one] at hcsz htake
    refine ⟨g',c',curg,rfl,by rw [f2];exact hgg,f4,hcap,hmax,by rw [hz',Nat.mul_one];exact hcsz,fun t ht=>by rw [hz'];exact Bm (hsr t ht),?_⟩
    rw [hz',Nat.mul_one,htake]
    have hlc:(cur'.toList.take l.length).length=l.length:=hS.1
    refine Cu _ 0 _ (by rw [List.length_append,List.length_append,hlc,List.length_replicate,List.length_replicate]) (fun t ht=>Bm (hsr t ht)) (fun j t v hj hv=>?_)
    by_cases hjl:j<l.length
    ·rw [List.getElem?_append_left hjl] at hj
     rw [List.getElem?_append_left (by omega)] at hv
     exact hS.2 j t v hj hv _ _ _
    ·rw [List.getElem?_append_right (by omega)] at hj
     rw [List.getElem?_append_right (by omega),hlc] at hv
     have e1:t=ie.zero:=(List.mem_replicate.1 (List.mem_of_getElem? hj)).2
     have e2:v=mkv ie.zero ie.zero.zc:=(List.mem_replicate.1 (List.mem_of_getElem? hv)).2
     subst e1;subst e2
     rw [z2]
     have:=Gt X' d ie.zero ([]++[0+j]) hplain
     rw [z1] at this
     exact this)
  have hver:verOf (lk ((virt i,(⟨verOf (lk env (virt i))+1,.val .any⟩:Slot))::(s,⟨k,.own (T.set .any p T0)⟩)::env) d)=verOf (lk env d):=by
   rw [Ab _ _ _ _ hdv]
   by_cases e:d=s
   ·subst e;rw [Ak,hs];rfl
   ·rw [Ab _ _ _ _ e]
  rw [hver] at hI'
  refine B6 (v:=.slice (some ⟨g',0,none⟩) (l.length+M) c') hd hn hdn (by simpa [kill] using hI') (fun t ht=>?_)
  by_cases e:t=d
  ·simp [e,upd,mkv]
  ·rw [Al _ _ _ _ e,if_neg e,Al _ _ _ _ (by simp [virt];omega)];exact hV t ht
 ·simp [Rd.sat] at h3
end
end
end Go.Proofs.YtapdekacpecgiaaGreat
