import Derived.Test.YtapdekacpecgiaaGreatGS
namespace Go.Proofs.YtapdekacpecgiaaGreat
open Go.RowKit
set_option linter.unusedVariables false
set_option linter.unusedSimpArgs false
set_option linter.constructorNameAsVariable false
section
def pre (E:Nat→List (Nat×Slot)) (S:Nat→Bool) (env:Env):Nat→Env
 | 0=>env
 | k+1=>if S k then E k++pre E S env k else pre E S env k
def wr (l:List (Nat×Slot)):List Nat:=l.map (·.1)
theorem L0 (l:List (Nat×Slot)) (env env':Env) (t:Nat) (h:t∈wr l):lk (l++env) t=lk (l++env') t:=by
 induction l with
 | nil=>simp [wr] at h
 | cons x l ih=>
  obtain ⟨u,s⟩:=x
  simp only [List.cons_append,lk]
  by_cases e:u=t
  ·simp [e]
  ·rw [if_neg e,if_neg e]
   refine ih ?_
   simp only [wr,List.map_cons,List.mem_cons] at h
   exact h.resolve_left (fun h=>e h.symm)
theorem He (l:List (Nat×Slot)) (env:Env) (t:Nat) (h:t ∉ wr l):lk (l++env) t=lk env t:=
 Le _ _ _ (fun x hx e=>h (List.mem_map.2 ⟨x,hx,e⟩))
theorem Gv (E:Nat→List (Nat×Slot)) (S S':Nat→Bool) (env:Env) (t:Nat):∀ k,(∀ j,j<k→t∈wr (E j)→S j=S' j)→lk (pre E S env k) t=lk (pre E S' env k) t
 | 0,_=>rfl
 | k+1,h=>by
  have ih:=Gv E S S' env t k (fun j hj=>h j (by omega))
  simp only [pre]
  by_cases ht:t∈wr (E k)
  ·rw [h k (by omega) ht]
   split
   ·exact L0 _ _ _ _ ht
   ·exact ih
  ·have h1 : ∀ (b : Bool) (X : Env), lk (if b = true then E k ++ X else X) t = lk X t := by
    intro b X
    cases b
    ·rfl
    ·exact He _ _ _ ht
   rw [h1,h1]
   exact ih
theorem Tc (E:Nat→List (Nat×Slot)) (env:Env) (t:Nat) (S:Nat→Bool) (i:Nat):∀ k,i≤k→(∀ j,i≤j→j<k→t∈wr (E j)→S j=false)→lk (pre E S env k) t=lk (pre E S env i) t
 | 0,hi,_=>by rw [Nat.le_zero.1 hi]
 | k+1,hi,h=>by
  by_cases e:i=k+1
  ·rw [e]
  ·have ih:=Tc E env t S i k (by omega) (fun j h1 h2=>h j h1 (by omega))
   simp only [pre]
   split
   ·rename_i hs
    have:t ∉ wr (E k):=fun ht=>by rw [h k (by omega) (by omega) ht] at hs;cases hs
    rw [He _ _ _ this];exact ih
   ·exact ih
theorem Txt.pre {AF : FuncId → List T → T → Prop} {tt : Tt} {md : FuncId → List Bool} {ops : Array Oper} {E : Nat → List (Nat × Slot)} {RR : Nat → List Nat} {env0 : Env} : ∀ (l : List Oper) (i : Nat) (env : Env) (tr : List (List (Nat × Slot) × List Nat)) (env' : Env),
  Txt AF (gRds tt md ops l i) env tr env'→(∀ j,j<l.length→E (i+j)=(tr.getD j ([],[])).1∧RR (i+j)=(tr.getD j ([],[])).2)→env=pre E (fun _=>true) env0 i→
  (∀ j o,l[j]? = some o→(gRd tt md ops (i+j) o).sat AF (pre E (fun _=>true) env0 (i+j)) (E (i+j)) (RR (i+j)))∧env'=pre E (fun _=>true) env0 (i+l.length)∧tr.length=l.length
 | [],i,env,tr,env',h,_,he=>by
  cases h
  exact ⟨fun j o hj=>by simp at hj,he,rfl⟩
 | o::l,i,env,tr,env',h,hE,he=>by
  cases h with
  | cons _ _ _ U R tr' _ h h2=>
   have h0:=hE 0 (by simp)
   simp only [Nat.add_zero,List.getD_cons_zero] at h0
   obtain ⟨g1,g2,g3⟩:=Txt.pre (E:=E) (RR:=RR) (env0:=env0) l (i+1) _ tr' env' h2 (fun j hj=>by
    have:=hE (j+1) (by simpa using hj)
    simpa [Nat.add_assoc,Nat.add_comm 1 j] using this) (by simp only [Go.Proofs.YtapdekacpecgiaaGreat.pre,if_true,h0.1,he])
   refine ⟨fun j o' hj=>?_,by rw [g2,List.length_cons];congr 1;omega,by simp [g3]⟩
   cases j with
   | zero=>simp at hj;subst hj;simp only [Nat.add_zero];rw [h0.1,h0.2,← he];exact h
   | succ j=>have:=g1 j o' (by simpa using hj);rwa [show i+1+j=i+(j+1) by omega] at this
def ancOf (l:List Nat) (o:Oper):Nat:=o.after.toList.foldr (fun e m=>if Region.binds .any e then m ||| (1 <<< e.on) ||| l.getD e.on 0 else m) 0
def ancs:List Oper→List Nat→List Nat
 | [],l=>l
 | o::os,l=>ancs os (l++[ancOf l o])
def conf (x y:List Nat×List Nat):Bool:=x.1.any (fun t=>y.1.contains t||y.2.contains t)||y.1.any (fun t=>x.2.contains t)
def okB (ops:Array Oper) (tr:List (List Nat×List Nat)):Bool:=
 let M:=ancs ops.toList []
 ((List.range ops.size).all fun j=>((ops[j]?).map fun o=>o.after.all fun e=>!Region.binds .any e||decide (e.on<j)).getD true) &&
 (List.range ops.size).all fun j=>(List.range j).all fun i=>!conf (tr.getD i ([],[])) (tr.getD j ([],[]))||(M.getD j 0).testBit i
theorem Abr (l:List Nat) (o:Oper) (i:Nat) (h:(ancOf l o).testBit i=true):∃ e∈o.after.toList,Region.binds .any e=true∧(e.on=i∨(l.getD e.on 0).testBit i=true):=by
 unfold ancOf at h
 generalize o.after.toList=es at h
 induction es with
 | nil=>simp at h
 | cons e es ih=>
  simp only [List.foldr_cons] at h
  split at h
  ·rename_i hb
   simp only [Nat.testBit_or,Bool.or_eq_true] at h
   rcases h with (h|h)|h
   ·obtain ⟨e',h1,h2⟩:=ih h
    exact ⟨e',by simp [h1],h2⟩
   ·refine ⟨e,by simp,hb,.inl ?_⟩
    rw [Nat.one_shiftLeft,Nat.testBit_two_pow] at h
    simpa using h
   ·exact ⟨e,by simp,hb,.inr h⟩
  ·obtain ⟨e',h1,h2⟩:=ih h
   exact ⟨e',by simp [h1],h2⟩
theorem Ml (S : Nat → Bool) (ops : Array Oper) (hc : ∀ j o, S j = true → ops[j]? = some o → ∀ e ∈ o.after.toList, Region.binds .any e = true → S e.on = true) :
  ∀ (os:List Oper) (l:List Nat),(∀ k,os[k]? = ops[l.length+k]?)→(∀ j i,S j=true→(l.getD j 0).testBit i=true→S i=true)→∀ j i,S j=true→((ancs os l).getD j 0).testBit i=true→S i=true
 | [],l,_,h=>h
 | o::os,l,hos,h=>by
  refine Ml S ops hc os (l++[ancOf l o]) (fun k=>by have:=hos (k+1);simpa [Nat.add_assoc,Nat.add_comm 1 k] using this) (fun j i hS hb=>?_)
  by_cases e:j=l.length
  ·subst e
   have hg:(l++[ancOf l o]).getD l.length 0=ancOf l o:=by simp [List.getD_eq_getElem?_getD]
   rw [hg] at hb
   obtain ⟨e,he,hbi,h2⟩:=Abr l o i hb
   have hSe:=hc l.length o hS (by simpa using (hos 0).symm) e he hbi
   rcases h2 with h2|h2
   ·exact h2▸hSe
   ·exact h _ i hSe h2
  ·by_cases e2:j<l.length
   ·have hg:(l++[ancOf l o]).getD j 0=l.getD j 0:=by simp [List.getD_eq_getElem?_getD,List.getElem?_append_left e2]
    rw [hg] at hb
    exact h j i hS hb
   ·have hg : (l ++ [ancOf l o]).getD j 0 = 0 := by
     rw [List.getD_eq_getElem?_getD,List.getElem?_eq_none (by simp;omega)];rfl
    rw [hg] at hb
    simp at hb
theorem O4 {x y:List Nat×List Nat} (h:conf x y=false):(∀ t∈x.1,t ∉ y.1∧t ∉ y.2)∧∀ t∈y.1,t ∉ x.2:=by
 simp only [conf,Bool.or_eq_false_iff,List.any_eq_false] at h
 refine ⟨fun t ht=>?_,fun t ht=>?_⟩
 ·have:=h.1 t ht
  simp at this
  exact this
 ·have:=h.2 t ht
  simpa using this
theorem N1 (p q:Nat→Bool) (i:Nat) (hp:p i=true) (hq:q i=false) (hpq:∀ j,j≠i→q j=p j):∀ n,i<n→(List.range n).countP p=(List.range n).countP q+1
 | 0,h=>by omega
 | n+1,h=>by
  simp only [List.range_succ,List.countP_append,List.countP_cons,List.countP_nil]
  by_cases e:i=n
  ·subst e
   have:(List.range i).countP p=(List.range i).countP q:=List.countP_congr (fun x hx=>by rw [hpq x (by have:=List.mem_range.1 hx;omega)])
   simp [this,hp,hq]
  ·have ih:=N1 p q i hp hq hpq n (by omega)
   rw [ih,hpq n (by omega)]
   omega
section
variable {C:Ctx} {n:Nat} {tt:Tt}
theorem Ahn {P : Program} {C0 : Ctx} (hP : TtOk P tt) (md : FuncId → List Bool) (hn1 : n ≤ 1000000) {ops : Array Oper} {Q : Exit → Act → World → Prop} {E : Nat → List (Nat × Slot)} {RR : Nat → List Nat} {env0 : Env}
  (hok:∀ o∈ops.toList,opOk n o=true)
  (hsat:∀ j o,ops[j]? = some o→(gRd tt md ops j o).sat (AFn P) (pre E (fun _=>true) env0 j) (E j) (RR j))
  (hback:∀ j o,ops[j]? = some o→∀ e∈o.after.toList,Region.binds .any e=true→e.on<j)
  (hconf:∀ i j,i<j→j<ops.size→conf (wr (E i),RR i) (wr (E j),RR j)=false∨((ancs ops.toList []).getD j 0).testBit i=true)
  (hQ:∀ a w,FRe C0 n (pre E (fun _=>true) env0 ops.size) a w→Q .normal a w) :
  ∀ (fuel:Nat) (listed:Array Bool) (a:Act) (w:World) (C:Ctx),C.P=P→Ext C0 C→listed.size=ops.size→
   (∀ j o,listed.getD j false=true→ops[j]? = some o→∀ e∈o.after.toList,Region.binds .any e=true→listed.getD e.on false=true)→
   (List.range ops.size).countP (fun j=>!listed.getD j false)=fuel→FR C n (pre E (fun j=>listed.getD j false) env0 ops.size) a w→wpAny P .any ops Q fuel listed a w:=by
 have hlt:∀ (listed:Array Bool),listed.size=ops.size→∀ j,j<ops.size→listed.getD j true=listed.getD j false:=fun listed hs j hj=>by
  simp [Array.getD,hs,hj]
 intro fuel
 induction fuel with
 | zero=>
  intro listed a w C hCP hE hs hc hcnt hF
  have hall:∀ j,j<ops.size→listed.getD j false=true:=fun j hj=>by
   have:=List.countP_eq_zero.1 hcnt j (List.mem_range.2 hj)
   simpa using this
  refine ⟨?_,hQ a w ⟨C,hE,hF.congr fun t=>Gv _ _ _ _ _ _ (fun j hj _=>(hall j hj).symm)⟩⟩
  cases hr:Region.ready .any ops listed with
  | nil=>rfl
  | cons x xs=>
   have hx:x∈Region.ready .any ops listed:=by rw [hr];simp
   obtain ⟨h1,o,h2,_⟩:=mem_ready.1 hx
   have hxs:x<ops.size:=(Array.getElem?_eq_some_iff.1 h2).1
   rw [hlt listed hs x hxs,hall x hxs] at h1
   cases h1
 | succ fuel ih=>
  intro listed a w C hCP hE hs hc hcnt hF
  subst hCP
  refine ⟨fun hr=>?_,fun i hi=>?_⟩
  ·exfalso
   have hex:∃ j,j<ops.size∧listed.getD j false=false:=by
    refine Classical.byContradiction fun hno=>?_
    have:(List.range ops.size).countP (fun j=>!listed.getD j false)=0:=List.countP_eq_zero.2 (fun j hj=>by
     intro hb
     exact hno ⟨j,List.mem_range.1 hj,by simpa using hb⟩)
    omega
   have hmin:∀ k,(∀ j,j<k→listed.getD j false=true)∨∃ j,j<k∧listed.getD j false=false∧∀ i,i<j→listed.getD i false=true:=by
    intro k
    induction k with
    | zero=>exact .inl (fun j hj=>by omega)
    | succ k ihk=>
     rcases ihk with h|⟨j,h1,h2,h3⟩
     ·cases hk:listed.getD k false with
      | true => exact .inl (fun j hj => by
        by_cases e:j=k
        ·rw [e];exact hk
        ·exact h j (by omega))
      | false=>exact .inr ⟨k,by omega,hk,h⟩
     ·exact .inr ⟨j,by omega,h2,h3⟩
   obtain ⟨j0,hj0,hj0f⟩:=hex
   rcases hmin ops.size with h|⟨j,h1,h2,h3⟩
   ·rw [h j0 hj0] at hj0f;cases hj0f
   ·have : j ∈ Region.ready .any ops listed := by
     refine mem_ready.2 ⟨by rw [hlt listed hs j h1];exact h2,ops[j],by simp [h1],fun e he hb=>h3 _ (hback j ops[j] (by simp [h1]) e (by simpa using he) hb)⟩
    rw [hr] at this
    cases this
  ·obtain ⟨h1,o,ho,hall⟩:=mem_ready.1 hi
   have his:i<ops.size:=(Array.getElem?_eq_some_iff.1 ho).1
   rw [hlt listed hs i his] at h1
   have hset:∀ j,(listed.setIfInBounds i true).getD j false=if j=i then true else listed.getD j false:=fun j=>by
    by_cases e:j=i
    ·subst e;simp [hs,his]
    ·rw [if_neg e,getD_set_ne false (fun h=>e h.symm)]
   have hc':∀ j o,(listed.setIfInBounds i true).getD j false=true→ops[j]? = some o→∀ e∈o.after.toList,Region.binds .any e=true→(listed.setIfInBounds i true).getD e.on false=true:=by
    intro j o' hj ho' e he hb
    by_cases e1:j=i
    ·subst e1
     rw [ho] at ho'
     cases ho'
     exact getD_set_true (hall e (by simpa using he) hb)
    ·rw [hset j,if_neg e1] at hj
     exact getD_set_true (hc j o' hj ho' e he hb)
   have hanc:∀ j k,(listed.setIfInBounds i true).getD j false=true→((ancs ops.toList []).getD j 0).testBit k=true→(listed.setIfInBounds i true).getD k false=true:=
    Ml _ ops hc' ops.toList [] (fun k=>by simp) (fun j i _ hb=>by simp at hb)
   have hi':(listed.setIfInBounds i true).getD i false=true:=by rw [hset];simp
   have hbefore:∀ k,k<i→conf (wr (E k),RR k) (wr (E i),RR i)=true→listed.getD k false=true:=fun k hk hcf=>by
    rcases hconf k i hk his with h|h
    ·rw [h] at hcf;cases hcf
    ·have:=hanc i k hi' h
     rwa [hset,if_neg (by omega)] at this
   have hafter:∀ k,i<k→k<ops.size→conf (wr (E i),RR i) (wr (E k),RR k)=true→listed.getD k false=false:=fun k hk hks hcf=>by
    rcases hconf i k hk hks with h|h
    ·rw [h] at hcf;cases hcf
    ·cases hl:listed.getD k false with
     | false=>rfl
     | true=>
      have hcl:listed.getD i false=true:=Ml (fun j=>listed.getD j false) ops hc ops.toList [] (fun k=>by simp) (fun j i _ hb=>by simp at hb) k i hl h
      rw [h1] at hcl;cases hcl
   have hcA:∀ {x y:List Nat×List Nat} (t:Nat),t∈x.1→(t∈y.1∨t∈y.2)→conf x y=true:=fun {x y} t h1 h2=>by
    cases hcf:conf x y with
    | true=>rfl
    | false=>obtain ⟨g1,_⟩:=O4 hcf;have:=g1 t h1;exact (h2.elim this.1 this.2).elim
   have hcB:∀ {x y:List Nat×List Nat} (t:Nat),t∈y.1→t∈x.2→conf x y=true:=fun {x y} t h1 h2=>by
    cases hcf:conf x y with
    | true=>rfl
    | false=>obtain ⟨_,g2⟩:=O4 hcf;exact (g2 t h1 h2).elim
   have hreads:∀ t∈RR i,lk (pre E (fun j=>listed.getD j false) env0 ops.size) t=lk (pre E (fun _=>true) env0 i) t:=fun t ht=>by
    rw [Tc E env0 t _ i ops.size (by omega) (fun j h2 h3 h4=>by
     by_cases e:j=i
     ·rw [e];exact h1
     ·exact hafter j (by omega) h3 (hcB t h4 ht))]
    exact Gv _ _ _ _ _ _ (fun j hj h4=>hbefore j hj (hcA t h4 (.inr ht)))
   refine Lv hP md hF hn1 ho (hok o (by
    rw [Array.mem_toList_iff];exact Array.mem_of_getElem? ho)) (Rd.sat_local _ _ _ _ _ (hsat i o ho) hreads) (fun a' w' ⟨C',hE',hF'⟩=>?_)
   refine ih (listed.setIfInBounds i true) a' w' C' hE'.P (hE.trans hE') (by simpa using hs) hc' ?_ (hF'.congr fun t=>?_)
   ·have:=N1 (fun j=>!listed.getD j false) (fun j=>!(listed.setIfInBounds i true).getD j false) i (by show (!listed.getD i false)=true;rw [h1];rfl) (by show (!(listed.setIfInBounds i true).getD i false)=false;rw [hi'];rfl) (fun j hj=>by rw [hset,if_neg hj]) ops.size his
    omega
   ·by_cases ht:t∈wr (E i)
    ·have hno : ∀ j, i < j → j < ops.size → t ∈ wr (E j) → (listed.setIfInBounds i true).getD j false = false := fun j h2 h3 h4 => by
      rw [hset,if_neg (by omega)]
      exact hafter j h2 h3 (hcA t ht (.inl h4))
     rw [Tc E env0 t _ (i+1) ops.size (by omega) (fun j h2 h3 h4=>hno j (by omega) h3 h4)]
     simp only [pre,hi',if_true]
     exact L0 _ _ _ _ ht
    ·rw [He _ _ _ ht]
     exact Gv _ _ _ _ _ _ (fun j hj h4=>by
      rw [hset]
      by_cases e:j=i
      ·subst e;exact absurd h4 ht
      ·rw [if_neg e])
theorem FR.draw {env:Env} {a:Act} {w:World} (h:FR C n env a w):FR C n env a { w with drawn:=w.drawn+1 }:=
 ⟨h.defers,h.size,let ⟨κ,V,h1,h2⟩:=h.inv;⟨κ,V,h1.ext rfl rfl rfl (Nat.le_refl _) (fun _ _=>rfl),h2⟩⟩
theorem Ab7 (hm : C.P.follows .mixedOrders = true) (hP : TtOk C.P tt) (md : FuncId → List Bool) (hn1 : n ≤ 1000000) {ops : Array Oper} {id : Nat} {env : Env} {a : Act} {w : World} {Q : Exit → Act → World → Prop} {QE : Env → Prop} (hok : ops.toList.all (opOk n) = true) (hF : FR C n env a w)
  (h:rgn (AFn C.P) (fun tr=>okB ops tr=true) QE (gRds tt md ops ops.toList 0) env []) (hQ:∀ env' a' w',QE env'→FRe C n env' a' w'→Q .normal a' w'):(Code.region id ops true).wp C.P Q a w:=by
 obtain ⟨tr,env',h1,h2,h3⟩:=M1 _ _ _ h
 refine wp_region_any hm ?_
 obtain ⟨g1,g2,g3⟩:=Txt.pre (E:=fun j=>(tr.getD j ([],[])).1) (RR:=fun j=>(tr.getD j ([],[])).2) (env0:=env) ops.toList 0 env tr env' h1 (fun j _=>by simp) rfl
 simp only [okB,Bool.and_eq_true,List.all_eq_true,List.mem_range] at h2
 obtain ⟨k1,k2⟩:=h2
 refine Ahn (C0 := C) hP md hn1 (E := fun j => (tr.getD j ([], [])).1) (RR := fun j => (tr.getD j ([], [])).2) (env0 := env) (fun o ho => List.all_eq_true.1 hok o ho) (fun j o ho => by
   have:=g1 j o (by simpa using ho)
   simpa using this) (fun j o ho e he hb=>?_) (fun i j hij hj=>?_) (fun a' w' hF'=>hQ env' a' w' h3 (by rw [g2];simpa using hF')) ops.size _ a _ C rfl (.refl C) (by simp) (fun j o hj ho=>?_) ?_ (hF.draw.congr fun t=>?_)
 ·have hjs:j<ops.size:=(Array.getElem?_eq_some_iff.1 ho).1
  have:=k1 j hjs
  rw [ho] at this
  simp only [Option.map_some,Option.getD_some,Array.all_eq_true_iff_forall_mem] at this
  have:=this e (by simpa using he)
  simpa [hb] using this
 ·have:=k2 j hj i hij
  simp only [List.nil_append,List.reverse_nil,Bool.or_eq_true,Bool.not_eq_true'] at this
  rcases this with h|h
  ·left
   simp only [List.getD_eq_getElem?_getD,List.getElem?_map] at h ⊢
   have hi':i<tr.length:=by rw [g3];simpa using (by omega:i<ops.size)
   have hj':j<tr.length:=by rw [g3];simpa using hj
   simpa [hi',hj',wr] using h
  ·exact .inr h
 ·rw [show (Array.replicate ops.size false).getD j false=false by simp [Array.getD]] at hj
  cases hj
 ·have:(List.range ops.size).countP (fun j=>!(Array.replicate ops.size false).getD j false)=(List.range ops.size).length:=List.countP_eq_length.2 (fun j hj=>by simp [Array.getD])
  rw [this,List.length_range]
 ·rw [Gv _ _ (fun _=>false) _ _ _ (fun j hj _=>by simp [Array.getD])]
  have:∀ k,pre (fun j=>(tr.getD j ([],[])).1) (fun _=>false) env k=env:=fun k=>by
   induction k with
   | zero=>rfl
   | succ k ih=>simpa [pre] using ih
  rw [this]
end
end
section
mutual
def T.refsIn (S:Nat→Bool):T→Bool
 | .ref s _ _=>S s
 | .addr s _ _ _ _=>S s
 | .agg l=>T.refsInL S l
 | .tup l=>T.refsInL S l
 | .fn _ l=>T.refsInL S l
 | _=>true
def T.refsInL (S:Nat→Bool):List T→Bool
 | []=>true
 | t::l=>t.refsIn S&&T.refsInL S l
end
mutual
theorem Lx (X X' : Cx) (S : Nat → Bool) (hsz : X'.sz = X.sz) (hF : X'.F = X.F) (hw : X'.w = X.w) (hk : X'.kap = X.kap) (hr : ∀ u k, S u = true → X.old u k → X'.old u k) (hn : ∀ u k q, X'.node u k q → X.node u k q) (s : Nat) :
  ∀ (t:T) (p:List Nat) (cs:List Value),t.noOwn=true→t.refsIn S=true→CR X s p t cs→CR X' s p t cs
 | .int ..,_,_,_,_,h=>by simpa only [CR] using h
 | .bool ..,_,_,_,_,h=>by simpa only [CR] using h
 | .str ..,_,_,_,_,h=>by simp only [CR] at h ⊢;exact ⟨h.1,Con.ok_mono (fun b hb=>⟨by rw [hF];exact hb,by rw [hw]⟩) h.2⟩
 | .any,_,_,_,_,h=>by simpa only [CR] using h
 | .nil,_,_,_,_,h=>by simpa only [CR] using h
 | .sl true e l,p,cs,c,_,h=>by simp [T.noOwn] at c
 | .win ..,p,cs,c,_,h=>by simp [T.noOwn] at c
 | .sl false e l,p,cs,c,_,h=>by
  have h':=h
  simp only [CR] at h'
  obtain ⟨_,_,_,_,_,_,h4,_⟩:=h'
  exact Av X X' s s hsz (fun b hb=>⟨by rw [hF];exact hb,by rw [hw]⟩) (.sl false e l) p p cs (by simpa [T.pure] using h4) h
 | .box e t,p,cs,c,_,h=>by simp [T.noOwn] at c
 | .fptr t,p,cs,c,_,h=>by
  have h':=h
  simp only [CR] at h'
  obtain ⟨_,_,_,_,_,_,_,_,_,h4,_⟩:=h'
  exact Av X X' s s hsz (fun b hb=>⟨by rw [hF];exact hb,by rw [hw]⟩) (.fptr t) p p cs (by simpa [T.pure] using h4) h
 | .agg l,p,cs,c,g,h=>by
  simp only [CR] at h ⊢
  exact Pv X X' S hsz hF hw hk hr hn s l p 0 _ (by simpa [T.noOwn] using c) (by simpa [T.refsIn] using g) h
 | .tup l,p,cs,c,g,h=>by
  simp only [CR] at h ⊢
  obtain ⟨vs,hcs,h1⟩:=h
  exact ⟨vs,hcs,Kp X X' S hsz hF hw hk hr hn s l p 0 _ (by simpa [T.noOwn] using c) (by simpa [T.refsIn] using g) h1⟩
 | .fn f l,p,cs,c,g,h=>by
  simp only [CR] at h ⊢
  obtain ⟨vs,hcs,h1⟩:=h
  exact ⟨vs,hcs,Kp X X' S hsz hF hw hk hr hn s l p 0 _ (by simpa [T.noOwn] using c) (by simpa [T.refsIn] using g) h1⟩
 | .ref u k q,p,cs,c,g,h=>by
  simp only [CR] at h ⊢
  obtain ⟨v,hcs,h1,h2⟩:=h
  refine ⟨v,hcs,hr u k (by simpa [T.refsIn] using g) h1,fun hn'=>?_⟩
  rw [hk];exact h2 (hn u k q hn')
 | .addr u k q off sub,p,cs,c,g,h=>by
  simp only [CR] at h ⊢
  obtain ⟨v,hcs,h1,h2⟩:=h
  refine ⟨v,hcs,hr u k (by simpa [T.refsIn] using g) h1,fun hn'=>?_⟩
  rw [hk];exact h2 (hn u k q hn')
theorem Pv (X X' : Cx) (S : Nat → Bool) (hsz : X'.sz = X.sz) (hF : X'.F = X.F) (hw : X'.w = X.w) (hk : X'.kap = X.kap) (hr : ∀ u k, S u = true → X.old u k → X'.old u k) (hn : ∀ u k q, X'.node u k q → X.node u k q) (s : Nat) :
  ∀ (l:List T) (p:List Nat) (i:Nat) (cs:List Value),T.noOwnL l=true→T.refsInL S l=true→CRL X s p i l cs→CRL X' s p i l cs
 | [],_,_,_,_,_,h=>by simpa only [CRL] using h
 | t::l,p,i,cs,c,g,h=>by
  simp only [CRL] at h ⊢
  simp only [T.noOwnL,Bool.and_eq_true] at c
  simp only [T.refsInL,Bool.and_eq_true] at g
  exact ⟨Lx X X' S hsz hF hw hk hr hn s t _ _ c.1 g.1 h.1,Pv X X' S hsz hF hw hk hr hn s l p (i+1) _ c.2 g.2 h.2⟩
theorem Kp (X X' : Cx) (S : Nat → Bool) (hsz : X'.sz = X.sz) (hF : X'.F = X.F) (hw : X'.w = X.w) (hk : X'.kap = X.kap) (hr : ∀ u k, S u = true → X.old u k → X'.old u k) (hn : ∀ u k q, X'.node u k q → X.node u k q) (s : Nat) :
  ∀ (l:List T) (p:List Nat) (i:Nat) (vs:List Value),T.noOwnL l=true→T.refsInL S l=true→CRT X s p i l vs→CRT X' s p i l vs
 | [],_,_,_,_,_,h=>by simpa only [CRT] using h
 | t::l,p,i,vs,c,g,h=>by
  simp only [CRT] at h ⊢
  simp only [T.noOwnL,Bool.and_eq_true] at c
  simp only [T.refsInL,Bool.and_eq_true] at g
  obtain ⟨⟨v,cs,h1,h2,h3⟩,h4⟩:=h
  exact ⟨⟨v,cs,h1,h2,Lx X X' S hsz hF hw hk hr hn s t _ _ c.1 g.1 h3⟩,Kp X X' S hsz hF hw hk hr hn s l p (i+1) _ c.2 g.2 h4⟩
end
def hasSlot (env:Env) (t:Nat):Bool:=env.any fun x=>x.1==t
def Sub:Env→Env→Prop
 | [],_=>True
 | (t,s)::r,env=>lk env t=some s∧Sub r env
def SV.refsIn (S:Nat→Bool):SV→Bool
 | .val y=>y.refsIn S
 | _=>true
def refsOk (env:Env):Bool:=env.all fun x=>x.2.sv.refsIn (hasSlot env)
theorem Pa:∀ (env:Env) (t:Nat) (s:Slot),lk env t=some s→(t,s)∈env
 | [],_,_,h=>by simp [lk] at h
 | (u,x)::r,t,s,h=>by
  simp only [lk] at h
  split at h
  ·rename_i e;subst e;cases h;simp
  ·exact List.mem_cons_of_mem _ (Pa r t s h)
theorem Sub.mem:∀ (e1 env:Env) (t:Nat) (s:Slot),Sub e1 env→(t,s)∈e1→lk env t=some s
 | [],_,_,_,_,h=>by simp at h
 | (u,x)::r,env,t,s,hs,h=>by
  rcases List.mem_cons.1 h with h|h
  ·cases h;exact hs.1
  ·exact Sub.mem r env t s hs.2 h
theorem Sub.lk {e1 env:Env} (h:Sub e1 env) {t:Nat} {s:Slot} (hl:Go.Proofs.YtapdekacpecgiaaGreat.lk e1 t=some s):Go.Proofs.YtapdekacpecgiaaGreat.lk env t=some s:=
 h.mem e1 env t s (Pa _ _ _ hl)
theorem Afr:∀ (env:Env) (t:Nat),hasSlot env t=true→∃ s,lk env t=some s
 | [],_,h=>by simp [hasSlot] at h
 | (u,x)::r,t,h=>by
  simp only [lk]
  by_cases e:u=t
  ·exact ⟨x,by rw [if_pos e]⟩
  ·rw [if_neg e]
   refine Afr r t ?_
   simp only [hasSlot,List.any_cons,Bool.or_eq_true,beq_iff_eq] at h
   simpa [hasSlot] using h.resolve_left e
section
variable {C:Ctx} {env:Env} {V:Nat→Value} {w:World} {κ:Kap} {a:Act} {n:Nat} {tt:Tt} {P:Program}
theorem Inv.sub {e1:Env} (hs:Sub e1 env) (hr:refsOk e1=true) (h:Inv C env V w κ):Inv C e1 V w κ:=by
 have ho:∀ u k,hasSlot e1 u=true→(cx C env w κ).old u k→(cx C e1 w κ).old u k:=fun u k h1 h2=>by
  obtain ⟨s,h3⟩:=Afr e1 u h1
  obtain ⟨x,h4,h5⟩:=h2
  rw [hs.lk h3] at h4
  cases h4
  exact ⟨s,h3,h5⟩
 have hn:∀ u k q,(cx C e1 w κ).node u k q→(cx C env w κ).node u k q:=fun u k q h1=>by
  obtain ⟨T0,nd,h2,h3⟩:=h1
  exact ⟨T0,nd,hs.lk h2,h3⟩
 refine ⟨h.os,h.tape,h.output,h.size,h.frozen,h.col,h.inj,fun t k x hx=>?_,fun t k x hx=>?_,fun t k hx=>h.und t k (hs.lk hx),fun u0 p0 b v hb T0 nd h0=>h.pin u0 p0 b v hb T0 nd (hs.lk h0),fun b v hb k T0 h0=>h.root b v hb k T0 (hs.lk h0)⟩
 ·obtain ⟨h1,cs,h2,h3⟩:=h.val t k x (hs.lk hx)
  have h4:x.refsIn (hasSlot e1)=true:=by
   have:=List.all_eq_true.1 hr _ (Pa _ _ _ hx)
   simpa [SV.refsIn] using this
  exact ⟨h1,cs,h2,Lx (cx C env w κ) (cx C e1 w κ) (hasSlot e1) rfl rfl rfl rfl ho hn t x [] cs h1 h4 h3⟩
 ·obtain ⟨h1,cs,h2,h3⟩:=h.own t k x (hs.lk hx)
  exact ⟨h1,cs,h2,E3 (X:=cx C env w κ) (X':=cx C e1 w κ) rfl rfl rfl rfl t x [] cs h1 h3⟩
theorem FR.sub {e1:Env} (hs:Sub e1 env) (hr:refsOk e1=true) (h:FR C n env a w):FR C n e1 a w:=
 ⟨h.defers,h.size,let ⟨κ,V,h1,h2⟩:=h.inv;⟨κ,V,h1.sub hs hr,h2⟩⟩
def AWP (C:Ctx) (n:Nat) (c:Code) (Q:Exit→Env→Prop) (env:Env):Prop:=
 ∀ C1,Ext C C1→∀ a w,FR C1 n env a w→c.wp C1.P (fun e a' w'=>∃ C2 env',Ext C1 C2∧Q e env'∧FR C2 n env' a' w') a w
def thenQ (K:Env→Prop) (Q:Exit→Env→Prop):Exit→Env→Prop
 | .normal,env=>K env
 | e,env=>Q e env
def blockQ (id:Nat) (Q:Exit→Env→Prop):Exit→Env→Prop
 | .exit i,env=>if i=id then Q .normal env else Q (.exit i) env
 | e,env=>Q e env
variable {Q:Exit→Env→Prop}
theorem AWP.mono {c:Code} {Q':Exit→Env→Prop} (h:AWP C n c Q env) (hq:∀ e env,Q e env→Q' e env):AWP C n c Q' env:=fun C1 hE a w hF=>
 wp_mono (h C1 hE a w hF) (fun e _ _ ⟨C2,env',h0,h1,h2⟩=>⟨C2,env',h0,hq e env' h1,h2⟩)
theorem AWP.sub {c:Code} {e1:Env} (hs:Sub e1 env) (hr:refsOk e1=true) (h:AWP C n c Q e1):AWP C n c Q env:=fun C1 hE a w hF=>h C1 hE a w (hF.sub hs hr)
theorem AWP.ext {c:Code} {C':Ctx} (hE:Ext C C') (h:AWP C n c Q env):AWP C' n c Q env:=fun C1 hE1 a w hF=>h C1 (hE.trans hE1) a w hF
theorem AWP.skip (h:Q .normal env):AWP C n .skip Q env:=fun C1 _ _ _ hF=>wp_skip ⟨C1,env,.refl C1,h,hF⟩
theorem AWP.label {l:Nat} (h:Q .normal env):AWP C n (.label l) Q env:=fun C1 _ _ _ hF=>wp_label ⟨C1,env,.refl C1,h,hF⟩
theorem AWP.exit {id:Nat} (h:Q (.exit id) env):AWP C n (.exit id) Q env:=fun C1 _ _ _ hF=>wp_exit ⟨C1,env,.refl C1,h,hF⟩
theorem AWP.ret (h:Q .ret env):AWP C n .ret Q env:=fun C1 _ _ _ hF=>wp_ret ⟨C1,env,.refl C1,h,hF⟩
theorem AWP.seq {x y:Code} (h:AWP C n x (thenQ (AWP C n y Q) Q) env):AWP C n (.seq x y) Q env:=fun C1 hE a w hF=>
 wp_seq (wp_mono (h C1 hE a w hF) (fun e a' w' ⟨C2,env',h0,h1,h2⟩=>by
  cases e with
  | normal=>
   have h3:=h1 C2 (hE.trans h0) a' w' h2
   rw [h0.P] at h3
   exact wp_mono h3 (fun e _ _ ⟨C3,env',g0,g1,g2⟩=>⟨C3,env',h0.trans g0,g1,g2⟩)
  | _=>exact ⟨C2,env',h0,h1,h2⟩))
theorem AWP.block {id:Nat} {c:Code} (h:AWP C n c (blockQ id Q) env):AWP C n (.block id c) Q env:=fun C1 hE a w hF=>
 wp_block (wp_mono (h C1 hE a w hF) (fun e a' w' ⟨C2,env',h0,h1,h2⟩=>by
  cases e with
  | exit i=>
   simp only [blockQ] at h1
   simp only [Exit.inBlock]
   split at h1
   ·rename_i hi;rw [if_pos hi];exact ⟨C2,env',h0,h1,h2⟩
   ·rename_i hi;rw [if_neg hi];exact ⟨C2,env',h0,h1,h2⟩
  | _=>exact ⟨C2,env',h0,h1,h2⟩))
theorem AWP.cond {c:Nat} {x y:Code} {k:Nat} {b:Bool} (hc:c<1000000) (hl:lk env c=some ⟨k,.val (.bool b)⟩) (ht:b=true→AWP C n x Q env) (hf:b=false→AWP C n y Q env):AWP C n (.cond (.tmp c) x y) Q env:=fun C1 hE a w hF=>
 wp_cond_split (t:=b) (Yj hF hc hl) (fun h=>ht h C1 hE a w hF) (fun h=>hf h C1 hE a w hF)
theorem AWP.text (hP : TtOk C.P tt) (md : FuncId → List Bool) (hn1 : n ≤ 1000000) {ops : Array Oper} {id : Nat} (hok : ops.toList.all (opOk n) = true)
  (h:rgn (AFn C.P) (fun _=>True) (Q .normal) (gRds tt md ops ops.toList 0) env []):AWP C n (.region id ops false) Q env:=fun C1 hE _ _ hF=>
 Yb (tt:=tt) (by rw [hE.P];exact hP) md hn1 hok hF (by rw [hE.P];exact h) (fun env' _ _ h1 h2=>by obtain ⟨C2,h3,h4⟩:=h2;exact ⟨C2,env',h3,h1,h4⟩)
theorem AWP.any (hm : C.P.follows .mixedOrders = true) (hP : TtOk C.P tt) (md : FuncId → List Bool) (hn1 : n ≤ 1000000) {ops : Array Oper} {id : Nat} (hok : ops.toList.all (opOk n) = true)
  (h:rgn (AFn C.P) (fun tr=>okB ops tr=true) (Q .normal) (gRds tt md ops ops.toList 0) env []):AWP C n (.region id ops true) Q env:=fun C1 hE _ _ hF=>
 Ab7 (tt:=tt) (by rw [hE.P];exact hm) (by rw [hE.P];exact hP) md hn1 hok hF (by rw [hE.P];exact h) (fun env' _ _ h1 h2=>by obtain ⟨C2,h3,h4⟩:=h2;exact ⟨C2,env',h3,h1,h4⟩)
theorem AWP.freeze (s:Nat) {k:Nat} {T0:T} {c:Code} (hs:lk env s=some ⟨k,.own T0⟩) (h:AWP C n c Q ((s,⟨k,.val T0.freeze⟩)::env)):AWP C n c Q env:=fun C1 hE a w hF=>by
 obtain ⟨C2,hE2,hF2⟩:=hF.freeze hs
 have h1:=h C2 (hE.trans hE2) a w hF2
 rw [hE2.P] at h1
 exact wp_mono h1 (fun e _ _ ⟨C3,env',g0,g1,g2⟩=>⟨C3,env',hE2.trans g0,g1,g2⟩)
theorem H2 (p:Nat→Prop) (h:∃ m,p m):∃ m,p m∧∀ k,p k→m≤k:=by
 obtain ⟨m,hm⟩:=h
 induction m using Nat.strongRecOn with
 | _ m ih=>
  by_cases hh:∃ k,k<m∧p k
  ·obtain ⟨k,hk,hpk⟩:=hh
   exact ih k hk hpk
  ·exact ⟨m,hm,fun k hk=>Nat.le_of_not_lt (fun hlt=>hh ⟨k,hlt,hk⟩)⟩
open Classical in
noncomputable def leastOf (p:Nat→Prop):Nat:=if h:∃ m,p m then Classical.choose (H2 p h) else 0
theorem Lp {p:Nat→Prop} (h:∃ m,p m):p (leastOf p)∧∀ k,p k→leastOf p≤k:=by
 unfold leastOf
 rw [dif_pos h]
 exact Classical.choose_spec (H2 p h)
theorem AWP.loop {α : Type} {c : Code} (sh : α → Env) (I : α → Prop) (μ : α → Nat) (x0 : α) (h0 : I x0) (hr : ∀ x, refsOk (sh x) = true) (hs : Sub (sh x0) env)
  (round:∀ x,I x→AWP C n c (thenQ (fun env'=>∃ y,I y∧μ y<μ x∧Sub (sh y) env') Q) (sh x)):AWP C n (.loop c) Q env:=fun C1 hE a w hF=>by
 let st:Act→World→Nat→Prop:=fun a w m=>∃ C2 x,Ext C1 C2∧I x∧μ x=m∧FR C2 n (sh x) a w
 refine wp_loop (fun a w=>∃ m,st a w m) (fun a w=>leastOf (st a w)) ⟨μ x0,C1,x0,.refl C1,h0,rfl,hF.sub hs (hr x0)⟩ (fun a w hI=>?_)
 obtain ⟨⟨C2,x,hE2,hx,hm,hF'⟩,_⟩:=Lp hI
 have h1:=round x hx C2 (hE.trans hE2) a w hF'
 rw [hE2.P] at h1
 refine wp_mono h1 (fun e a' w' ⟨C3,env',g0,h1,h2⟩=>?_)
 cases e with
 | normal=>
  obtain ⟨y,hy,hlt,hsub⟩:=h1
  have hy':st a' w' (μ y):=⟨C3,y,hE2.trans g0,hy,rfl,h2.sub hsub (hr y)⟩
  exact ⟨⟨_,hy'⟩,Nat.lt_of_le_of_lt ((Lp ⟨_,hy'⟩).2 _ hy') (by rw [← hm];exact hlt)⟩
 | _=>exact ⟨C3,env',hE2.trans g0,h1,h2⟩
end
end
section
mutual
def T.noF:T→Bool
 | .sl o _ l=>o&&T.noFL l
 | .win _ _ _ l=>T.noFL l
 | .fptr _=>false
 | .str c=>c.free
 | .box _ t=>t.noF
 | .agg l=>T.noFL l
 | .tup l=>T.noFL l
 | .fn _ l=>T.noFL l
 | _=>true
def T.noFL:List T→Bool
 | []=>true
 | t::l=>t.noF&&T.noFL l
end
mutual
theorem O1 (X X' : Cx) (hsz : X'.sz = X.sz) (hw : X'.w = X.w) (hk : X'.kap = X.kap) (ho : X'.old = X.old) (hn : X'.node = X.node) (s : Nat) :
  ∀ (t:T) (p:List Nat) (cs:List Value),t.noF=true→CR X s p t cs→CR X' s p t cs
 | .int ..,_,_,_,h=>by simpa only [CR] using h
 | .bool ..,_,_,_,h=>by simpa only [CR] using h
 | .str ..,_,_,c,h=>by simp only [CR] at h ⊢;exact ⟨h.1,Con.ok_free X' (by simpa [T.noF] using c)⟩
 | .any,_,_,_,h=>by simpa only [CR] using h
 | .nil,_,_,_,h=>by simpa only [CR] using h
 | .sl true e l,p,cs,c,h=>by
  simp only [CR] at h ⊢
  obtain ⟨b,cap,cur,h1,h2,h3,h4,h5,h6,h7,h8⟩:=h
  exact ⟨b,cap,cur,h1,by rw [hw];exact h2,by rw [hk];exact h3,h4,h5,by rw [hsz];exact h6,by rw [hsz];exact h7,
   by rw [hsz];exact M2 X X' hsz hw hk ho hn s l p 0 _ (by simpa [T.noF] using c) h8⟩
 | .win e kk hh l,p,cs,c,h=>by
  simp only [CR] at h ⊢
  obtain ⟨b,cap,cur,h1,h2,h3,h4,h5,h6,h7,h8⟩:=h
  exact ⟨b,cap,cur,h1,by rw [hw];exact h2,by rw [hk];exact h3,h4,h5,by rw [hsz];exact h6,by rw [hsz];exact h7,
   by rw [hsz];exact M2 X X' hsz hw hk ho hn s l p 0 _ (by simpa [T.noF] using c) h8⟩
 | .sl false e l,p,cs,c,h=>by simp [T.noF] at c
 | .box e t,p,cs,c,h=>by
  simp only [CR] at h ⊢
  obtain ⟨b,cur,h1,h2,h3,h4,h5,h6⟩:=h
  exact ⟨b,cur,h1,by rw [hw];exact h2,by rw [hk];exact h3,by rw [hsz];exact h4,h5,O1 X X' hsz hw hk ho hn s t _ _ (by simpa [T.noF] using c) h6⟩
 | .fptr t,p,cs,c,h=>by simp [T.noF] at c
 | .agg l,p,cs,c,h=>by
  simp only [CR] at h ⊢
  exact M2 X X' hsz hw hk ho hn s l p 0 _ (by simpa [T.noF] using c) h
 | .tup l,p,cs,c,h=>by
  simp only [CR] at h ⊢
  obtain ⟨vs,hcs,h1⟩:=h
  exact ⟨vs,hcs,Qm X X' hsz hw hk ho hn s l p 0 _ (by simpa [T.noF] using c) h1⟩
 | .fn f l,p,cs,c,h=>by
  simp only [CR] at h ⊢
  obtain ⟨vs,hcs,h1⟩:=h
  exact ⟨vs,hcs,Qm X X' hsz hw hk ho hn s l p 0 _ (by simpa [T.noF] using c) h1⟩
 | .ref u k q,p,cs,_,h=>by
  simp only [CR] at h ⊢
  rw [hk,ho,hn];exact h
 | .addr u k q off sub,p,cs,_,h=>by
  simp only [CR] at h ⊢
  rw [hk,ho,hn];exact h
theorem M2 (X X' : Cx) (hsz : X'.sz = X.sz) (hw : X'.w = X.w) (hk : X'.kap = X.kap) (ho : X'.old = X.old) (hn : X'.node = X.node) (s : Nat) :
  ∀ (l:List T) (p:List Nat) (i:Nat) (cs:List Value),T.noFL l=true→CRL X s p i l cs→CRL X' s p i l cs
 | [],_,_,_,_,h=>by simpa only [CRL] using h
 | t::l,p,i,cs,c,h=>by
  simp only [CRL] at h ⊢
  simp only [T.noFL,Bool.and_eq_true] at c
  exact ⟨O1 X X' hsz hw hk ho hn s t _ _ c.1 h.1,M2 X X' hsz hw hk ho hn s l p (i+1) _ c.2 h.2⟩
theorem Qm (X X' : Cx) (hsz : X'.sz = X.sz) (hw : X'.w = X.w) (hk : X'.kap = X.kap) (ho : X'.old = X.old) (hn : X'.node = X.node) (s : Nat) :
  ∀ (l:List T) (p:List Nat) (i:Nat) (vs:List Value),T.noFL l=true→CRT X s p i l vs→CRT X' s p i l vs
 | [],_,_,_,_,h=>by simpa only [CRT] using h
 | t::l,p,i,vs,c,h=>by
  simp only [CRT] at h ⊢
  simp only [T.noFL,Bool.and_eq_true] at c
  obtain ⟨⟨v,cs,h1,h2,h3⟩,h4⟩:=h
  exact ⟨⟨v,cs,h1,h2,O1 X X' hsz hw hk ho hn s t _ _ c.1 h3⟩,Qm X X' hsz hw hk ho hn s l p (i+1) _ c.2 h4⟩
end
def RdRes (P:Program) (w:World) (tmps:Array Value) (v:Value):ResultVar→Prop
 | .tmp t=>tmps.getD t undef=v
 | .cell a t=>∃ ad,tmps.getD a undef=.pointer (some ad)∧(loadVar t ad).run P w=.ok v w
mutual
def T.fgt:T→T
 | .sl true e l=>.sl true e (T.fgtL l)
 | .win e k h l=>.win e k h (T.fgtL l)
 | .sl false _ _=>.any
 | .fptr _=>.any
 | .str c=>if c.free then .str c else .any
 | .box e t=>.box e t.fgt
 | .agg l=>.agg (T.fgtL l)
 | .tup l=>.tup (T.fgtL l)
 | .fn _ _=>.any
 | .int k n=>.int k n
 | .bool b=>.bool b
 | .any=>.any
 | .nil=>.nil
 | .ref s k p=>.ref s k p
 | .addr s k p off sub=>.addr s k p off sub
def T.fgtL:List T→List T
 | []=>[]
 | t::l=>t.fgt::T.fgtL l
end
theorem Jh:∀ (l:List T),(T.fgtL l).length=l.length
 | []=>rfl
 | _::l=>by simp [T.fgtL,Jh l]
mutual
theorem J7:∀ (t:T),t.fgt.size=t.size
 | .sl true ..=>rfl
 | .win ..=>rfl
 | .sl false ..=>rfl
 | .fptr ..=>rfl
 | .str c=>by simp only [T.fgt];split <;> rfl
 | .box ..=>rfl
 | .agg l=>by simp only [T.fgt,T.size];exact Rm l
 | .tup ..=>rfl
 | .fn ..=>rfl
 | .int ..=>rfl
 | .bool ..=>rfl
 | .any=>rfl
 | .nil=>rfl
 | .ref ..=>rfl
 | .addr ..=>rfl
theorem Rm:∀ (l:List T),T.sizeL (T.fgtL l)=T.sizeL l
 | []=>rfl
 | t::l=>by simp only [T.fgtL,T.sizeL,J7 t,Rm l]
end
mutual
theorem L4:∀ (t:T),t.fgt.noF=true∧(t.refFree=true→t.fgt.refFree=true)
 | .sl true e l=>by
  have:=Jl l
  simp only [T.fgt,T.noF,T.refFree,Bool.true_and]
  exact this
 | .win e k h l=>by
  have:=Jl l
  simp only [T.fgt,T.noF,T.refFree]
  exact this
 | .sl false ..=>by simp [T.fgt,T.noF,T.refFree]
 | .fptr ..=>by simp [T.fgt,T.noF,T.refFree]
 | .str c=>by
  simp only [T.fgt]
  split
  ·rename_i h;simp [T.noF,T.refFree,h]
  ·simp [T.noF,T.refFree]
 | .box e t=>by
  have:=L4 t
  simp only [T.fgt,T.noF,T.refFree]
  exact this
 | .agg l=>by
  have:=Jl l
  simp only [T.fgt,T.noF,T.refFree]
  exact this
 | .tup l=>by
  have:=Jl l
  simp only [T.fgt,T.noF,T.refFree]
  exact this
 | .fn ..=>by simp [T.fgt,T.noF,T.refFree]
 | .int ..=>by simp [T.fgt,T.noF,T.refFree]
 | .bool ..=>by simp [T.fgt,T.noF,T.refFree]
 | .any=>by simp [T.fgt,T.noF,T.refFree]
 | .nil=>by simp [T.fgt,T.noF,T.refFree]
 | .ref ..=>by simp [T.fgt,T.noF,T.refFree]
 | .addr ..=>by simp [T.fgt,T.noF,T.refFree]
theorem Jl:∀ (l:List T),T.noFL (T.fgtL l)=true∧(T.refFreeL l=true→T.refFreeL (T.fgtL l)=true)
 | []=>by simp [T.fgtL,T.noFL,T.refFreeL]
 | t::l=>by
  have h1:=L4 t
  have h2:=Jl l
  simp only [T.fgtL,T.noFL,T.refFreeL,Bool.and_eq_true]
  exact ⟨⟨h1.1,h2.1⟩,fun h=>⟨h1.2 h.1,h2.2 h.2⟩⟩
end
theorem Yg (t:T) (cs:List Value):mkv t.fgt cs=mkv t cs:=by
 cases t with
 | sl o e l=>cases o <;> rfl
 | str c=>simp only [T.fgt];split <;> rfl
 | _=>rfl
theorem Tz {l:List T} {n:Nat} (h:∀ t∈l,t.size=n):∀ t∈T.fgtL l,t.size=n:=by
 induction l with
 | nil=>intro t ht;simp [T.fgtL] at ht
 | cons x l ih=>
  intro t ht
  simp only [T.fgtL,List.mem_cons] at ht
  rcases ht with rfl|ht
  ·rw [J7];exact h x (by simp)
  ·exact ih (fun y hy=>h y (by simp [hy])) t ht
mutual
theorem Mj (X:Cx) (s:Nat):∀ (t:T) (p:List Nat) (cs:List Value),CR X s p t cs→CR X s p t.fgt cs
 | .int ..,_,_,h=>h
 | .bool ..,_,_,h=>h
 | .any,_,_,h=>h
 | .nil,_,_,h=>h
 | .ref ..,_,_,h=>h
 | .addr ..,_,_,h=>h
 | .str c,p,cs,h=>by
  simp only [T.fgt]
  split
  ·exact h
  ·simp only [CR] at h ⊢
   exact ⟨_,h.1⟩
 | .sl false e l,p,cs,h=>by
  simp only [T.fgt,CR] at h ⊢
  obtain ⟨a,cap,h1,_⟩:=h
  exact ⟨_,h1⟩
 | .fptr t,p,cs,h=>by
  simp only [T.fgt,CR] at h ⊢
  obtain ⟨b,off,cur,e,fz,h1,_⟩:=h
  exact ⟨_,h1⟩
 | .fn f l,p,cs,h=>by
  simp only [T.fgt,CR] at h ⊢
  obtain ⟨vs,h1,_⟩:=h
  exact ⟨_,h1⟩
 | .sl true e l,p,cs,h=>by
  simp only [T.fgt,CR,Jh] at h ⊢
  obtain ⟨b,cap,cur,h1,h2,h3,h4,h5,h6,h7,h8⟩:=h
  exact ⟨b,cap,cur,h1,h2,h3,h4,h5,h6,Tz h7,M7 X s l p 0 _ h8⟩
 | .win e kk hh l,p,cs,h=>by
  simp only [T.fgt,CR,Jh] at h ⊢
  obtain ⟨b,cap,cur,h1,h2,h3,h4,h5,h6,h7,h8⟩:=h
  exact ⟨b,cap,cur,h1,h2,h3,h4,h5,h6,Tz h7,M7 X s l p 0 _ h8⟩
 | .box e t,p,cs,h=>by
  simp only [T.fgt,CR,J7] at h ⊢
  obtain ⟨b,cur,h1,h2,h3,h4,h5,h6⟩:=h
  exact ⟨b,cur,h1,h2,h3,h4,h5,Mj X s t _ _ h6⟩
 | .agg l,p,cs,h=>by
  simp only [T.fgt,CR] at h ⊢
  exact M7 X s l p 0 cs h
 | .tup l,p,cs,h=>by
  simp only [T.fgt,CR] at h ⊢
  obtain ⟨vs,h1,h2⟩:=h
  exact ⟨vs,h1,Y8 X s l p 0 vs h2⟩
theorem M7 (X:Cx) (s:Nat):∀ (l:List T) (p:List Nat) (i:Nat) (cs:List Value),CRL X s p i l cs→CRL X s p i (T.fgtL l) cs
 | [],_,_,_,h=>h
 | t::l,p,i,cs,h=>by
  simp only [T.fgtL,CRL,J7] at h ⊢
  exact ⟨Mj X s t _ _ h.1,M7 X s l p (i+1) _ h.2⟩
theorem Y8 (X:Cx) (s:Nat):∀ (l:List T) (p:List Nat) (i:Nat) (vs:List Value),CRT X s p i l vs→CRT X s p i (T.fgtL l) vs
 | [],_,_,_,h=>h
 | t::l,p,i,vs,h=>by
  simp only [T.fgtL,CRT] at h ⊢
  obtain ⟨⟨v,cs,h1,h2,h3⟩,h4⟩:=h
  exact ⟨⟨v,cs,h1,by rw [Yg];exact h2,Mj X s t _ _ h3⟩,Y8 X s l p (i+1) _ h4⟩
end
def resSrc (tt:Tt) (env:Env):ResultVar→Option (Nat×List Nat×T)
 | .tmp t=>if t<1000000 then match lk env t with
  | some ⟨_,.own y⟩=>if y.noF then some (t,[],y) else some (t,[],y.fgt)
  | some ⟨_,.val (.addr s k p off sub)⟩=>(match lk env s with
   | some ⟨k',.own (.box e y)⟩=>if k'=k∧p=[]∧off=0∧sub=[0] then some (s,[],if y.noF then .box e y else .box e y.fgt) else none
   | _=>none)
  | some ⟨_,.val (.ref s k p)⟩=>(match lk env s with
   | some ⟨k',.own y⟩=>(match T.get p y with
    | some n=>if k'=k∧n.isNode=true∧n.noF=true∧n.refFree=true then some (s,p,n) else none
    | none=>none)
   | _=>none)
  | some ⟨_,.val y⟩=>if y.plain then some (t,[],y) else none
  | _=>none
  else none
 | .cell a ty=>if a<1000000 then match lk env a,tyAt tt ty with
  | some ⟨_,.own (.box _ y)⟩,some it=>if y.size=it.size∧y.isAgg=it.zero.isAgg∧y.noF=true then some (a,[0],y) else none
  | _,_=>none
  else none
mutual
theorem Hb:∀ (t:T),t.plain=true→t.refFree=true∧t.noF=true
 | .int ..,_=>⟨rfl,rfl⟩
 | .bool ..,_=>⟨rfl,rfl⟩
 | .str ..,h=>⟨rfl,by simpa [T.noF,T.plain] using h⟩
 | .nil,_=>⟨rfl,rfl⟩
 | .agg l,h=>by
  have:=Jr l (by simpa [T.plain] using h)
  exact ⟨by simpa [T.refFree] using this.1,by simpa [T.noF] using this.2⟩
 | .any,h=>by simp [T.plain] at h
 | .sl ..,h=>by simp [T.plain] at h
 | .win ..,h=>by simp [T.plain] at h
 | .box ..,h=>by simp [T.plain] at h
 | .fptr ..,h=>by simp [T.plain] at h
 | .tup ..,h=>by simp [T.plain] at h
 | .fn ..,h=>by simp [T.plain] at h
 | .ref ..,h=>by simp [T.plain] at h
 | .addr ..,h=>by simp [T.plain] at h
theorem Jr:∀ (l:List T),T.plainL l=true→T.refFreeL l=true∧T.noFL l=true
 | [],_=>⟨rfl,rfl⟩
 | t::l,h=>by
  simp only [T.plainL,Bool.and_eq_true] at h
  have h1:=Hb t h.1
  have h2:=Jr l h.2
  exact ⟨by simp [T.refFreeL,h1.1,h2.1],by simp [T.noFL,h1.2,h2.2]⟩
end
section
variable {C:Ctx} {env:Env} {V:Nat→Value} {w:World} {κ:Kap} {a:Act} {n:Nat} {tt:Tt} {P:Program}
theorem Abd (hP : TtOk C.P tt) (hI : Inv C env V w κ) (hV : ∀ t, t < 1000000 → V t = a.tmps.getD t undef) {x : ResultVar} {s : Nat} {p : List Nat} {y : T} (h : resSrc tt env x = some (s, p, y)) :
  ∃ cs,RdRes C.P w a.tmps (mkv y cs) x∧y.refFree=true∧y.noF=true∧CR (cx C env w κ) s p y cs:=by
 cases x with
 | tmp t=>
  simp only [resSrc] at h
  split at h
  ·rename_i ht
   split at h
   ·rename_i k y' hl
    split at h
    ·rename_i hno
     simp only [Option.some.injEq,Prod.mk.injEq] at h
     obtain ⟨rfl,rfl,rfl⟩:=h
     obtain ⟨h1,cs,h2,h3⟩:=hI.own _ _ _ hl
     exact ⟨cs,by simp only [RdRes];rw [← hV _ ht,h2],h1,hno,h3⟩
    ·simp only [Option.some.injEq,Prod.mk.injEq] at h
     obtain ⟨rfl,rfl,rfl⟩:=h
     obtain ⟨h1,cs,h2,h3⟩:=hI.own _ _ _ hl
     exact ⟨cs,by simp only [RdRes];rw [← hV _ ht,h2,Yg],(L4 _).2 h1,(L4 _).1,Mj _ _ _ _ _ h3⟩
   ·rename_i k s' k' p' off' sub' hl
    split at h
    ·rename_i k2 e2 y2 hs
     split at h
     ·rename_i hc
      obtain ⟨rfl,rfl,rfl,rfl⟩:=hc
      simp only [Option.some.injEq,Prod.mk.injEq] at h
      obtain ⟨rfl,rfl,hy⟩:=h
      obtain ⟨_,cs,g2,g3⟩:=hI.val _ _ _ hl
      obtain ⟨b,cap,cur,k1,q2,q3,q4⟩:=hI.addr_eq hs (q:=[]) (n:=.box e2 y2) (by simp [T.get]) rfl g3
      have hrf:=(hI.own _ _ _ hs).1
      have hm:RdRes C.P w a.tmps (headOf (.box e2 y2) b cap) (.tmp t):=by
       simp only [RdRes]
       rw [← hV _ ht,g2,k1]
       rfl
      split at hy
      ·rename_i hno
       subst hy
       exact ⟨[headOf (.box e2 y2) b cap],hm,hrf,by simpa [T.noF] using hno,q2⟩
      ·subst hy
       have f:=L4 (.box e2 y2)
       exact ⟨[headOf (.box e2 y2) b cap],hm,f.2 hrf,f.1,Mj _ _ _ _ _ q2⟩
     ·cases h
    ·cases h
   ·rename_i k s' k' p' hl
    split at h
    ·rename_i k2 y2 hs
     split at h
     ·rename_i n hg
      split at h
      ·rename_i hc
       obtain ⟨rfl,hnode,hno,hrf⟩:=hc
       simp only [Option.some.injEq,Prod.mk.injEq] at h
       obtain ⟨rfl,rfl,rfl⟩:=h
       obtain ⟨_,cs,g2,g3⟩:=hI.val _ _ _ hl
       obtain ⟨b,cap,cur,k1,q2,q3,q4⟩:=hI.ref_eq hs hg hnode g3
       refine ⟨cs,?_,hrf,hno,q2⟩
       simp only [RdRes]
       rw [← hV _ ht,g2]
       cases n <;> simp_all [T.isNode,mkv]
      ·cases h
     ·cases h
    ·cases h
   ·rename_i k y' _ _ hl
    split at h
    ·rename_i hpl
     simp only [Option.some.injEq,Prod.mk.injEq] at h
     obtain ⟨rfl,rfl,rfl⟩:=h
     obtain ⟨h1,cs,h2,h3⟩:=hI.val _ _ _ hl
     exact ⟨cs,by simp only [RdRes];rw [← hV _ ht,h2],(Hb _ hpl).1,(Hb _ hpl).2,h3⟩
    ·cases h
   ·cases h
  ·cases h
 | cell a' ty=>
  simp only [resSrc] at h
  split at h
  ·rename_i ht
   split at h
   ·rename_i k e y' it hl hit
    split at h
    ·rename_i hc
     simp only [Option.some.injEq,Prod.mk.injEq] at h
     obtain ⟨rfl,rfl,rfl⟩:=h
     obtain ⟨h1,cs,h2,h3⟩:=hI.own _ _ _ hl
     simp only [CR] at h3
     obtain ⟨b,cur,rfl,hb,hk,hs1,hs2,hC⟩:=h3
     simp only [mkv,List.headD] at h2
     refine ⟨cur.toList,?_,by simpa [T.refFree] using h1,hc.2.2,by simpa using hC⟩
     have hrun:=J0 (w:=w) hP hit (off:=0) hb y' hc.1 hc.2.1 (by omega)
     have e0:a.tmps.getD a' undef=.pointer (some ⟨b,0,none⟩):=by rw [← hV _ ht,h2]
     have hlen:(cur.toList.drop 0).take y'.size=cur.toList:=by rw [List.drop_zero,← hs2,← Array.length_toList,List.take_length]
     rw [hlen] at hrun
     exact ⟨_,e0,by simpa only [Instr.loadAt,Instr.sureAddr,Sem.run_bind,Sem.run_pure,Result.andThen_ok] using hrun⟩
    ·cases h
   ·cases h
  ·cases h
def place (bs:Nat→List Nat):List (Nat×List Nat×T)→Nat→Nat→List Nat→Option (List Nat)
 | [],_,_,_=>none
 | (s0,p0,_)::l,j,s,q=>if s0=s∧p0.isPrefixOf q=true then some (bs j++q.drop p0.length) else place bs l (j+1) s q
def apartB (a b:Nat×List Nat×T):Bool:=decide (a.1≠b.1)||(!(a.2.1.isPrefixOf b.2.1) && !(b.2.1.isPrefixOf a.2.1))
def apart (l:List (Nat×List Nat×T)):Prop:=l.Pairwise (fun a b=>apartB a b=true)
theorem Fn {l:List (Nat×List Nat×T)} (h:(l.map (·.1)).Nodup):apart l:=by
 rw [List.nodup_iff_pairwise_ne,List.pairwise_map] at h
 exact h.imp fun hab=>by simp [apartB,hab]
theorem P6 (bs:Nat→List Nat):∀ (l:List (Nat×List Nat×T)) (j s:Nat) (q r:List Nat),place bs l j s q=some r→∃ i p y q',l[i]? = some (s,p,y)∧q=p++q'∧r=bs (j+i)++q'
 | [],_,_,_,_,h=>by simp [place] at h
 | (s0,p0,y0)::l,j,s,q,r,h=>by
  simp only [place] at h
  split at h
  ·rename_i e
   obtain ⟨e,hp⟩:=e
   subst e
   obtain ⟨q',rfl⟩:=List.isPrefixOf_iff_prefix.1 hp
   simp at h
   exact ⟨0,p0,y0,q',rfl,rfl,h.symm⟩
  ·obtain ⟨i,p,y,q',h1,h2,h3⟩:=P6 bs l (j+1) s q r h
   exact ⟨i+1,p,y,q',by simpa using h1,h2,by rw [h3];congr 2;omega⟩
theorem U1 (bs:Nat→List Nat):∀ (l:List (Nat×List Nat×T)) (j i s:Nat) (p q':List Nat) (y:T),apart l→l[i]? = some (s,p,y)→place bs l j s (p++q')=some (bs (j+i)++q')
 | [],_,_,_,_,_,_,_,h=>by simp at h
 | (s0,p0,y0)::l,j,i,s,p,q',y,hnd,h=>by
  have hnd:=List.pairwise_cons.1 hnd
  cases i with
  | zero=>
   simp at h
   obtain ⟨rfl,rfl,rfl⟩:=h
   simp [place,List.isPrefixOf_iff_prefix]
  | succ i=>
   have hb:=hnd.1 (s,p,y) (List.mem_of_getElem? (by simpa using h))
   have hne:¬ (s0=s∧p0.isPrefixOf (p++q')=true):=by
    rintro ⟨e,hp⟩
    simp only [apartB,e,ne_eq,not_true_eq_false,decide_false,Bool.false_or,Bool.and_eq_true,Bool.not_eq_true'] at hb
    rcases List.prefix_or_prefix_of_prefix (List.isPrefixOf_iff_prefix.1 hp) (List.prefix_append p q') with g|g
    ·have:=List.isPrefixOf_iff_prefix.2 g
     simp_all
    ·have:=List.isPrefixOf_iff_prefix.2 g
     simp_all
   simp only [place]
   rw [if_neg hne,U1 bs l (j+1) i s p q' y hnd.2 (by simpa using h)]
   congr 3
   omega
def argEnv:Nat→List T→Env
 | _,[]=>[]
 | i,t::l=>(i,⟨0,mkSV t⟩)::argEnv (i+1) l
theorem G8:∀ (l:List T) (i t:Nat) (s:Slot),lk (argEnv i l) t=some s→∃ j x,l[j]? = some x∧t=i+j∧s=⟨0,mkSV x⟩
 | [],_,_,_,h=>by simp [argEnv,lk] at h
 | x::l,i,t,s,h=>by
  simp only [argEnv,lk] at h
  split at h
  ·rename_i e
   cases h
   exact ⟨0,x,rfl,by omega,rfl⟩
  ·obtain ⟨j,y,h1,h2,h3⟩:=G8 l (i+1) t s h
   exact ⟨j+1,y,by simpa using h1,by omega,h3⟩
def resT:List (Nat×List Nat×T)→T
 | [x]=>x.2.2
 | l=>.tup (l.map (·.2.2))
def retOk (tt:Tt) (rs:List ResultVar) (r:T) (env:Env):Prop:=∃ l,rs.map (resSrc tt env)=l.map some∧apart l∧r=resT l
def endQ (tt:Tt) (rs:List ResultVar) (r:T):Exit→Env→Prop
 | .normal,env=>retOk tt rs r env
 | .ret,env=>retOk tt rs r env
 | _,_=>False
theorem results1 {fn:Func} {x:ResultVar} {tmps:Array Value} {v:Value} (h:fn.results.toList=[x]) (hx:RdRes P w tmps v x):(results fn tmps).run P w=.ok v w:=by
 have h':fn.results = #[x]:=by apply Array.ext';simpa using h
 have key:∀ f:ResultVar→Sem Value,(f x).run P w=.ok v w→(do let vs ← #[x].mapM f;pure (if h:vs.size=1 then vs[0] else .tuple vs):Sem Value).run P w=.ok v w:=fun f hf=>by
  simp [hf]
 unfold results
 rw [h']
 refine key _ ?_
 cases x with
 | tmp t=>simpa [RdRes] using hx
 | cell a t=>obtain ⟨ad,h1,h2⟩:=hx;simp only [h1,asAddr,Sem.run_bind,Sem.run_pure,Result.andThen_ok,h2]
theorem results2 {fn:Func} {x y:ResultVar} {tmps:Array Value} {v u:Value} (h:fn.results.toList=[x,y]) (hx:RdRes P w tmps v x) (hy:RdRes P w tmps u y):(results fn tmps).run P w=.ok (.tuple #[v,u]) w:=by
 have h':fn.results = #[x,y]:=by apply Array.ext';simpa using h
 have key:∀ f:ResultVar→Sem Value,(f x).run P w=.ok v w→(f y).run P w=.ok u w→(do let vs ← #[x,y].mapM f;pure (if h:vs.size=1 then vs[0] else .tuple vs):Sem Value).run P w=.ok (.tuple #[v,u]) w:=fun f hf hg=>by
  simp [Sem.run_bind,hf,hg]
 unfold results
 rw [h']
 refine key _ ?_ ?_
 ·cases x with
  | tmp t=>simpa [RdRes] using hx
  | cell a t=>obtain ⟨ad,h1,h2⟩:=hx;simp only [h1,asAddr,Sem.run_bind,Sem.run_pure,Result.andThen_ok,h2]
 ·cases y with
  | tmp t=>simpa [RdRes] using hy
  | cell a t=>obtain ⟨ad,h1,h2⟩:=hy;simp only [h1,asAddr,Sem.run_bind,Sem.run_pure,Result.andThen_ok,h2]
theorem results3 {fn:Func} {x y z:ResultVar} {tmps:Array Value} {v u t:Value} (h:fn.results.toList=[x,y,z]) (hx:RdRes P w tmps v x) (hy:RdRes P w tmps u y) (hz:RdRes P w tmps t z):(results fn tmps).run P w=.ok (.tuple #[v,u,t]) w:=by
 have h':fn.results = #[x,y,z]:=by apply Array.ext';simpa using h
 have key:∀ f:ResultVar→Sem Value,(f x).run P w=.ok v w→(f y).run P w=.ok u w→(f z).run P w=.ok t w→(do let vs ← #[x,y,z].mapM f;pure (if h:vs.size=1 then vs[0] else .tuple vs):Sem Value).run P w=.ok (.tuple #[v,u,t]) w:=fun f hf hg hh=>by
  simp [Sem.run_bind,hf,hg,hh]
 unfold results
 rw [h']
 refine key _ ?_ ?_ ?_
 ·cases x with
  | tmp t=>simpa [RdRes] using hx
  | cell a t=>obtain ⟨ad,h1,h2⟩:=hx;simp only [h1,asAddr,Sem.run_bind,Sem.run_pure,Result.andThen_ok,h2]
 ·cases y with
  | tmp t=>simpa [RdRes] using hy
  | cell a t=>obtain ⟨ad,h1,h2⟩:=hy;simp only [h1,asAddr,Sem.run_bind,Sem.run_pure,Result.andThen_ok,h2]
 ·cases z with
  | tmp t=>simpa [RdRes] using hz
  | cell a t=>obtain ⟨ad,h1,h2⟩:=hz;simp only [h1,asAddr,Sem.run_bind,Sem.run_pure,Result.andThen_ok,h2]
theorem results4 {fn:Func} {x y z x4:ResultVar} {tmps:Array Value} {v u t v4:Value} (h:fn.results.toList=[x,y,z,x4]) (h1:RdRes P w tmps v x) (h2:RdRes P w tmps u y) (h3:RdRes P w tmps t z) (h4:RdRes P w tmps v4 x4):(results fn tmps).run P w=.ok (.tuple #[v,u,t,v4]) w:=by
 have h':fn.results = #[x,y,z,x4]:=by apply Array.ext';simpa using h
 have key:∀ f:ResultVar→Sem Value,(f x).run P w=.ok v w→(f y).run P w=.ok u w→(f z).run P w=.ok t w→(f x4).run P w=.ok v4 w→(do let vs ← #[x,y,z,x4].mapM f;pure (if h:vs.size=1 then vs[0] else .tuple vs):Sem Value).run P w=.ok (.tuple #[v,u,t,v4]) w:=fun f g1 g2 g3 g4=>by
  simp [Sem.run_bind,g1,g2,g3,g4]
 unfold results
 rw [h']
 refine key _ ?_ ?_ ?_ ?_
 ·cases x with
  | tmp t=>simpa [RdRes] using h1
  | cell a t=>obtain ⟨ad,k1,k2⟩:=h1;simp only [k1,asAddr,Sem.run_bind,Sem.run_pure,Result.andThen_ok,k2]
 ·cases y with
  | tmp t=>simpa [RdRes] using h2
  | cell a t=>obtain ⟨ad,k1,k2⟩:=h2;simp only [k1,asAddr,Sem.run_bind,Sem.run_pure,Result.andThen_ok,k2]
 ·cases z with
  | tmp t=>simpa [RdRes] using h3
  | cell a t=>obtain ⟨ad,k1,k2⟩:=h3;simp only [k1,asAddr,Sem.run_bind,Sem.run_pure,Result.andThen_ok,k2]
 ·cases x4 with
  | tmp t=>simpa [RdRes] using h4
  | cell a t=>obtain ⟨ad,k1,k2⟩:=h4;simp only [k1,asAddr,Sem.run_bind,Sem.run_pure,Result.andThen_ok,k2]
theorem results5 {fn:Func} {x y z x4 x5:ResultVar} {tmps:Array Value} {v u t v4 v5:Value} (h:fn.results.toList=[x,y,z,x4,x5]) (h1:RdRes P w tmps v x) (h2:RdRes P w tmps u y) (h3:RdRes P w tmps t z) (h4:RdRes P w tmps v4 x4) (h5:RdRes P w tmps v5 x5):(results fn tmps).run P w=.ok (.tuple #[v,u,t,v4,v5]) w:=by
 have h':fn.results = #[x,y,z,x4,x5]:=by apply Array.ext';simpa using h
 have key:∀ f:ResultVar→Sem Value,(f x).run P w=.ok v w→(f y).run P w=.ok u w→(f z).run P w=.ok t w→(f x4).run P w=.ok v4 w→(f x5).run P w=.ok v5 w→(do let vs ← #[x,y,z,x4,x5].mapM f;pure (if h:vs.size=1 then vs[0] else .tuple vs):Sem Value).run P w=.ok (.tuple #[v,u,t,v4,v5]) w:=fun f g1 g2 g3 g4 g5=>by
  simp [Sem.run_bind,g1,g2,g3,g4,g5]
 unfold results
 rw [h']
 refine key _ ?_ ?_ ?_ ?_ ?_
 ·cases x with
  | tmp t=>simpa [RdRes] using h1
  | cell a t=>obtain ⟨ad,k1,k2⟩:=h1;simp only [k1,asAddr,Sem.run_bind,Sem.run_pure,Result.andThen_ok,k2]
 ·cases y with
  | tmp t=>simpa [RdRes] using h2
  | cell a t=>obtain ⟨ad,k1,k2⟩:=h2;simp only [k1,asAddr,Sem.run_bind,Sem.run_pure,Result.andThen_ok,k2]
 ·cases z with
  | tmp t=>simpa [RdRes] using h3
  | cell a t=>obtain ⟨ad,k1,k2⟩:=h3;simp only [k1,asAddr,Sem.run_bind,Sem.run_pure,Result.andThen_ok,k2]
 ·cases x4 with
  | tmp t=>simpa [RdRes] using h4
  | cell a t=>obtain ⟨ad,k1,k2⟩:=h4;simp only [k1,asAddr,Sem.run_bind,Sem.run_pure,Result.andThen_ok,k2]
 ·cases x5 with
  | tmp t=>simpa [RdRes] using h5
  | cell a t=>obtain ⟨ad,k1,k2⟩:=h5;simp only [k1,asAddr,Sem.run_bind,Sem.run_pure,Result.andThen_ok,k2]
end
end
section
section
variable {env:Env} {V:Nat→Value} {w w':World} {κ:Kap} {a:Act} {n:Nat} {tt:Tt} {P:Program}
def outKap (bs:Nat→List Nat) (l:List (Nat×List Nat×T)) (κ:Kap):Kap:=fun b=>
 match κ b with
 | some (s,q,v)=>(place bs l 0 s q).map fun r=>(0,r,v)
 | none=>none
theorem Gs {bs : Nat → List Nat} {l : List (Nat × List Nat × T)} {b s : Nat} {r : List Nat} {v : Value} (h : outKap bs l κ b = some (s, r, v)) :
  ∃ i s0 p y q',l[i]? = some (s0,p,y)∧κ b=some (s0,p++q',v)∧r=bs i++q'∧s=0:=by
 unfold outKap at h
 cases hk:κ b with
 | none=>simp [hk] at h
 | some x=>
  obtain ⟨s0,q,u⟩:=x
  simp only [hk] at h
  cases hp:place bs l 0 s0 q with
  | none=>simp [hp] at h
  | some r'=>
   simp only [hp,Option.map_some,Option.some.injEq,Prod.mk.injEq] at h
   obtain ⟨rfl,rfl,rfl⟩:=h
   obtain ⟨i,p,y,q',h1,h2,h3⟩:=P6 bs l 0 s0 q r' hp
   subst h2
   exact ⟨i,s0,p,y,q',h1,rfl,by simpa using h3,rfl⟩
theorem Jt {κ0 : Kap} {C : Ctx} {pn : List (Nat × List Nat × Nat × Value)} (hE : Ext ⟨P, w, fun b => κ0 b ≠ none, pn⟩ C) (hI : Inv C env V w' κ) {l : List (Nat × List Nat × T)} {bs : Nat → List Nat}
  (hbs:∀ i j x y,i<l.length→j<l.length→bs i++x=bs j++y→i=j∧x=y) {r:T} {v:Value} (hr:r.refFree=true) (hres:VR (resCx P w' (outKap bs l κ)) 0 r v):Back P w κ0 r v w' (outKap bs l κ) where
 os:=hI.os.trans hE.os
 tape:=hI.tape.trans hE.tape
 output:=hI.output.trans hE.output
 size:=Nat.le_trans hE.size hI.size
 kept b hb hk:=(hI.frozen b (hE.F b ⟨hb,fun h=>h hk⟩)).trans (hE.heap b ⟨hb,fun h=>h hk⟩)
 col b s p v h:=by
  obtain ⟨i,s0,p0,y,q',h1,h2,h3,h4⟩:=Gs h
  obtain ⟨h5,h6⟩:=hI.col b _ _ _ h2
  refine ⟨h5,Classical.byContradiction fun hn=>h6 (hE.F b ⟨Nat.lt_of_not_le fun h=>hn (.inl h),fun h=>hn (.inr h)⟩)⟩
 inj b b' s p v v' h h':=by
  obtain ⟨i,s0,p0,y,q,h1,h2,h3,_⟩:=Gs h
  obtain ⟨j,s1,p1,z,q',g1,g2,g3,_⟩:=Gs h'
  obtain ⟨rfl,rfl⟩:=hbs i j q q' (List.getElem?_eq_some_iff.1 h1).1 (List.getElem?_eq_some_iff.1 g1).1 (h3.symm.trans g3)
  rw [h1] at g1
  cases g1
  exact hI.inj b b' _ _ _ _ h2 g2
 refFree:=hr
 res:=hres
def bare (X:Cx):Cx:={ X with F:=fun _=>False }
theorem Dq {C : Ctx} (hC : C.P = P) {l : List (Nat × List Nat × T)} {bs : Nat → List Nat} (hnd : apart l) {i s : Nat} {p : List Nat} {y : T} (hl : l[i]? = some (s, p, y)) {cs : List Value}
  (hr:y.refFree=true) (hno:y.noF=true) (h:CR (cx C env w' κ) s p y cs):CR (resCx P w' (outKap bs l κ)) 0 (bs i) y cs:=by
 have h1:CR (bare (cx C env w' κ)) s p y cs:=O1 (cx C env w' κ) (bare (cx C env w' κ)) rfl rfl rfl rfl rfl s y p cs hno h
 refine Bd (X:=bare (cx C env w' κ)) (X':=resCx P w' (outKap bs l κ)) (by simp [resCx,bare,cx,hC]) (fun b hb=>hb.elim) (fun b q v hk=>⟨?_,rfl⟩) hr h1
 have hk':κ b=some (s,p++q,v):=hk
 show outKap bs l κ b=_
 simp only [outKap,hk',U1 bs l 0 i s p q y hnd hl,Option.map_some,Nat.zero_add]
theorem Ro (hP : TtOk P tt) {pn : List (Nat × List Nat × Nat × Value)} {κ0 : Kap} {fn : Func} (h3 : fn.results.toList.length = 1 ∨ fn.results.toList.length = 2 ∨ fn.results.toList.length = 3 ∨ fn.results.toList.length = 4 ∨ fn.results.toList.length = 5) {C : Ctx} (hE : Ext ⟨P, w, fun b => κ0 b ≠ none, pn⟩ C) (hI : Inv C env V w' κ) (hV : ∀ t, t < 1000000 → V t = a.tmps.getD t undef)
  {l:List (Nat×List Nat×T)} (hl:fn.results.toList.map (resSrc tt env)=l.map some) (hnd:apart l) :
  ∃ v bs,(results fn a.tmps).run P w'=.ok v w'∧Back P w κ0 (resT l) v w' (outKap bs l κ):=by
 have hlen:fn.results.toList.length=l.length:=by have:=congrArg List.length hl;simpa using this
 have src:∀ (i:Nat) (x:ResultVar),fn.results.toList[i]? = some x→∃ (s:Nat) (p:List Nat) (y:T) (cs:List Value),l[i]? = some (s,p,y)∧RdRes P w' a.tmps (mkv y cs) x∧y.refFree=true∧y.noF=true∧CR (cx C env w' κ) s p y cs:=by
  intro i x hx
  have:=congrArg (fun z=>z[i]?) hl
  simp only [List.getElem?_map,hx,Option.map_some] at this
  cases hli:l[i]? with
  | none=>simp [hli] at this
  | some z=>
   obtain ⟨s,p,y⟩:=z
   simp [hli] at this
   obtain ⟨cs,h1,h2,h3,h4⟩:=Abd (C:=C) (tt:=tt) (by rw [hE.P];exact hP) hI hV this
   rw [hE.P] at h1
   exact ⟨s,p,y,cs,rfl,h1,h2,h3,h4⟩
 match hrs:fn.results.toList,h3,hlen,src with
 | [x],_,hlen,src=>
  obtain ⟨s,p,y,cs,g1,g2,g3,g4,g5⟩:=src 0 x rfl
  match l,hlen,hnd,g1 with
  | [z],_,hnd,g1=>
   simp at g1
   subst g1
   exact ⟨_,_,results1 hrs g2,Jt (bs:=fun _=>[]) hE hI (fun i j x y hi hj h=>⟨by simp at hi hj;omega,by simpa using h⟩) g3 ⟨cs,rfl,Dq hE.P (bs:=fun _=>[]) hnd (i:=0) rfl g3 g4 g5⟩⟩
 | [x1,x2],_,hlen,src=>
  obtain ⟨s1,p1,y1,cs1,g1,g2,g3,g4,g5⟩:=src 0 x1 rfl
  obtain ⟨s2,p2,y2,cs2,k1,k2,k3,k4,k5⟩:=src 1 x2 rfl
  match l,hlen,hnd,g1,k1 with
  | [z1,z2],_,hnd,g1,k1=>
   simp at g1 k1
   subst g1;subst k1
   refine ⟨_,_,results2 hrs g2 k2,Jt (l:=[(s1,p1,y1),(s2,p2,y2)]) (bs:=fun i=>[i]) hE hI (fun i j x y _ _ h=>by simpa using h) (by simp [resT,T.refFree,T.refFreeL,g3,k3]) ⟨[.tuple #[mkv y1 cs1,mkv y2 cs2]],rfl,?_⟩⟩
   simp only [resT,List.map_cons,List.map_nil,CR]
   refine ⟨[mkv y1 cs1,mkv y2 cs2],rfl,?_⟩
   simp only [CRT,List.head?_cons,List.tail_cons]
   exact ⟨⟨_,cs1,rfl,rfl,Dq hE.P (bs:=fun i=>[i]) hnd (i:=0) rfl g3 g4 g5⟩,⟨_,cs2,rfl,rfl,Dq hE.P (bs:=fun i=>[i]) hnd (i:=1) rfl k3 k4 k5⟩,trivial⟩
 | [x1,x2,x3],_,hlen,src=>
  obtain ⟨s1,p1,y1,cs1,g1,g2,g3,g4,g5⟩:=src 0 x1 rfl
  obtain ⟨s2,p2,y2,cs2,k1,k2,k3,k4,k5⟩:=src 1 x2 rfl
  obtain ⟨s3,p3,y3,cs3,m1,m2,m3,m4,m5⟩:=src 2 x3 rfl
  match l,hlen,hnd,g1,k1,m1 with
  | [z1,z2,z3],_,hnd,g1,k1,m1=>
   simp at g1 k1 m1
   subst g1;subst k1;subst m1
   refine ⟨_,_,results3 hrs g2 k2 m2,Jt (l:=[(s1,p1,y1),(s2,p2,y2),(s3,p3,y3)]) (bs:=fun i=>[i]) hE hI (fun i j x y _ _ h=>by simpa using h) (by simp [resT,T.refFree,T.refFreeL,g3,k3,m3]) ⟨[.tuple #[mkv y1 cs1,mkv y2 cs2,mkv y3 cs3]],rfl,?_⟩⟩
   simp only [resT,List.map_cons,List.map_nil,CR]
   refine ⟨[mkv y1 cs1,mkv y2 cs2,mkv y3 cs3],rfl,?_⟩
   simp only [CRT,List.head?_cons,List.tail_cons]
   exact ⟨⟨_,cs1,rfl,rfl,Dq hE.P (bs:=fun i=>[i]) hnd (i:=0) rfl g3 g4 g5⟩,⟨_,cs2,rfl,rfl,Dq hE.P (bs:=fun i=>[i]) hnd (i:=1) rfl k3 k4 k5⟩,
    ⟨_,cs3,rfl,rfl,Dq hE.P (bs:=fun i=>[i]) hnd (i:=2) rfl m3 m4 m5⟩,trivial⟩
 | [x1,x2,x3,x4],_,hlen,src=>
  obtain ⟨s1,p1,y1,cs1,g1,g2,g3,g4,g5⟩:=src 0 x1 rfl
  obtain ⟨s2,p2,y2,cs2,k1,k2,k3,k4,k5⟩:=src 1 x2 rfl
  obtain ⟨s3,p3,y3,cs3,m1,m2,m3,m4,m5⟩:=src 2 x3 rfl
  obtain ⟨s4,p4,y4,cs4,n1,n2,n3,n4,n5⟩:=src 3 x4 rfl
  match l,hlen,hnd,g1,k1,m1,n1 with
  | [z1,z2,z3,z4],_,hnd,g1,k1,m1,n1=>
   simp at g1 k1 m1 n1
   subst g1;subst k1;subst m1;subst n1
   refine ⟨_,_,results4 hrs g2 k2 m2 n2,Jt (l:=[(s1,p1,y1),(s2,p2,y2),(s3,p3,y3),(s4,p4,y4)]) (bs:=fun i=>[i]) hE hI (fun i j x y _ _ h=>by simpa using h) (by simp [resT,T.refFree,T.refFreeL,g3,k3,m3,n3]) ⟨[.tuple #[mkv y1 cs1,mkv y2 cs2,mkv y3 cs3,mkv y4 cs4]],rfl,?_⟩⟩
   simp only [resT,List.map_cons,List.map_nil,CR]
   refine ⟨[mkv y1 cs1,mkv y2 cs2,mkv y3 cs3,mkv y4 cs4],rfl,?_⟩
   simp only [CRT,List.head?_cons,List.tail_cons]
   exact ⟨⟨_,cs1,rfl,rfl,Dq hE.P (bs:=fun i=>[i]) hnd (i:=0) rfl g3 g4 g5⟩,⟨_,cs2,rfl,rfl,Dq hE.P (bs:=fun i=>[i]) hnd (i:=1) rfl k3 k4 k5⟩,⟨_,cs3,rfl,rfl,Dq hE.P (bs:=fun i=>[i]) hnd (i:=2) rfl m3 m4 m5⟩,⟨_,cs4,rfl,rfl,Dq hE.P (bs:=fun i=>[i]) hnd (i:=3) rfl n3 n4 n5⟩,trivial⟩
 | [x1,x2,x3,x4,x5],_,hlen,src=>
  obtain ⟨s1,p1,y1,cs1,g1,g2,g3,g4,g5⟩:=src 0 x1 rfl
  obtain ⟨s2,p2,y2,cs2,k1,k2,k3,k4,k5⟩:=src 1 x2 rfl
  obtain ⟨s3,p3,y3,cs3,m1,m2,m3,m4,m5⟩:=src 2 x3 rfl
  obtain ⟨s4,p4,y4,cs4,n1,n2,n3,n4,n5⟩:=src 3 x4 rfl
  obtain ⟨s5,p5,y5,cs5,q1,q2,q3,q4,q5⟩:=src 4 x5 rfl
  match l,hlen,hnd,g1,k1,m1,n1,q1 with
  | [z1,z2,z3,z4,z5],_,hnd,g1,k1,m1,n1,q1=>
   simp at g1 k1 m1 n1 q1
   subst g1;subst k1;subst m1;subst n1;subst q1
   refine ⟨_,_,results5 hrs g2 k2 m2 n2 q2,Jt (l:=[(s1,p1,y1),(s2,p2,y2),(s3,p3,y3),(s4,p4,y4),(s5,p5,y5)]) (bs:=fun i=>[i]) hE hI (fun i j x y _ _ h=>by simpa using h) (by simp [resT,T.refFree,T.refFreeL,g3,k3,m3,n3,q3]) ⟨[.tuple #[mkv y1 cs1,mkv y2 cs2,mkv y3 cs3,mkv y4 cs4,mkv y5 cs5]],rfl,?_⟩⟩
   simp only [resT,List.map_cons,List.map_nil,CR]
   refine ⟨[mkv y1 cs1,mkv y2 cs2,mkv y3 cs3,mkv y4 cs4,mkv y5 cs5],rfl,?_⟩
   simp only [CRT,List.head?_cons,List.tail_cons]
   exact ⟨⟨_,cs1,rfl,rfl,Dq hE.P (bs:=fun i=>[i]) hnd (i:=0) rfl g3 g4 g5⟩,⟨_,cs2,rfl,rfl,Dq hE.P (bs:=fun i=>[i]) hnd (i:=1) rfl k3 k4 k5⟩,⟨_,cs3,rfl,rfl,Dq hE.P (bs:=fun i=>[i]) hnd (i:=2) rfl m3 m4 m5⟩,⟨_,cs4,rfl,rfl,Dq hE.P (bs:=fun i=>[i]) hnd (i:=3) rfl n3 n4 n5⟩,⟨_,cs5,rfl,rfl,Dq hE.P (bs:=fun i=>[i]) hnd (i:=4) rfl q3 q4 q5⟩,trivial⟩
 | [],h3,_,_=>simp at h3
 | _::_::_::_::_::_::_,h3,_,_=>simp at h3
theorem Tw (hP : TtOk P tt) {pn : List (Nat × List Nat × Nat × Value)} {κ0 : Kap} {fn : Func} {r : T} (h3 : fn.results.toList.length = 1 ∨ fn.results.toList.length = 2 ∨ fn.results.toList.length = 3 ∨ fn.results.toList.length = 4 ∨ fn.results.toList.length = 5) {C : Ctx} (hE : Ext ⟨P, w, fun b => κ0 b ≠ none, pn⟩ C) (hF : FR C n env a w') (h : retOk tt fn.results.toList r env) :
  ∃ v κ',(results fn a.tmps).run P w'=.ok v w'∧Back P w κ0 r v w' κ':=by
 obtain ⟨hd,hn,κ,V,hI,hV⟩:=hF
 obtain ⟨l,hl,hnd,rfl⟩:=h
 obtain ⟨v,bs,h1,h2⟩:=Ro hP h3 hE hI hV hl hnd
 exact ⟨v,_,h1,h2⟩
theorem Uz {pn : List (Nat × List Nat × Nat × Value)} (hpn : ∀ u p b v, (u, p, b, v) ∈ pn → κ b = some (u, p, v)) {args : List T} {vs : List Value} (hp9 : ∀ b v, (3000001, [], b, v) ∈ pn → vs[3000001]? = some v) (hcol : ∀ b s p v, κ b = some (s, p, v) → b < w.heap.size) (hinj : ∀ b b' s p v v', κ b = some (s, p, v) → κ b' = some (s, p, v') → b = b') (hlen : vs.length = args.length)
  (hC:∀ (j:Nat) (t:T) (v:Value),args[j]? = some t→vs[j]? = some v→t.refFree=true∧VR (argCx P w κ) j t v) (hV:∀ j v,vs[j]? = some v→V j=v):Inv ⟨P,w,fun b=>κ b≠none,pn⟩ (argEnv 0 args) V w κ:=by
 have key:∀ (j:Nat) (x:T),args[j]? = some x→x.refFree=true∧VR (cx ⟨P,w,fun b=>κ b≠none,pn⟩ (argEnv 0 args) w κ) j x (V j):=by
  intro j x hx
  have hj:j<vs.length:=by rw [hlen];exact (List.getElem?_eq_some_iff.1 hx).1
  obtain ⟨h1,cs,h2,h3⟩:=hC j x vs[j] hx (by simp [hj])
  refine ⟨h1,cs,by rw [hV j vs[j] (by simp [hj]),h2],?_⟩
  exact Bd (X:=argCx P w κ) rfl (fun b hb=>⟨⟨hb.1,fun h=>h hb.2⟩,rfl⟩) (fun b q v hk=>⟨hk,rfl⟩) h1 h3
 refine ⟨rfl,rfl,rfl,Nat.le_refl _,fun _ _=>rfl,fun b s p v h=>⟨hcol b s p v h,fun hF=>hF.2 (by show κ b≠none;rw [h];simp)⟩,hinj,fun t k x hx=>?_,fun t k x hx=>?_,fun t k hx=>?_,fun u p b v hb _ _ _ _ _=>hpn u p b v hb,fun b v hb _ _ _=>hV _ _ (hp9 b v hb)⟩
 ·obtain ⟨j,y,h1,h2,h3⟩:=G8 args 0 t _ hx
  simp only [Slot.mk.injEq,mkSV] at h3
  by_cases hno:y.noOwn=true
  ·simp only [hno,if_true,SV.val.injEq] at h3
   rw [h3.2,show t=j by omega]
   exact ⟨hno,(key j y h1).2⟩
  ·simp [hno] at h3
 ·obtain ⟨j,y,h1,h2,h3⟩:=G8 args 0 t _ hx
  simp only [Slot.mk.injEq,mkSV] at h3
  by_cases hno:y.noOwn=true
  ·simp [hno] at h3
  ·simp only [hno,Bool.false_eq_true,if_false,SV.own.injEq] at h3
   rw [h3.2,show t=j by omega]
   exact key j y h1
 ·obtain ⟨j,y,h1,h2,h3⟩:=G8 args 0 t _ hx
  simp only [Slot.mk.injEq,mkSV] at h3
  by_cases hno:y.noOwn=true <;> simp [hno] at h3
theorem AFn.of (hP : TtOk P tt) {f : FuncId} (hlt : f < 1000000) {fn : Func} {c : Code} {args : List T} {r : T} (hf : P.funcs[f]? = some fn) (hb : fn.body = some c) (hname : (fn.name == "runtime.NumGoroutine") = false) (hargs : args.length ≤ fn.ntmps)
  (h3:fn.results.toList.length=1∨fn.results.toList.length=2∨fn.results.toList.length=3∨fn.results.toList.length=4∨fn.results.toList.length=5) (h:∀ C:Ctx,C.P=P→AWP C fn.ntmps c (endQ tt fn.results.toList r) (argEnv 0 args)):AFn P f args r:=by
 refine (Fg hlt).2 ⟨⟨fn,hf,hname,by rw [hb];rfl⟩,fun w vs κ hcol hinj hlen hC=>?_⟩
 refine calls_of_wp hf hb ?_
 have hF:FR ⟨P,w,fun b=>κ b≠none,[]⟩ fn.ntmps (argEnv 0 args) { tmps:=vs.toArray++Array.replicate (fn.ntmps-vs.toArray.size) undef,defers:=[] } w:=by
  refine ⟨rfl,by simp;omega,κ,fun t=>(vs.toArray++Array.replicate (fn.ntmps-vs.toArray.size) undef).getD t undef,Uz (fun _ _ _ _ h=>by cases h) (fun _ _ h=>by cases h) hcol hinj hlen hC (fun j v hj=>?_),fun t _=>rfl⟩
  have hjl:j<vs.length:=(List.getElem?_eq_some_iff.1 hj).1
  rw [Array.getD_eq_getD_getElem?,Array.getElem?_append_left (by simpa using hjl)]
  simp [hj]
 refine wp_mono (h ⟨P,w,fun b=>κ b≠none,[]⟩ rfl _ (.refl _) _ w hF) (fun e a' w' ⟨C2,env',hE,h1,h2⟩=>?_)
 cases e with
 | normal=>
  obtain ⟨v,κ',g1,g2⟩:=Tw hP h3 hE h2 h1
  exact ⟨h2.defers,v,g1,v,κ',rfl,g2⟩
 | ret=>
  obtain ⟨v,κ',g1,g2⟩:=Tw hP h3 hE h2 h1
  exact ⟨h2.defers,v,g1,v,κ',rfl,g2⟩
 | _=>exact h1.elim
def endG (tt:Tt) (rs:List ResultVar) (r1:T) (e:TypeId) (ts':List T) (env:Env):Prop:=
 ∃ l,rs.map (resSrc tt env)=l.map some∧apart l∧3000001 ∉ l.map (·.1)∧r1=resT l∧lk env 3000001=some ⟨0,.own (.box e (.agg ts'))⟩
def endQG (tt:Tt) (rs:List ResultVar) (r1:T) (e:TypeId) (ts':List T):Exit→Env→Prop
 | .normal,env=>endG tt rs r1 e ts' env
 | .ret,env=>endG tt rs r1 e ts' env
 | _,_=>False
theorem AFg.of (hP : TtOk P tt) {f : FuncId} {fn : Func} {c : Code} {e : TypeId} {ts ts' rest : List T} {g r1 : T} (hf : P.funcs[f]? = some fn) (hb : fn.body = some c) (hname : (fn.name == "runtime.NumGoroutine") = false) (hargs : rest.length + 1 ≤ fn.ntmps) (hargs2 : rest.length < 1000000)
  (h3:fn.results.toList.length=1∨fn.results.toList.length=2∨fn.results.toList.length=3∨fn.results.toList.length=4∨fn.results.toList.length=5) (hsc:∀ t∈ts,t.scalar=true) (hsc':∀ t∈ts',t.scalar=true) (hlen:ts'.length=ts.length)
  (h:∀ C:Ctx,C.P=P→AWP C fn.ntmps c (endQG tt fn.results.toList r1 e ts') ((0,⟨0,.val (.addr 3000001 0 [] 0 [0])⟩)::(3000000,⟨0,.val g⟩)::(3000001,⟨0,.own (.box e (.agg ts))⟩)::argEnv 0 (.any::rest))):AFg P f (g::.box e (.agg ts)::rest) (.tup [r1,.box e (.agg ts')]):=by
 refine ⟨⟨fn,hf,hname,by rw [hb];rfl⟩,e,ts,ts',rest,g,r1,rfl,rfl,hsc,hsc',hlen,fun w b cur vg vs hwb hcs hez hcell hgp hg hvl hrest=>?_⟩
 refine calls_of_wp hf hb ?_
 have hbw:b<w.heap.size:=by
  obtain ⟨hlt,_⟩:=Array.getElem?_eq_some_iff.1 hwb
  exact hlt
 let TM:Array Value:=(.pointer (some ⟨b,0,none⟩)::vs).toArray++Array.replicate (fn.ntmps-(.pointer (some ⟨b,0,none⟩)::vs).toArray.size) undef
 let V0:Nat→Value:=fun t=>if t=3000001 then .pointer (some ⟨b,0,none⟩) else TM.getD t undef
 let κ0:Kap:=fun c=>if c=b then some (3000001,[],.pointer (some ⟨b,0,none⟩)) else none
 have hk:∀ {c s p v},κ0 c=some (s,p,v)→c=b∧s=3000001∧p=[]:=by
  intro c s p v hc
  simp only [κ0] at hc
  split at hc
  ·rename_i e
   simp only [Option.some.injEq,Prod.mk.injEq] at hc
   exact ⟨e,hc.1.symm,hc.2.1.symm⟩
  ·cases hc
 have hlk:∀ t s,lk (argEnv 0 (.any::rest)) t=some s→t<3000000∧((t=0∧s=⟨0,.val .any⟩)∨∃ j x,t=j+1∧rest[j]? = some x∧s=⟨0,mkSV x⟩):=by
  intro t s hl
  obtain ⟨j,x,h1,h2,h3⟩:=G8 _ _ _ _ hl
  have:=(List.getElem?_eq_some_iff.1 h1).1
  simp only [List.length_cons] at this
  refine ⟨by omega,?_⟩
  cases j with
  | zero=>
   simp only [List.getElem?_cons_zero,Option.some.injEq] at h1
   subst h1
   exact .inl ⟨by omega,h3⟩
  | succ j=>exact .inr ⟨j,x,by omega,by simpa using h1,h3⟩
 have hTM:∀ (j:Nat) (x:T),rest[j]? = some x→x.pure=true∧∀ s,VR (argCx P w (boxK b)) s x (TM.getD (j+1) undef):=by
  intro j x hx
  have hj:j<vs.length:=by rw [hvl];exact (List.getElem?_eq_some_iff.1 hx).1
  have e1:TM.getD (j+1) undef=vs[j]:=by
   simp only [TM]
   rw [Array.getD_eq_getD_getElem?,Array.getElem?_append_left (by simpa using hj)]
   simp [hj]
  rw [e1]
  exact hrest j x vs[j] hx (by simp [hj])
 have hIa:Inv ⟨P,w,fun c=>boxK b c≠none,[(3000001,[],b,.pointer (some ⟨b,0,none⟩))]⟩ ((3000001,⟨0,.own (.box e (.agg ts))⟩)::argEnv 0 (.any::rest)) V0 w κ0:=by
  refine ⟨rfl,rfl,rfl,Nat.le_refl _,fun _ _=>rfl,fun c s p v hc=>⟨by rw [(hk hc).1];exact hbw,fun hF=>hF.2 (by rw [(hk hc).1];simp [boxK])⟩,fun c c' s p v v' hc hc'=>(hk hc).1.trans (hk hc').1.symm,fun t k x hx=>?_,fun t k x hx=>?_,fun t k hx=>?_,fun u p b' v' hb' _ _ _ _ _=>by simp only [List.mem_singleton,Prod.mk.injEq] at hb';rw [hb'.1,hb'.2.1,hb'.2.2.1,hb'.2.2.2];simp [κ0],fun b' v' hb' _ _ _=>by simp only [List.mem_singleton,Prod.mk.injEq,true_and] at hb';rw [hb'.2];simp [V0]⟩
  ·by_cases et:t=3000001
   ·subst et;rw [Ak] at hx;simp at hx
   ·rw [Ab _ _ _ _ et] at hx
    obtain ⟨_,⟨_,h2⟩|⟨j,y,rfl,h2,h3⟩⟩:=hlk _ _ hx
    ·simp only [Slot.mk.injEq,SV.val.injEq] at h2
     rw [h2.2]
     exact ⟨rfl,Lz _ _ _⟩
    ·obtain ⟨h4,h5⟩:=hTM j y h2
     have hno:=Ba y h4
     simp only [mkSV,hno,if_true,Slot.mk.injEq,SV.val.injEq] at h3
     rw [h3.2]
     obtain ⟨cs,g1,g2⟩:=h5 0
     refine ⟨hno,cs,by simp only [V0,if_neg et];exact g1,Av (argCx P w (boxK b)) (cx ⟨P,w,fun c=>boxK b c≠none,[(3000001,[],b,.pointer (some ⟨b,0,none⟩))]⟩ ((3000001,⟨0,.own (.box e (.agg ts))⟩)::argEnv 0 (.any::rest)) w κ0) 0 _ rfl (fun c hc=>⟨⟨hc.1,fun h=>h hc.2⟩,rfl⟩) y [] [] cs h4 g2⟩
  ·by_cases et:t=3000001
   ·subst et
    rw [Ak] at hx
    simp only [Option.some.injEq,Slot.mk.injEq,SV.own.injEq] at hx
    obtain ⟨_,rfl⟩:=hx
    refine ⟨by simp only [T.refFree];exact (Cn hsc).2,[.pointer (some ⟨b,0,none⟩)],by simp [V0,mkv],?_⟩
    simp only [CR]
    exact ⟨b,cur,rfl,hwb,by simp [cx,κ0],by simp only [T.size,Ds hsc];exact hez.symm,by simp only [T.size,Ds hsc,hcs],Jw hsc hcs hcell⟩
   ·rw [Ab _ _ _ _ et] at hx
    obtain ⟨_,⟨_,h2⟩|⟨j,y,rfl,h2,h3⟩⟩:=hlk _ _ hx
    ·simp at h2
    ·have hno:=Ba y (hTM j y h2).1
     simp [mkSV,hno] at h3
  ·by_cases et:t=3000001
   ·subst et;rw [Ak] at hx;simp at hx
   ·rw [Ab _ _ _ _ et] at hx
    obtain ⟨_,⟨_,h2⟩|⟨j,y,rfl,h2,h3⟩⟩:=hlk _ _ hx
    ·simp at h2
    ·have hno:=Ba y (hTM j y h2).1
     simp [mkSV,hno] at h3
 have hl0:lk ((3000001,(⟨0,.own (.box e (.agg ts))⟩:Slot))::argEnv 0 (.any::rest)) 3000000=none:=by
  rw [Ab _ _ _ _ (by decide)]
  cases hl:lk (argEnv 0 (.any::rest)) 3000000 with
  | none=>rfl
  | some y=>have:=(hlk _ _ hl).1;omega
 have hI0:=hIa.bind 3000000 0 g vg (by rw [hl0];exact Nat.le_refl _) (Ba g hgp) 0 (by
  obtain ⟨cs,h1,h2⟩:=hg 0
  exact ⟨cs,h1,Av (argCx P w (boxK b)) (cx ⟨P,w,fun c=>boxK b c≠none,[(3000001,[],b,.pointer (some ⟨b,0,none⟩))]⟩ ((3000001,⟨0,.own (.box e (.agg ts))⟩)::argEnv 0 (.any::rest)) w κ0) 0 0 rfl (fun c hc=>⟨⟨hc.1,fun h=>h hc.2⟩,rfl⟩) g [] [] cs hgp h2⟩)
 have hI1:=hI0.bind 0 0 (.addr 3000001 0 [] 0 [0]) (.pointer (some ⟨b,0,none⟩)) (by
  rw [Ab _ _ _ _ (by decide),Ab _ _ _ _ (by decide)]
  exact Nat.le_refl _) rfl 0 ⟨[.pointer (some ⟨b,0,none⟩)],rfl,by
   simp only [CR]
   exact ⟨_,rfl,⟨_,by rw [Ab _ _ _ _ (by decide)];exact Ak _ _ _,Nat.le_refl _⟩,fun _=>⟨b,.pointer (some ⟨b,0,none⟩),by simp [cx,κ0],rfl⟩⟩⟩
 have hF:FR ⟨P,w,fun c=>boxK b c≠none,[(3000001,[],b,.pointer (some ⟨b,0,none⟩))]⟩ fn.ntmps ((0,⟨0,.val (.addr 3000001 0 [] 0 [0])⟩)::(3000000,⟨0,.val g⟩)::(3000001,⟨0,.own (.box e (.agg ts))⟩)::argEnv 0 (.any::rest)) { tmps:=TM,defers:=[] } w:=
  ⟨rfl,by simp [TM];omega,κ0,_,hI1,fun t ht=>by
   by_cases e0:t=0
   ·subst e0
    rw [By]
    simp only [TM]
    rw [Array.getD_eq_getD_getElem?,Array.getElem?_append_left (by simp)]
    simp
   ·rw [Al _ _ _ _ e0,Al _ _ _ _ (by omega)]
    simp only [V0]
    rw [if_neg (by omega)]⟩
 have fin : ∀ (C2 : Ctx) (env' : Env) (a' : Act) (w' : World), Ext ⟨P, w, fun c => boxK b c ≠ none, [(3000001, [], b, .pointer (some ⟨b, 0, none⟩))]⟩ C2 → endG tt fn.results.toList r1 e ts' env' → FR C2 fn.ntmps env' a' w' →
   ∃ v,(results fn a'.tmps).run P w'=.ok v w'∧∃ κ' cur',Back P w (boxK b) r1 v w' κ'∧κ' b=none∧w'.heap[b]? = some (.cells cur' e (0,0))∧cur'.size=ts'.length∧
    ∀ (j:Nat) (t:T) (v:Value),ts'[j]? = some t→cur'[j]? = some v→∀ (X:Cx) (s:Nat) (p:List Nat),CR X s p t [v]:=by
  intro C2 env' a' w' hE ⟨l,hl,hnd,h0,hr1,hs0⟩ hF2
  obtain ⟨_,_,κe,V,hI,hV⟩:=hF2
  subst hr1
  obtain ⟨v,bs,g1,hB⟩:=Ro (pn:=[(3000001,[],b,.pointer (some ⟨b,0,none⟩))]) hP h3 hE hI hV hl hnd
  have hpin:=hI.pin 3000001 [] b _ (by rw [hE.pin];exact List.mem_singleton.2 rfl) _ _ hs0 (show T.get [] (.box e (.agg ts'))=some (.box e (.agg ts')) by simp [T.get]) rfl
  obtain ⟨_,cs,q1,q2⟩:=hI.own _ _ _ hs0
  simp only [CR] at q2
  obtain ⟨b1,cur1,m1,m2,m3,m4,m5,m6⟩:=q2
  have hbb:b1=b:=hI.inj b1 b 3000001 [] _ _ m3 hpin
  subst hbb
  have hS:=Cm ts' 0 _ hsc' m6
  refine ⟨v,g1,outKap bs l κe,cur1,hB,?_,m2,by rw [m5];simpa [T.size] using Ds hsc',fun j t v hj hv=>hS.2 j t v hj (by simpa using hv)⟩
  cases hk':outKap bs l κe b1 with
  | none=>rfl
  | some y=>
   obtain ⟨s,r,u⟩:=y
   obtain ⟨i,s0,p,y,q',h1,h2,_,_⟩:=Gs hk'
   rw [hpin] at h2
   simp only [Option.some.injEq,Prod.mk.injEq] at h2
   exact absurd (List.mem_map.2 ⟨_,List.mem_of_getElem? h1,h2.1.symm⟩) h0
 refine wp_mono (h ⟨P,w,fun c=>boxK b c≠none,[(3000001,[],b,.pointer (some ⟨b,0,none⟩))]⟩ rfl _ (.refl _) _ w hF) (fun x a' w' ⟨C2,env',hE,h1,h2⟩=>?_)
 cases x with
 | normal=>
  obtain ⟨v,g1,κ',cur',g2⟩:=fin C2 env' a' w' hE h1 h2
  exact ⟨h2.defers,v,g1,v,κ',cur',rfl,g2⟩
 | ret=>
  obtain ⟨v,g1,κ',cur',g2⟩:=fin C2 env' a' w' hE h1 h2
  exact ⟨h2.defers,v,g1,v,κ',cur',rfl,g2⟩
 | _=>exact h1.elim
def AFz (P:Program) (f:FuncId) (args:List T) (r:T):Prop:=
 (∃ fn, P.funcs[f]? = some fn ∧ (fn.name == "runtime.NumGoroutine") = false ∧ fn.body.isNone = false) ∧ r.pure = true ∧
 ∀ (w:World) (vs:List Value),vs.length=args.length→(∀ (j:Nat) (t:T) (v:Value),args[j]? = some t→vs[j]? = some v→VR (argCx P w (fun _=>none)) j t v)→
  Calls P f vs.toArray w (fun e w'=>∃ v,e=.returned v∧w'.os=w.os∧w'.tape=w.tape∧w'.output=w.output∧w.heap.size≤w'.heap.size∧(∀ b,b<w.heap.size→w'.heap[b]? = w.heap[b]?)∧VR (argCx P w' (fun _=>none)) 0 r v)
def endZ (t:Nat) (r:T):Exit→Env→Prop
 | .normal,env=>∃ k,lk env t=some ⟨k,.val r⟩
 | .ret,env=>∃ k,lk env t=some ⟨k,.val r⟩
 | _,_=>False
theorem AFz.of {f : FuncId} {fn : Func} {c : Code} {args : List T} {r : T} {t : Nat} (hf : P.funcs[f]? = some fn) (hb : fn.body = some c) (hname : (fn.name == "runtime.NumGoroutine") = false) (hargs : args.length ≤ fn.ntmps)
  (h3:fn.results.toList=[.tmp t]) (ht:t<1000000) (hr:r.pure=true) (hap:T.pureL args=true) (h:∀ C:Ctx,C.P=P→AWP C fn.ntmps c (endZ t r) (argEnv 0 args)):AFz P f args r:=by
 refine ⟨⟨fn,hf,hname,by rw [hb];rfl⟩,hr,fun w vs hlen hC=>?_⟩
 refine calls_of_wp hf hb ?_
 have hF:FR ⟨P,w,fun b=>(fun _=>none:Kap) b≠none,[]⟩ fn.ntmps (argEnv 0 args) { tmps:=vs.toArray++Array.replicate (fn.ntmps-vs.toArray.size) undef,defers:=[] } w:=by
  refine ⟨rfl,by simp;omega,fun _=>none,fun t=>(vs.toArray++Array.replicate (fn.ntmps-vs.toArray.size) undef).getD t undef,Uz (fun _ _ _ _ h=>by cases h) (fun _ _ h=>by cases h) (fun _ _ _ _ h=>by cases h) (fun _ _ _ _ _ _ h=>by cases h) hlen (fun j t v hj hv=>⟨Cj t ((Dc args).1 hap t (List.mem_of_getElem? hj)),hC j t v hj hv⟩) (fun j v hj=>?_),fun t _=>rfl⟩
  have hjl:j<vs.length:=(List.getElem?_eq_some_iff.1 hj).1
  rw [Array.getD_eq_getD_getElem?,Array.getElem?_append_left (by simpa using hjl)]
  simp [hj]
 have fin : ∀ (C2 : Ctx) (env' : Env) (a' : Act) (w' : World), Ext ⟨P, w, fun b => (fun _ => none : Kap) b ≠ none, []⟩ C2 → (∃ k, lk env' t = some ⟨k, .val r⟩) → FR C2 fn.ntmps env' a' w' →
   ∃ v,(results fn a'.tmps).run P w'=.ok v w'∧w'.os=w.os∧w'.tape=w.tape∧w'.output=w.output∧w.heap.size≤w'.heap.size∧(∀ b,b<w.heap.size→w'.heap[b]? = w.heap[b]?)∧VR (argCx P w' (fun _=>none)) 0 r v:=by
  intro C2 env' a' w' hE ⟨k,hl⟩ hF2
  obtain ⟨_,_,κ,V,hI,hV⟩:=hF2
  obtain ⟨_,cs,e1,e2⟩:=hI.val _ _ _ hl
  have hw0:∀ b,b<w.heap.size→Ctx.F ⟨P,w,fun b=>(fun _=>none:Kap) b≠none,[]⟩ b:=fun b hb=>⟨hb,fun h=>h rfl⟩
  refine ⟨mkv r cs,results1 h3 (by simp only [RdRes];rw [← hV _ ht,e1]),hI.os.trans hE.os,hI.tape.trans hE.tape,hI.output.trans hE.output,Nat.le_trans hE.size hI.size,fun b hb=>(hI.frozen b (hE.F b (hw0 b hb))).trans (hE.heap b (hw0 b hb)),cs,rfl,?_⟩
  exact Av (cx C2 env' w' κ) (argCx P w' (fun _=>none)) t 0 (by simp [argCx,cx,hE.P]) (fun b hb=>⟨⟨Nat.lt_of_lt_of_le hb.1 hI.size,rfl⟩,rfl⟩) r [] [] cs hr e2
 refine wp_mono (h ⟨P,w,fun b=>(fun _=>none:Kap) b≠none,[]⟩ rfl _ (.refl _) _ w hF) (fun e a' w' ⟨C2,env',hE,h1,h2⟩=>?_)
 cases e with
 | normal=>
  obtain ⟨v,g1,g2⟩:=fin C2 env' a' w' hE h1 h2
  exact ⟨h2.defers,v,g1,v,rfl,g2⟩
 | ret=>
  obtain ⟨v,g1,g2⟩:=fin C2 env' a' w' hE h1 h2
  exact ⟨h2.defers,v,g1,v,rfl,g2⟩
 | _=>exact h1.elim
variable {C:Ctx}
def pureEnv (env:Env):Bool:=env.all fun x=>match x.2.sv with
 | .val y=>y.pure
 | _=>false
theorem Ct (h:pureEnv env=true) {t:Nat} {s:Slot} (hl:lk env t=some s):∃ y,s.sv=.val y∧y.pure=true:=by
 have h1:=List.all_eq_true.1 h _ (Pa _ _ _ hl)
 obtain ⟨k,sv⟩:=s
 cases sv with
 | val y=>exact ⟨y,rfl,h1⟩
 | _=>simp at h1
theorem FR.bare (hp:pureEnv env=true) (hF:FR C n env a w):Ext C ⟨C.P,w,fun _=>False,C.pin⟩∧FR ⟨C.P,w,fun _=>False,C.pin⟩ n env a w:=by
 obtain ⟨hd,hn,κ,V,hI,hV⟩:=hF
 have hFF:∀ b,C.F b→Ctx.F ⟨C.P,w,fun _=>False,C.pin⟩ b:=fun b hb=>⟨Nat.lt_of_lt_of_le hb.1 hI.size,fun h=>h⟩
 refine ⟨⟨rfl,hFF,hI.frozen,hI.os,hI.tape,hI.output,hI.size,rfl⟩,hd,hn,fun _=>none,V,⟨rfl,rfl,rfl,Nat.le_refl _,fun _ _=>rfl,fun _ _ _ _ h=>(by cases h),fun _ _ _ _ _ _ h=>(by cases h),fun t j x hx=>?_,fun t j x hx=>?_,fun t j hx=>?_,fun u0 _ _ _ _ _ _ hx _ _=>?_,fun _ _ _ _ _ hx=>?_⟩,hV⟩
 ·obtain ⟨y,h1,h2⟩:=Ct hp hx
  cases h1
  obtain ⟨g1,cs,g2,g3⟩:=hI.val t j x hx
  exact ⟨g1,cs,g2,Av (cx C env w κ) (cx ⟨C.P,w,fun _=>False,C.pin⟩ env w (fun _=>none)) t t rfl (fun b hb=>⟨hFF b hb,rfl⟩) x [] [] cs h2 g3⟩
 ·obtain ⟨y,h1,_⟩:=Ct hp hx
  cases h1
 ·obtain ⟨y,h1,_⟩:=Ct hp hx
  cases h1
 ·obtain ⟨y,h1,_⟩:=Ct hp hx
  cases h1
 ·obtain ⟨y,h1,_⟩:=Ct hp hx
  cases h1
end
end
section
section
variable {C:Ctx} {env:Env} {V:Nat→Value} {w w':World} {κ:Kap} {a:Act} {n:Nat} {tt:Tt} {P:Program}
theorem Aib (V:Nat→Value) (d:Nat):upd V d (V d)=V:=funext fun t=>by
 by_cases e:t=d
 ·subst e;exact By _ _ _
 ·exact Al _ _ _ _ e
theorem Yh:∀ (l:List T) (i t:Nat) (env:Env),t<i→lk (argEnv i l++env) t=lk env t
 | [],i,t,env,h=>rfl
 | y::l,i,t,env,h=>by
  show lk ((i,⟨0,mkSV y⟩)::(argEnv (i+1) l++env)) t=_
  rw [Ab _ _ _ _ (by omega)]
  exact Yh l (i+1) t env (by omega)
theorem Inv.binds:∀ (rest:List T) (i:Nat) (env:Env),Inv C env V w κ→(∀ (j:Nat) (y:T),rest[j]? = some y→y.pure=true∧lk env (i+j)=none∧∃ (X:Cx) (s:Nat),VR X s y (V (i+j))∧X.sz=C.P.cellsOf∧∀ b,X.F b→C.F b∧w.heap[b]? = X.w.heap[b]?)→Inv C (argEnv i rest++env) V w κ
 | [],i,env,h,_=>h
 | y::l,i,env,h,hr=>by
  have h1:=Inv.binds l (i+1) env h (fun j y hj=>by
   have:=hr (j+1) y (by simpa using hj)
   rw [show i+1+j=i+(j+1) by omega]
   exact this)
  obtain ⟨hp,hv,X,s,hVR,hsz,hF⟩:=hr 0 y rfl
  have h2:=h1.bind i 0 y (V i) (by rw [Yh l (i+1) i env (by omega)];rw [Nat.add_zero] at hv;rw [hv];exact Nat.le_refl _) (Ba y hp) s
   (Akl (X:=X) (X':=cx C (argEnv (i+1) l++env) w κ) hsz.symm hF hp hVR)
  rw [Aib] at h2
  show Inv C ((i,⟨0,mkSV y⟩)::(argEnv (i+1) l++env)) V w κ
  have:mkSV y=.val y:=by simp [mkSV,Ba y hp]
  rw [this]
  exact h2
end
end
section
section
variable {C:Ctx} {env:Env} {V:Nat→Value} {w w':World} {κ:Kap} {a:Act} {n:Nat} {tt:Tt} {P:Program}
end
end
end Go.Proofs.YtapdekacpecgiaaGreat
