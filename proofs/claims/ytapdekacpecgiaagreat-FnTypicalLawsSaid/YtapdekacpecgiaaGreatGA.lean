import Derived.WalkKit
import Derived.ProofKit
namespace Go.Proofs.YtapdekacpecgiaaGreat
open Go.RowKit
set_option linter.unusedVariables false
set_option linter.unusedSimpArgs false
set_option linter.constructorNameAsVariable false
section
inductive Con where
 | str (b:ByteArray)
 | nilFunc
 | nilPtr
 | raw (a:Option Addr) (n c:Nat)
 | src (a:Option Addr) (c:Nat) (l:List Int)
def Con.val:Con→Value
 | .str b=>.string b
 | .nilFunc=>.nilFunc
 | .nilPtr=>.pointer none
 | .raw a n c=>.slice a n c
 | .src a c l=>.slice a l.length c
def Con.free:Con→Bool
 | .src ..=>false
 | _=>true
inductive T where
 | int (k:IntKind) (n:Int)
 | bool (b:Bool)
 | str (s:Con)
 | any
 | nil
 | sl (o:Bool) (e:TypeId) (l:List T)
 | win (e:TypeId) (k h:Nat) (l:List T)
 | box (e:TypeId) (t:T)
 | fptr (t:T)
 | agg (l:List T)
 | tup (l:List T)
 | fn (f:FuncId) (caps:List T)
 | ref (s k:Nat) (p:List Nat)
 | addr (s k:Nat) (p:List Nat) (off:Nat) (sub:List Nat)
 deriving Inhabited
mutual
def T.size:T→Nat
 | .agg l=>T.sizeL l
 | _=>1
def T.sizeL:List T→Nat
 | []=>0
 | t::l=>t.size+T.sizeL l
end
mutual
def T.noOwn:T→Bool
 | .sl o _ _=>!o
 | .win ..=>false
 | .box _ _=>false
 | .agg l=>T.noOwnL l
 | .tup l=>T.noOwnL l
 | .fn _ l=>T.noOwnL l
 | _=>true
def T.noOwnL:List T→Bool
 | []=>true
 | t::l=>t.noOwn&&T.noOwnL l
end
mutual
def T.refFree:T→Bool
 | .ref ..=>false
 | .addr ..=>false
 | .sl _ _ l=>T.refFreeL l
 | .win _ _ _ l=>T.refFreeL l
 | .box _ t=>t.refFree
 | .fptr t=>t.refFree
 | .agg l=>T.refFreeL l
 | .tup l=>T.refFreeL l
 | .fn _ l=>T.refFreeL l
 | _=>true
def T.refFreeL:List T→Bool
 | []=>true
 | t::l=>t.refFree&&T.refFreeL l
end
mutual
def T.pure:T→Bool
 | .ref ..=>false
 | .addr ..=>false
 | .sl o _ l=>!o&&T.pureL l
 | .win ..=>false
 | .box _ _=>false
 | .fptr t=>t.pure
 | .agg l=>T.pureL l
 | .tup l=>T.pureL l
 | .fn _ l=>T.pureL l
 | _=>true
def T.pureL:List T→Bool
 | []=>true
 | t::l=>t.pure&&T.pureL l
end
def mkv:T→List Value→Value
 | .agg _,cs=>.agg cs.toArray
 | _,cs=>cs.headD undef
def fnVal (f:FuncId) (vs:List Value):Value:=if f<1000000∨vs=[] then .func (.func f) #[] vs.toArray else .func (.func (f-1000000)) vs.toArray #[]
theorem fnVal_lt {f:FuncId} (h:f<1000000) (vs:List Value):fnVal f vs=.func (.func f) #[] vs.toArray:=if_pos (.inl h)
theorem fnVal_nil (f:FuncId):fnVal f []=.func (.func f) #[] #[]:=if_pos (.inr rfl)
theorem fnVal_ge {f:FuncId} (h:¬ f<1000000) {vs:List Value} (hv:vs≠[]):fnVal f vs=.func (.func (f-1000000)) vs.toArray #[]:=if_neg (fun h'=>h'.elim h hv)
structure Cx where
 sz:TypeId→Nat
 w:World
 F:Nat→Prop
 kap:Nat→Option (Nat×List Nat×Value)
 old:Nat→Nat→Prop
 node:Nat→Nat→List Nat→Prop
def Con.ok (X:Cx):Con→Prop
 | .src a c l => l.length ≤ c ∧ c ≤ maxLen ∧ (l ≠ [] → ∃ b off, a = some ⟨b, off, none⟩ ∧ X.F b ∧ ∃ cur e fz, X.w.heap[b]? = some (.cells cur e fz) ∧ off + l.length ≤ cur.size ∧
   ∀ (i:Nat) (x:Int),l[i]? = some x→cur[off+i]? = some (.int .u8 x))
 | _=>True
theorem Con.ok_free (X:Cx) {b:Con} (h:b.free=true):b.ok X:=by
 cases b <;> simp_all [Con.free,Con.ok]
theorem Con.ok_E {X X':Cx} {c:Con} (hw:∀ b:Nat,X.w.heap[b]?≠none→X'.w.heap[b]? = X.w.heap[b]?) (hF:∀ b,X.F b→X'.F b) (h:c.ok X):c.ok X':=by
 cases c with
 | src a cp l=>
  obtain ⟨h1,h2,h3⟩:=h
  refine ⟨h1,h2,fun hl=>?_⟩
  obtain ⟨b,off,ha,hFb,cur,e,fz,hb,h4,h5⟩:=h3 hl
  exact ⟨b,off,ha,hF b hFb,cur,e,fz,(hw b (by rw [hb];exact fun e=>by cases e)).trans hb,h4,h5⟩
 | _=>trivial
theorem Con.ok_mono {X X':Cx} {c:Con} (hF:∀ b,X.F b→X'.F b∧X'.w.heap[b]? = X.w.heap[b]?) (h:c.ok X):c.ok X':=by
 cases c with
 | src a cp l=>
  obtain ⟨h1,h2,h3⟩:=h
  refine ⟨h1,h2,fun hl=>?_⟩
  obtain ⟨b,off,ha,hFb,cur,e,fz,hb,h4,h5⟩:=h3 hl
  exact ⟨b,off,ha,(hF b hFb).1,cur,e,fz,(hF b hFb).2.trans hb,h4,h5⟩
 | _=>trivial
def adv (h:Value) (b off:Nat):List Nat→Value
 | []=>(match h with
  | .slice _ n c=>.slice (some ⟨b,off,none⟩) (n-off) (c-off)
  | v=>v)
 | _::_=>.pointer (some ⟨b,off,none⟩)
mutual
def CR (X:Cx) (s:Nat):List Nat→T→List Value→Prop
 | _,.int k n,cs=>cs=[.int k n]
 | _,.bool b,cs=>cs=[.bool b]
 | _,.str b,cs=>cs=[b.val]∧b.ok X
 | _,.any,cs=>∃ v,cs=[v]
 | _,.nil,cs=>cs=[.slice none 0 0]
 | p, .sl true e l, cs => ∃ b cap cur, cs = [.slice (some ⟨b, 0, none⟩) l.length cap] ∧ X.w.heap[b]? = some (.cells cur e (0, 0)) ∧
   X.kap b=some (s,p,.slice (some ⟨b,0,none⟩) l.length cap)∧l.length≤cap∧cap≤maxLen∧cur.size=cap*X.sz e∧(∀ t∈l,t.size=X.sz e)∧
   CRL X s p 0 l (cur.toList.take (l.length*X.sz e))
 | p, .sl false e l, cs => ∃ a cap, cs = [.slice a l.length cap] ∧ l.length ≤ cap ∧ cap ≤ maxLen ∧ (∀ t ∈ l, t.size = X.sz e) ∧ T.pureL l = true ∧
   (l≠[]→∃ b off,a=some ⟨b,off,none⟩∧X.F b∧∃ cur e' fz,X.w.heap[b]? = some (.cells cur e' fz)∧off+l.length*X.sz e≤cur.size∧
    CRL X s p 0 l ((cur.toList.drop off).take (l.length*X.sz e)))
 | p, .win e k h l, cs => ∃ b cap cur, cs = [.slice (some ⟨b, k, none⟩) (h - k) (cap - k)] ∧ X.w.heap[b]? = some (.cells cur e (0, 0)) ∧
   X.kap b=some (s,p,.slice (some ⟨b,k,none⟩) (h-k) (cap-k))∧(k≤h∧h≤l.length∧l.length≤cap)∧cap≤maxLen∧(cur.size=cap*X.sz e∧X.sz e=1)∧(∀ t∈l,t.size=X.sz e)∧
   CRL X s p 0 l (cur.toList.take (l.length*X.sz e))
 | p, .box e t, cs => ∃ b cur, cs = [.pointer (some ⟨b, 0, none⟩)] ∧ X.w.heap[b]? = some (.cells cur e (0, 0)) ∧
   X.kap b=some (s,p,.pointer (some ⟨b,0,none⟩))∧t.size=X.sz e∧cur.size=t.size∧CR X s (p++[0]) t cur.toList
 | p, .fptr t, cs => ∃ b off cur e fz, cs = [.pointer (some ⟨b, off, none⟩)] ∧ X.F b ∧ X.w.heap[b]? = some (.cells cur e fz) ∧ off + t.size ≤ cur.size ∧ t.pure = true ∧
   CR X s p t ((cur.toList.drop off).take t.size)
 | p,.agg l,cs=>CRL X s p 0 l cs
 | p,.tup l,cs=>∃ vs,cs=[.tuple vs.toArray]∧CRT X s p 0 l vs
 | p,.fn f l,cs=>∃ vs,cs=[fnVal f vs]∧CRT X s p 0 l vs
 | _,.ref s' k p',cs=>∃ v,cs=[v]∧X.old s' k∧(X.node s' k p'→∃ b,X.kap b=some (s',p',v))
 | _,.addr s' k p' off sub,cs=>∃ v,cs=[v]∧X.old s' k∧(X.node s' k p'→∃ b h,X.kap b=some (s',p',h)∧v=adv h b off sub)
def CRL (X:Cx) (s:Nat):List Nat→Nat→List T→List Value→Prop
 | _,_,[],cs=>cs=[]
 | p,i,t::l,cs=>CR X s (p++[i]) t (cs.take t.size)∧CRL X s p (i+1) l (cs.drop t.size)
def CRT (X:Cx) (s:Nat):List Nat→Nat→List T→List Value→Prop
 | _,_,[],vs=>vs=[]
 | p,i,t::l,vs=>(∃ v cs,vs.head? = some v∧v=mkv t cs∧CR X s (p++[i]) t cs)∧CRT X s p (i+1) l vs.tail
end
end
section
mutual
theorem Bg (X:Cx) (s:Nat):∀ (t:T) (p:List Nat) (cs:List Value),CR X s p t cs→cs.length=t.size
 | .int ..,_,_,h=>by simp only [CR] at h;subst h;simp [T.size]
 | .bool ..,_,_,h=>by simp only [CR] at h;subst h;simp [T.size]
 | .str ..,_,_,h=>by simp only [CR] at h;obtain ⟨rfl,_⟩:=h;simp [T.size]
 | .any,_,_,h=>by simp only [CR] at h;obtain ⟨v,rfl⟩:=h;simp [T.size]
 | .nil,_,_,h=>by simp only [CR] at h;subst h;simp [T.size]
 | .sl true ..,_,_,h=>by simp only [CR] at h;obtain ⟨_,_,_,rfl,_⟩:=h;simp [T.size]
 | .win ..,_,_,h=>by simp only [CR] at h;obtain ⟨_,_,_,rfl,_⟩:=h;simp [T.size]
 | .sl false ..,_,_,h=>by simp only [CR] at h;obtain ⟨_,_,rfl,_⟩:=h;simp [T.size]
 | .box ..,_,_,h=>by simp only [CR] at h;obtain ⟨_,_,rfl,_⟩:=h;simp [T.size]
 | .fptr ..,_,_,h=>by simp only [CR] at h;obtain ⟨_,_,_,_,_,rfl,_⟩:=h;simp [T.size]
 | .agg l,p,cs,h=>by simp only [CR] at h;simpa [T.size] using D4 X s l p 0 cs h
 | .tup ..,_,_,h=>by simp only [CR] at h;obtain ⟨_,rfl,_⟩:=h;simp [T.size]
 | .fn ..,_,_,h=>by simp only [CR] at h;obtain ⟨_,rfl,_⟩:=h;simp [T.size]
 | .ref ..,_,_,h=>by simp only [CR] at h;obtain ⟨_,rfl,_⟩:=h;simp [T.size]
 | .addr ..,_,_,h=>by simp only [CR] at h;obtain ⟨_,rfl,_⟩:=h;simp [T.size]
theorem D4 (X:Cx) (s:Nat):∀ (l:List T) (p:List Nat) (i:Nat) (cs:List Value),CRL X s p i l cs→cs.length=T.sizeL l
 | [],_,_,_,h=>by simp only [CRL] at h;subst h;simp [T.sizeL]
 | t::l,p,i,cs,h=>by
  simp only [CRL] at h
  have h1:=Bg X s t _ _ h.1
  have h2:=D4 X s l _ _ _ h.2
  simp only [List.length_take,List.length_drop] at h1 h2
  simp only [T.sizeL]
  omega
end
structure Carry (X X':Cx) (s s':Nat) (p p':List Nat):Prop where
 sz:X'.sz=X.sz
 frozen:∀ b,X.F b→X'.F b∧X'.w.heap[b]? = X.w.heap[b]?
 own:∀ b q v,X.kap b=some (s,p++q,v)→X'.kap b=some (s',p'++q,v)∧X'.w.heap[b]? = X.w.heap[b]?
 refs:∀ u k q,X.old u k→X'.old u k∧(X'.node u k q→X.node u k q∧∀ b v,X.kap b=some (u,q,v)→X'.kap b=some (u,q,v))
theorem Carry.sub {X X':Cx} {s s':Nat} {p p':List Nat} (h:Carry X X' s s' p p') (r:List Nat):Carry X X' s s' (p++r) (p'++r):=
 ⟨h.sz,h.frozen,fun b q v hk=>by
  rw [List.append_assoc] at hk ⊢
  exact h.own b (r++q) v hk,h.refs⟩
mutual
theorem Co (X X':Cx) (s s':Nat):∀ (t:T) (p p':List Nat) (cs:List Value),Carry X X' s s' p p'→CR X s p t cs→CR X' s' p' t cs
 | .int ..,_,_,_,_,h=>by simpa only [CR] using h
 | .bool ..,_,_,_,_,h=>by simpa only [CR] using h
 | .str ..,_,_,_,c,h=>by simp only [CR] at h ⊢;exact ⟨h.1,Con.ok_mono c.frozen h.2⟩
 | .any,_,_,_,_,h=>by simpa only [CR] using h
 | .nil,_,_,_,_,h=>by simpa only [CR] using h
 | .sl true e l,p,p',cs,c,h=>by
  simp only [CR] at h ⊢
  obtain ⟨b,cap,cur,hcs,hb,hk,h1,h2,h3,h4,h5⟩:=h
  have hk':=c.own b [] _ (by simpa using hk)
  simp only [List.append_nil] at hk'
  exact ⟨b,cap,cur,hcs,hk'.2.trans hb,hk'.1,h1,h2,by rw [c.sz];exact h3,by rw [c.sz];exact h4,by rw [c.sz];exact Gy X X' s s' l p p' 0 _ c h5⟩
 | .win e k hh l,p,p',cs,c,h=>by
  simp only [CR] at h ⊢
  obtain ⟨b,cap,cur,hcs,hb,hk,h1,h2,h3,h4,h5⟩:=h
  have hk':=c.own b [] _ (by simpa using hk)
  simp only [List.append_nil] at hk'
  exact ⟨b,cap,cur,hcs,hk'.2.trans hb,hk'.1,h1,h2,by rw [c.sz];exact h3,by rw [c.sz];exact h4,by rw [c.sz];exact Gy X X' s s' l p p' 0 _ c h5⟩
 | .sl false e l,p,p',cs,c,h=>by
  simp only [CR] at h ⊢
  obtain ⟨a,cap,hcs,h1,h2,h3,h4,h5⟩:=h
  refine ⟨a,cap,hcs,h1,h2,by rw [c.sz];exact h3,h4,fun hl=>?_⟩
  obtain ⟨b,off,ha,hF,cur,e',fz,hb,h6,h7⟩:=h5 hl
  have hf:=c.frozen b hF
  exact ⟨b,off,ha,hf.1,cur,e',fz,hf.2.trans hb,by rw [c.sz];exact h6,by rw [c.sz];exact Gy X X' s s' l p p' 0 _ c h7⟩
 | .box e t,p,p',cs,c,h=>by
  simp only [CR] at h ⊢
  obtain ⟨b,cur,hcs,hb,hk,h1,h2,h3⟩:=h
  have hk':=c.own b [] _ (by simpa using hk)
  simp only [List.append_nil] at hk'
  exact ⟨b,cur,hcs,hk'.2.trans hb,hk'.1,by rw [c.sz];exact h1,h2,Co X X' s s' t _ _ _ (c.sub [0]) h3⟩
 | .fptr t,p,p',cs,c,h=>by
  simp only [CR] at h ⊢
  obtain ⟨b,off,cur,e,fz,hcs,hF,hb,h1,h2,h3⟩:=h
  have hf:=c.frozen b hF
  exact ⟨b,off,cur,e,fz,hcs,hf.1,hf.2.trans hb,h1,h2,Co X X' s s' t p p' _ c h3⟩
 | .agg l,p,p',cs,c,h=>by
  simp only [CR] at h ⊢
  exact Gy X X' s s' l p p' 0 _ c h
 | .tup l,p,p',cs,c,h=>by
  simp only [CR] at h ⊢
  obtain ⟨vs,hcs,h1⟩:=h
  exact ⟨vs,hcs,Mf X X' s s' l p p' 0 _ c h1⟩
 | .fn f l,p,p',cs,c,h=>by
  simp only [CR] at h ⊢
  obtain ⟨vs,hcs,h1⟩:=h
  exact ⟨vs,hcs,Mf X X' s s' l p p' 0 _ c h1⟩
 | .ref u k q,p,p',cs,c,h=>by
  simp only [CR] at h ⊢
  obtain ⟨v,hcs,h1,h2⟩:=h
  have hr:=c.refs u k q h1
  refine ⟨v,hcs,hr.1,fun hn=>?_⟩
  obtain ⟨b,hb⟩:=h2 (hr.2 hn).1
  exact ⟨b,(hr.2 hn).2 b v hb⟩
 | .addr u k q off sub,p,p',cs,c,h=>by
  simp only [CR] at h ⊢
  obtain ⟨v,hcs,h1,h2⟩:=h
  have hr:=c.refs u k q h1
  refine ⟨v,hcs,hr.1,fun hn=>?_⟩
  obtain ⟨b,hd,hb,hv⟩:=h2 (hr.2 hn).1
  exact ⟨b,hd,(hr.2 hn).2 b hd hb,hv⟩
theorem Gy (X X':Cx) (s s':Nat):∀ (l:List T) (p p':List Nat) (i:Nat) (cs:List Value),Carry X X' s s' p p'→CRL X s p i l cs→CRL X' s' p' i l cs
 | [],_,_,_,_,_,h=>by simpa only [CRL] using h
 | t::l,p,p',i,cs,c,h=>by
  simp only [CRL] at h ⊢
  exact ⟨Co X X' s s' t _ _ _ (c.sub [i]) h.1,Gy X X' s s' l p p' (i+1) _ c h.2⟩
theorem Mf (X X':Cx) (s s':Nat):∀ (l:List T) (p p':List Nat) (i:Nat) (vs:List Value),Carry X X' s s' p p'→CRT X s p i l vs→CRT X' s' p' i l vs
 | [],_,_,_,_,_,h=>by simpa only [CRT] using h
 | t::l,p,p',i,vs,c,h=>by
  simp only [CRT] at h ⊢
  obtain ⟨⟨v,cs,h1,h2,h3⟩,h4⟩:=h
  exact ⟨⟨v,cs,h1,h2,Co X X' s s' t _ _ _ (c.sub [i]) h3⟩,Mf X X' s s' l p p' (i+1) _ c h4⟩
end
mutual
theorem Cy (X X' : Cx) (s s' : Nat) (hsz : X'.sz = X.sz) (hF : ∀ b, X.F b → X'.F b ∧ X'.w.heap[b]? = X.w.heap[b]?)
  (hr:∀ u k q,X.old u k→X'.old u k∧(X'.node u k q→X.node u k q∧∀ b v,X.kap b=some (u,q,v)→X'.kap b=some (u,q,v))) :
  ∀ (t:T) (p p':List Nat) (cs:List Value),t.noOwn=true→CR X s p t cs→CR X' s' p' t cs
 | .int ..,_,_,_,_,h=>by simpa only [CR] using h
 | .bool ..,_,_,_,_,h=>by simpa only [CR] using h
 | .str ..,_,_,_,_,h=>by simp only [CR] at h ⊢;exact ⟨h.1,Con.ok_mono hF h.2⟩
 | .any,_,_,_,_,h=>by simpa only [CR] using h
 | .nil,_,_,_,_,h=>by simpa only [CR] using h
 | .sl true e l,p,p',cs,c,h=>by simp [T.noOwn] at c
 | .win ..,p,p',cs,c,h=>by simp [T.noOwn] at c
 | .sl false e l,p,p',cs,c,h=>by
  simp only [CR] at h ⊢
  obtain ⟨a,cap,hcs,h1,h2,h3,h4,h5⟩:=h
  refine ⟨a,cap,hcs,h1,h2,by rw [hsz];exact h3,h4,fun hl=>?_⟩
  obtain ⟨b,off,ha,hFb,cur,e',fz,hb,h6,h7⟩:=h5 hl
  have hf:=hF b hFb
  exact ⟨b,off,ha,hf.1,cur,e',fz,hf.2.trans hb,by rw [hsz];exact h6,by rw [hsz];exact Gf X X' s s' hsz hF l p p' 0 _ h4 h7⟩
 | .box e t,p,p',cs,c,h=>by simp [T.noOwn] at c
 | .fptr t,p,p',cs,c,h=>by
  simp only [CR] at h ⊢
  obtain ⟨b,off,cur,e,fz,hcs,hFb,hb,h1,h2,h3⟩:=h
  have hf:=hF b hFb
  exact ⟨b,off,cur,e,fz,hcs,hf.1,hf.2.trans hb,h1,h2,Av X X' s s' hsz hF t p p' _ h2 h3⟩
 | .agg l,p,p',cs,c,h=>by
  simp only [CR] at h ⊢
  exact Rt X X' s s' hsz hF hr l p p' 0 _ (by simpa [T.noOwn] using c) h
 | .tup l,p,p',cs,c,h=>by
  simp only [CR] at h ⊢
  obtain ⟨vs,hcs,h1⟩:=h
  exact ⟨vs,hcs,Mc X X' s s' hsz hF hr l p p' 0 _ (by simpa [T.noOwn] using c) h1⟩
 | .fn f l,p,p',cs,c,h=>by
  simp only [CR] at h ⊢
  obtain ⟨vs,hcs,h1⟩:=h
  exact ⟨vs,hcs,Mc X X' s s' hsz hF hr l p p' 0 _ (by simpa [T.noOwn] using c) h1⟩
 | .ref u k q,p,p',cs,c,h=>by
  simp only [CR] at h ⊢
  obtain ⟨v,hcs,h1,h2⟩:=h
  have hq:=hr u k q h1
  refine ⟨v,hcs,hq.1,fun hn=>?_⟩
  obtain ⟨b,hb⟩:=h2 (hq.2 hn).1
  exact ⟨b,(hq.2 hn).2 b v hb⟩
 | .addr u k q off sub,p,p',cs,c,h=>by
  simp only [CR] at h ⊢
  obtain ⟨v,hcs,h1,h2⟩:=h
  have hq:=hr u k q h1
  refine ⟨v,hcs,hq.1,fun hn=>?_⟩
  obtain ⟨b,hd,hb,hv⟩:=h2 (hq.2 hn).1
  exact ⟨b,hd,(hq.2 hn).2 b hd hb,hv⟩
theorem Rt (X X' : Cx) (s s' : Nat) (hsz : X'.sz = X.sz) (hF : ∀ b, X.F b → X'.F b ∧ X'.w.heap[b]? = X.w.heap[b]?)
  (hr:∀ u k q,X.old u k→X'.old u k∧(X'.node u k q→X.node u k q∧∀ b v,X.kap b=some (u,q,v)→X'.kap b=some (u,q,v))) :
  ∀ (l:List T) (p p':List Nat) (i:Nat) (cs:List Value),T.noOwnL l=true→CRL X s p i l cs→CRL X' s' p' i l cs
 | [],_,_,_,_,_,h=>by simpa only [CRL] using h
 | t::l,p,p',i,cs,c,h=>by
  simp only [CRL] at h ⊢
  simp only [T.noOwnL,Bool.and_eq_true] at c
  exact ⟨Cy X X' s s' hsz hF hr t _ _ _ c.1 h.1,Rt X X' s s' hsz hF hr l p p' (i+1) _ c.2 h.2⟩
theorem Mc (X X' : Cx) (s s' : Nat) (hsz : X'.sz = X.sz) (hF : ∀ b, X.F b → X'.F b ∧ X'.w.heap[b]? = X.w.heap[b]?)
  (hr:∀ u k q,X.old u k→X'.old u k∧(X'.node u k q→X.node u k q∧∀ b v,X.kap b=some (u,q,v)→X'.kap b=some (u,q,v))) :
  ∀ (l:List T) (p p':List Nat) (i:Nat) (vs:List Value),T.noOwnL l=true→CRT X s p i l vs→CRT X' s' p' i l vs
 | [],_,_,_,_,_,h=>by simpa only [CRT] using h
 | t::l,p,p',i,vs,c,h=>by
  simp only [CRT] at h ⊢
  simp only [T.noOwnL,Bool.and_eq_true] at c
  obtain ⟨⟨v,cs,h1,h2,h3⟩,h4⟩:=h
  exact ⟨⟨v,cs,h1,h2,Cy X X' s s' hsz hF hr t _ _ _ c.1 h3⟩,Mc X X' s s' hsz hF hr l p p' (i+1) _ c.2 h4⟩
theorem Av (X X' : Cx) (s s' : Nat) (hsz : X'.sz = X.sz) (hF : ∀ b, X.F b → X'.F b ∧ X'.w.heap[b]? = X.w.heap[b]?) :
  ∀ (t:T) (p p':List Nat) (cs:List Value),t.pure=true→CR X s p t cs→CR X' s' p' t cs
 | .int ..,_,_,_,_,h=>by simpa only [CR] using h
 | .bool ..,_,_,_,_,h=>by simpa only [CR] using h
 | .str ..,_,_,_,_,h=>by simp only [CR] at h ⊢;exact ⟨h.1,Con.ok_mono hF h.2⟩
 | .any,_,_,_,_,h=>by simpa only [CR] using h
 | .nil,_,_,_,_,h=>by simpa only [CR] using h
 | .sl true e l,p,p',cs,c,h=>by simp [T.pure] at c
 | .win ..,p,p',cs,c,h=>by simp [T.pure] at c
 | .sl false e l,p,p',cs,c,h=>by
  simp only [CR] at h ⊢
  obtain ⟨a,cap,hcs,h1,h2,h3,h4,h5⟩:=h
  refine ⟨a,cap,hcs,h1,h2,by rw [hsz];exact h3,h4,fun hl=>?_⟩
  obtain ⟨b,off,ha,hFb,cur,e',fz,hb,h6,h7⟩:=h5 hl
  have hf:=hF b hFb
  exact ⟨b,off,ha,hf.1,cur,e',fz,hf.2.trans hb,by rw [hsz];exact h6,by rw [hsz];exact Gf X X' s s' hsz hF l p p' 0 _ h4 h7⟩
 | .box e t,p,p',cs,c,h=>by simp [T.pure] at c
 | .fptr t,p,p',cs,c,h=>by
  simp only [CR] at h ⊢
  obtain ⟨b,off,cur,e,fz,hcs,hFb,hb,h1,h2,h3⟩:=h
  have hf:=hF b hFb
  exact ⟨b,off,cur,e,fz,hcs,hf.1,hf.2.trans hb,h1,h2,Av X X' s s' hsz hF t p p' _ h2 h3⟩
 | .agg l,p,p',cs,c,h=>by
  simp only [CR] at h ⊢
  exact Gf X X' s s' hsz hF l p p' 0 _ (by simpa [T.pure] using c) h
 | .tup l,p,p',cs,c,h=>by
  simp only [CR] at h ⊢
  obtain ⟨vs,hcs,h1⟩:=h
  exact ⟨vs,hcs,Ov X X' s s' hsz hF l p p' 0 _ (by simpa [T.pure] using c) h1⟩
 | .fn f l,p,p',cs,c,h=>by
  simp only [CR] at h ⊢
  obtain ⟨vs,hcs,h1⟩:=h
  exact ⟨vs,hcs,Ov X X' s s' hsz hF l p p' 0 _ (by simpa [T.pure] using c) h1⟩
 | .ref u k q,p,p',cs,c,h=>by simp [T.pure] at c
 | .addr u k q off sub,p,p',cs,c,h=>by simp [T.pure] at c
theorem Gf (X X' : Cx) (s s' : Nat) (hsz : X'.sz = X.sz) (hF : ∀ b, X.F b → X'.F b ∧ X'.w.heap[b]? = X.w.heap[b]?) :
  ∀ (l:List T) (p p':List Nat) (i:Nat) (cs:List Value),T.pureL l=true→CRL X s p i l cs→CRL X' s' p' i l cs
 | [],_,_,_,_,_,h=>by simpa only [CRL] using h
 | t::l,p,p',i,cs,c,h=>by
  simp only [CRL] at h ⊢
  simp only [T.pureL,Bool.and_eq_true] at c
  exact ⟨Av X X' s s' hsz hF t _ _ _ c.1 h.1,Gf X X' s s' hsz hF l p p' (i+1) _ c.2 h.2⟩
theorem Ov (X X' : Cx) (s s' : Nat) (hsz : X'.sz = X.sz) (hF : ∀ b, X.F b → X'.F b ∧ X'.w.heap[b]? = X.w.heap[b]?) :
  ∀ (l:List T) (p p':List Nat) (i:Nat) (vs:List Value),T.pureL l=true→CRT X s p i l vs→CRT X' s' p' i l vs
 | [],_,_,_,_,_,h=>by simpa only [CRT] using h
 | t::l,p,p',i,vs,c,h=>by
  simp only [CRT] at h ⊢
  simp only [T.pureL,Bool.and_eq_true] at c
  obtain ⟨⟨v,cs,h1,h2,h3⟩,h4⟩:=h
  exact ⟨⟨v,cs,h1,h2,Av X X' s s' hsz hF t _ _ _ c.1 h3⟩,Ov X X' s s' hsz hF l p p' (i+1) _ c.2 h4⟩
end
end
section
def T.isAgg:T→Bool
 | .agg _=>true
 | _=>false
def T.get:List Nat→T→Option T
 | [],t=>some t
 | i::p,.agg l=>(l[i]?).bind (T.get p)
 | i::p,.tup l=>(l[i]?).bind (T.get p)
 | i::p,.sl true _ l=>(l[i]?).bind (T.get p)
 | i::p,.win _ _ _ l=>(l[i]?).bind (T.get p)
 | 0::p,.box _ t=>T.get p t
 | _::_,_=>none
def T.set (u:T):List Nat→T→T
 | [],_=>u
 | i::p,.agg l=>.agg (l.modify i (T.set u p))
 | i::p,.tup l=>.tup (l.modify i (T.set u p))
 | i::p,.sl true e l=>.sl true e (l.modify i (T.set u p))
 | i::p,.win e k h l=>.win e k h (l.modify i (T.set u p))
 | 0::p,.box e t=>.box e (T.set u p t)
 | _::_,t=>t
theorem Da {t t':T} (h:t.isAgg=t'.isAgg) (cs:List Value):mkv t cs=mkv t' cs:=by
 cases t <;> cases t' <;> simp_all [T.isAgg,mkv]
theorem I7 {l:List T} {i:Nat} {t:T} {f:T→T} (hi:l[i]? = some t) (h:(f t).size=t.size):T.sizeL (l.modify i f)=T.sizeL l:=by
 induction l generalizing i with
 | nil=>simp at hi
 | cons x l ih=>
  cases i with
  | zero=>
   simp at hi;subst hi
   simp [T.sizeL,h]
  | succ i=>
   simp at hi
   simp [T.sizeL,ih hi]
theorem T.size_set (u:T):∀ (q:List Nat) (t t0:T),T.get q t=some t0→u.size=t0.size→(T.set u q t).size=t.size
 | [],t,t0,h,hu=>by simp [T.get] at h;subst h;simpa [T.set] using hu
 | i::q,.agg l,t0,h,hu=>by
  simp only [T.get] at h
  cases hl:l[i]? with
  | none=>simp [hl] at h
  | some x=>
   simp [hl] at h
   simp only [T.set,T.size]
   exact I7 hl (T.size_set u q x t0 h hu)
 | i::q,.tup l,t0,h,hu=>by simp [T.set,T.size]
 | i::q,.sl true e l,t0,h,hu=>by simp [T.set,T.size]
 | i::q,.win ..,t0,h,hu=>by simp [T.set,T.size]
 | 0::q,.box e t,t0,h,hu=>by simp [T.set,T.size]
 | i::q,.int ..,t0,h,hu=>by simp [T.get] at h
 | i::q,.bool ..,t0,h,hu=>by simp [T.get] at h
 | i::q,.str ..,t0,h,hu=>by simp [T.get] at h
 | i::q,.any,t0,h,hu=>by simp [T.get] at h
 | i::q,.nil,t0,h,hu=>by simp [T.get] at h
 | i::q,.sl false e l,t0,h,hu=>by simp [T.get] at h
 | (i+1)::q,.box e t,t0,h,hu=>by simp [T.get] at h
 | i::q,.fptr ..,t0,h,hu=>by simp [T.get] at h
 | i::q,.fn ..,t0,h,hu=>by simp [T.get] at h
 | i::q,.ref ..,t0,h,hu=>by simp [T.get] at h
 | i::q,.addr ..,t0,h,hu=>by simp [T.get] at h
theorem T.isAgg_set (u:T):∀ (q:List Nat) (t t0:T),T.get q t=some t0→u.isAgg=t0.isAgg→(T.set u q t).isAgg=t.isAgg
 | [],t,t0,h,hu=>by simp [T.get] at h;subst h;simpa [T.set] using hu
 | i::q,.agg l,t0,h,hu=>by simp [T.set,T.isAgg]
 | i::q,.tup l,t0,h,hu=>by simp [T.set,T.isAgg]
 | i::q,.sl true e l,t0,h,hu=>by simp [T.set,T.isAgg]
 | i::q,.win ..,t0,h,hu=>by simp [T.set,T.isAgg]
 | 0::q,.box e t,t0,h,hu=>by simp [T.set,T.isAgg]
 | i::q,.int ..,t0,h,hu=>by simp [T.get] at h
 | i::q,.bool ..,t0,h,hu=>by simp [T.get] at h
 | i::q,.str ..,t0,h,hu=>by simp [T.get] at h
 | i::q,.any,t0,h,hu=>by simp [T.get] at h
 | i::q,.nil,t0,h,hu=>by simp [T.get] at h
 | i::q,.sl false e l,t0,h,hu=>by simp [T.get] at h
 | (i+1)::q,.box e t,t0,h,hu=>by simp [T.get] at h
 | i::q,.fptr ..,t0,h,hu=>by simp [T.get] at h
 | i::q,.fn ..,t0,h,hu=>by simp [T.get] at h
 | i::q,.ref ..,t0,h,hu=>by simp [T.get] at h
 | i::q,.addr ..,t0,h,hu=>by simp [T.get] at h
structure Around (X X':Cx) (s:Nat) (p q:List Nat):Prop where
 sz:X'.sz=X.sz
 frozen:∀ b,X.F b→X'.F b∧X'.w.heap[b]? = X.w.heap[b]?
 own:∀ b r v,X.kap b=some (s,p++r,v)→¬ q <+: r→X'.kap b=some (s,p++r,v)∧X'.w.heap[b]? = X.w.heap[b]?
 refs:∀ u k q,X.old u k→X'.old u k∧(X'.node u k q→X.node u k q∧∀ b v,X.kap b=some (u,q,v)→X'.kap b=some (u,q,v))
theorem Around.carry {X X':Cx} {s:Nat} {p:List Nat} {i:Nat} {q:List Nat} (h:Around X X' s p (i::q)) {j:Nat} (hj:j≠i):Carry X X' s s (p++[j]) (p++[j]):=
 ⟨h.sz,h.frozen,fun b r v hk=>by
  rw [List.append_assoc] at hk ⊢
  exact h.own b _ v hk (by simp only [List.singleton_append,List.cons_prefix_cons];exact fun e=>hj e.1.symm),h.refs⟩
theorem Around.down {X X':Cx} {s:Nat} {p:List Nat} {i:Nat} {q:List Nat} (h:Around X X' s p (i::q)):Around X X' s (p++[i]) q:=
 ⟨h.sz,h.frozen,fun b r v hk hn=>by
  rw [List.append_assoc] at hk ⊢
  exact h.own b _ v hk (by simp only [List.singleton_append,List.cons_prefix_cons];exact fun e=>hn e.2),h.refs⟩
theorem Hk {X X' : Cx} {s : Nat} {p : List Nat} {f : T → T} : ∀ (l : List T) (i j : Nat) (cs : List Value) (t : T), l[i]? = some t → CRL X s p j l cs →
  (∀ n,n≠j+i→Carry X X' s s (p++[n]) (p++[n]))→(f t).size=t.size→
  ∃ cs0,CR X s (p++[j+i]) t cs0∧(CR X' s (p++[j+i]) (f t) cs0→CRL X' s p j (l.modify i f) cs)
 | [],i,j,cs,t,hi,h,hc,hs=>by simp at hi
 | x::l,0,j,cs,t,hi,h,hc,hs=>by
  simp at hi;subst hi
  simp only [CRL] at h
  refine ⟨_,by simpa using h.1,fun h'=>?_⟩
  simp only [List.modify_zero_cons,CRL,hs]
  refine ⟨by simpa using h',?_⟩
  have key:∀ (l:List T) (n:Nat) (cs:List Value),j<n→CRL X s p n l cs→CRL X' s p n l cs:=by
   intro l
   induction l with
   | nil=>intro n cs _ h;simpa only [CRL] using h
   | cons y l ih=>
    intro n cs hn h
    simp only [CRL] at h ⊢
    exact ⟨Co X X' s s y _ _ _ (hc n (by omega)) h.1,ih (n+1) _ (by omega) h.2⟩
  exact key l (j+1) _ (by omega) h.2
 | x::l,i+1,j,cs,t,hi,h,hc,hs=>by
  simp at hi
  simp only [CRL] at h
  obtain ⟨cs0,h0,h1⟩:=Hk l i (j+1) (cs.drop x.size) t hi h.2 (fun n hn=>hc n (by omega)) hs
  refine ⟨cs0,by rw [show j+(i+1)=j+1+i by omega];exact h0,fun h'=>?_⟩
  simp only [List.modify_succ_cons,CRL]
  exact ⟨Co X X' s s x _ _ _ (hc j (by omega)) h.1,h1 (by rw [show j+1+i=j+(i+1) by omega];exact h')⟩
theorem Px {X X' : Cx} {s : Nat} {p : List Nat} {f : T → T} : ∀ (l : List T) (i j : Nat) (vs : List Value) (t : T), l[i]? = some t → CRT X s p j l vs →
  (∀ n,n≠j+i→Carry X X' s s (p++[n]) (p++[n]))→(f t).isAgg=t.isAgg→
  ∃ cs0,CR X s (p++[j+i]) t cs0∧vs[i]? = some (mkv t cs0)∧(CR X' s (p++[j+i]) (f t) cs0→CRT X' s p j (l.modify i f) vs)
 | [],i,j,vs,t,hi,h,hc,hs=>by simp at hi
 | x::l,0,j,vs,t,hi,h,hc,hs=>by
  simp at hi;subst hi
  simp only [CRT] at h
  obtain ⟨⟨v,cs,h1,h2,h3⟩,h4⟩:=h
  refine ⟨cs,by simpa using h3,by rw [← h2,← h1];cases vs <;> simp,fun h'=>?_⟩
  simp only [List.modify_zero_cons,CRT]
  refine ⟨⟨v,cs,h1,h2.trans (Da hs.symm cs),by simpa using h'⟩,?_⟩
  have key:∀ (l:List T) (n:Nat) (vs:List Value),j<n→CRT X s p n l vs→CRT X' s p n l vs:=by
   intro l
   induction l with
   | nil=>intro n cs _ h;simpa only [CRT] using h
   | cons y l ih=>
    intro n vs hn h
    simp only [CRT] at h ⊢
    obtain ⟨⟨v,cs,h1,h2,h3⟩,h4⟩:=h
    exact ⟨⟨v,cs,h1,h2,Co X X' s s y _ _ _ (hc n (by omega)) h3⟩,ih (n+1) _ (by omega) h4⟩
  exact key l (j+1) _ (by omega) h4
 | x::l,i+1,j,vs,t,hi,h,hc,hs=>by
  simp at hi
  simp only [CRT] at h
  obtain ⟨⟨v,cs,h1,h2,h3⟩,h4⟩:=h
  obtain ⟨cs0,h0,hv,h5⟩:=Px l i (j+1) vs.tail t hi h4 (fun n hn=>hc n (by omega)) hs
  refine ⟨cs0,by rw [show j+(i+1)=j+1+i by omega];exact h0,by cases vs <;> simp_all,fun h'=>?_⟩
  simp only [List.modify_succ_cons,CRT]
  exact ⟨⟨v,cs,h1,h2,Co X X' s s x _ _ _ (hc j (by omega)) h3⟩,h5 (by rw [show j+1+i=j+(i+1) by omega];exact h')⟩
theorem F7 {l:List T} {i:Nat} {t:T} {f:T→T} {n:Nat} (hi:l[i]? = some t) (h:(f t).size=t.size) (hl:∀ x∈l,x.size=n):∀ x∈l.modify i f,x.size=n:=by
 intro x hx
 rw [List.mem_iff_getElem?] at hx
 obtain ⟨j,hj⟩:=hx
 rw [List.getElem?_modify] at hj
 by_cases e:i=j
 ·subst e
  simp [hi] at hj
  subst hj
  rw [h]
  exact hl t (List.mem_of_getElem? hi)
 ·simp [e] at hj
  exact hl x (List.mem_of_getElem? hj)
theorem Dj {X X' : Cx} {s : Nat} : ∀ (q : List Nat) (t : T) (p : List Nat) (cs : List Value) (t0 t1 : T), T.get q t = some t0 → CR X s p t cs →
  t1.size=t0.size→t1.isAgg=t0.isAgg→Around X X' s p q→
  ∃ cs0,CR X s (p++q) t0 cs0∧(CR X' s (p++q) t1 cs0→CR X' s p (T.set t1 q t) cs)
 | [],t,p,cs,t0,t1,hg,h,hs,ha,hA=>by
  simp [T.get] at hg;subst hg
  exact ⟨cs,by simpa using h,by simp [T.set]⟩
 | i::q,.agg l,p,cs,t0,t1,hg,h,hs,ha,hA=>by
  simp only [T.get] at hg
  cases hl:l[i]? with
  | none=>simp [hl] at hg
  | some x=>
   simp [hl] at hg
   simp only [CR] at h
   have hc:∀ n,n≠0+i→Carry X X' s s (p++[n]) (p++[n]):=fun n hn=>hA.carry (by omega)
   obtain ⟨cx,h0,h1⟩:=Hk (f:=T.set t1 q) l i 0 cs x hl h hc (T.size_set t1 q x t0 hg hs)
   simp only [Nat.zero_add] at h0 h1
   obtain ⟨cs0,h2,h3⟩:=Dj q x (p++[i]) cx t0 t1 hg h0 hs ha hA.down
   refine ⟨cs0,by simpa using h2,fun h'=>?_⟩
   simp only [T.set,CR]
   exact h1 (h3 (by simpa using h'))
 | i::q,.tup l,p,cs,t0,t1,hg,h,hs,ha,hA=>by
  simp only [T.get] at hg
  cases hl:l[i]? with
  | none=>simp [hl] at hg
  | some x=>
   simp [hl] at hg
   simp only [CR] at h
   obtain ⟨vs,hcs,h⟩:=h
   have hc:∀ n,n≠0+i→Carry X X' s s (p++[n]) (p++[n]):=fun n hn=>hA.carry (by omega)
   obtain ⟨cx,h0,_,h1⟩:=Px (f:=T.set t1 q) l i 0 vs x hl h hc (T.isAgg_set t1 q x t0 hg ha)
   simp only [Nat.zero_add] at h0 h1
   obtain ⟨cs0,h2,h3⟩:=Dj q x (p++[i]) cx t0 t1 hg h0 hs ha hA.down
   refine ⟨cs0,by simpa using h2,fun h'=>?_⟩
   simp only [T.set,CR]
   exact ⟨vs,hcs,h1 (h3 (by simpa using h'))⟩
 | i::q,.sl true e l,p,cs,t0,t1,hg,h,hs,ha,hA=>by
  simp only [T.get] at hg
  cases hl:l[i]? with
  | none=>simp [hl] at hg
  | some x=>
   simp [hl] at hg
   simp only [CR] at h
   obtain ⟨b,cap,cur,hcs,hb,hk,hn1,hn2,hn3,hn4,h⟩:=h
   have hc:∀ n,n≠0+i→Carry X X' s s (p++[n]) (p++[n]):=fun n hn=>hA.carry (by omega)
   have hsz:=T.size_set t1 q x t0 hg hs
   obtain ⟨cx,h0,h1⟩:=Hk (f:=T.set t1 q) l i 0 _ x hl h hc hsz
   simp only [Nat.zero_add] at h0 h1
   obtain ⟨cs0,h2,h3⟩:=Dj q x (p++[i]) cx t0 t1 hg h0 hs ha hA.down
   refine ⟨cs0,by simpa using h2,fun h'=>?_⟩
   have hown:=hA.own b [] _ (by simpa using hk) (by simp)
   simp only [List.append_nil] at hown
   simp only [T.set,CR,List.length_modify]
   exact ⟨b,cap,cur,hcs,hown.2.trans hb,hown.1,hn1,hn2,by rw [hA.sz];exact hn3,by rw [hA.sz];exact F7 hl hsz hn4,by rw [hA.sz];exact h1 (h3 (by simpa using h'))⟩
 | i::q,.win e k hh l,p,cs,t0,t1,hg,h,hs,ha,hA=>by
  simp only [T.get] at hg
  cases hl:l[i]? with
  | none=>simp [hl] at hg
  | some x=>
   simp [hl] at hg
   simp only [CR] at h
   obtain ⟨b,cap,cur,hcs,hb,hk,hn1,hn2,hn3,hn4,h⟩:=h
   have hc:∀ n,n≠0+i→Carry X X' s s (p++[n]) (p++[n]):=fun n hn=>hA.carry (by omega)
   have hsz:=T.size_set t1 q x t0 hg hs
   obtain ⟨cx,h0,h1⟩:=Hk (f:=T.set t1 q) l i 0 _ x hl h hc hsz
   simp only [Nat.zero_add] at h0 h1
   obtain ⟨cs0,h2,h3⟩:=Dj q x (p++[i]) cx t0 t1 hg h0 hs ha hA.down
   refine ⟨cs0,by simpa using h2,fun h'=>?_⟩
   have hown:=hA.own b [] _ (by simpa using hk) (by simp)
   simp only [List.append_nil] at hown
   simp only [T.set,CR,List.length_modify]
   exact ⟨b,cap,cur,hcs,hown.2.trans hb,hown.1,hn1,hn2,by rw [hA.sz];exact hn3,by rw [hA.sz];exact F7 hl hsz hn4,by rw [hA.sz];exact h1 (h3 (by simpa using h'))⟩
 | 0::q,.box e t,p,cs,t0,t1,hg,h,hs,ha,hA=>by
  simp only [T.get] at hg
  simp only [CR] at h
  obtain ⟨b,cur,hcs,hb,hk,hn1,hn2,h⟩:=h
  obtain ⟨cs0,h2,h3⟩:=Dj q t (p++[0]) cur.toList t0 t1 hg h hs ha hA.down
  refine ⟨cs0,by simpa using h2,fun h'=>?_⟩
  have hown:=hA.own b [] _ (by simpa using hk) (by simp)
  simp only [List.append_nil] at hown
  have hsz:=T.size_set t1 q t t0 hg hs
  simp only [T.set,CR]
  exact ⟨b,cur,hcs,hown.2.trans hb,hown.1,by rw [hA.sz,hsz];exact hn1,by rw [hsz];exact hn2,h3 (by simpa using h')⟩
 | i::q,.int ..,p,cs,t0,t1,hg,h,hs,ha,hA=>by simp [T.get] at hg
 | i::q,.bool ..,p,cs,t0,t1,hg,h,hs,ha,hA=>by simp [T.get] at hg
 | i::q,.str ..,p,cs,t0,t1,hg,h,hs,ha,hA=>by simp [T.get] at hg
 | i::q,.any,p,cs,t0,t1,hg,h,hs,ha,hA=>by simp [T.get] at hg
 | i::q,.nil,p,cs,t0,t1,hg,h,hs,ha,hA=>by simp [T.get] at hg
 | i::q,.sl false e l,p,cs,t0,t1,hg,h,hs,ha,hA=>by simp [T.get] at hg
 | (i+1)::q,.box e t,p,cs,t0,t1,hg,h,hs,ha,hA=>by simp [T.get] at hg
 | i::q,.fptr ..,p,cs,t0,t1,hg,h,hs,ha,hA=>by simp [T.get] at hg
 | i::q,.fn ..,p,cs,t0,t1,hg,h,hs,ha,hA=>by simp [T.get] at hg
 | i::q,.ref ..,p,cs,t0,t1,hg,h,hs,ha,hA=>by simp [T.get] at hg
 | i::q,.addr ..,p,cs,t0,t1,hg,h,hs,ha,hA=>by simp [T.get] at hg
theorem Around.refl (X:Cx) (s:Nat) (p q:List Nat):Around X X s p q:=
 ⟨rfl,fun _ h=>⟨h,rfl⟩,fun _ _ _ h _=>⟨h,rfl⟩,fun _ _ _ h=>⟨h,fun hn=>⟨hn,fun _ _ hk=>hk⟩⟩⟩
theorem Ame {X:Cx} {s:Nat} (q:List Nat) (t:T) (p:List Nat) (cs:List Value) (t0:T) (hg:T.get q t=some t0) (h:CR X s p t cs):∃ cs0,CR X s (p++q) t0 cs0:=
 let ⟨cs0,h0,_⟩:=Dj (X':=X) q t p cs t0 t0 hg h rfl rfl (Around.refl X s _ _)
 ⟨cs0,h0⟩
end
section
def splice (cs:List Value) (o:Nat) (c:List Value):List Value:=cs.take o++c++cs.drop (o+c.length)
theorem Lb {cs:List Value} {o:Nat} {c:List Value} (h:o+c.length≤cs.length):(splice cs o c).length=cs.length:=by
 simp only [splice,List.length_append,List.length_take,List.length_drop];omega
theorem Oa {cs:List Value} {o n:Nat} {c:List Value} (h:o+c.length≤n) (hn:n≤cs.length):(splice cs o c).take n=splice (cs.take n) o c:=by
 simp only [splice]
 rw [List.take_append,List.take_append]
 simp only [List.length_append,List.length_take]
 rw [show min o cs.length=o by omega,List.take_of_length_le (l:=List.take o cs) (by simp;omega),List.take_of_length_le (l:=c) (by omega),List.take_take,show min o n=o by omega,List.drop_take]
theorem Wx {cs:List Value} {m o:Nat} {c:List Value} (h:m≤cs.length):(splice cs (m+o) c).take m=cs.take m∧(splice cs (m+o) c).drop m=splice (cs.drop m) o c:=by
 constructor
 ·simp only [splice]
  rw [List.append_assoc,List.take_append_of_le_length (by simp;omega),List.take_take]
  congr 1;omega
 ·simp only [splice]
  rw [List.append_assoc,List.append_assoc,List.drop_append_of_le_length (by simp;omega),List.drop_take,List.drop_drop]
  rw [show m+o-m=o by omega,show m+(o+c.length)=m+o+c.length by omega]
def T.getI:List Nat→T→Option T
 | [],t=>some t
 | i::p,.agg l=>(l[i]?).bind (T.getI p)
 | _::_,_=>none
def T.offI:List Nat→T→Nat
 | i::p,.agg l=>T.sizeL (l.take i)+((l[i]?).map (T.offI p)).getD 0
 | _,_=>0
theorem Du (l:List T) (i:Nat) (t:T) (h:l[i]? = some t):T.sizeL (l.take i)+t.size≤T.sizeL l:=by
 induction l generalizing i with
 | nil=>simp at h
 | cons x l ih=>
  cases i with
  | zero=>simp at h;subst h;simp [T.sizeL]
  | succ i=>simp at h;have:=ih i h;simp [T.sizeL];omega
theorem Ld (cs : List Value) (m n o : Nat) (c : List Value) (h : m + n ≤ cs.length) (ho : o + c.length ≤ n) :
  splice cs m (splice ((cs.drop m).take n) o c)=splice cs (m+o) c:=by
 have hl:(splice ((cs.drop m).take n) o c).length=n:=by
  rw [Lb (by simp;omega)];simp;omega
 have h1:∀ (d:List Value) (k:Nat),k≤n→n≤d.length→d.drop k=(d.take n).drop k++d.drop n:=by
  intro d k hk hn
  have:=List.drop_append_of_le_length (l₁:=d.take n) (l₂:=d.drop n) (i:=k) (by simp;omega)
  rw [List.take_append_drop] at this
  exact this
 have h2:=h1 (cs.drop m) (o+c.length) ho (by simp;omega)
 rw [List.drop_drop,List.drop_drop] at h2
 show cs.take m++splice ((cs.drop m).take n) o c++cs.drop (m+(splice ((cs.drop m).take n) o c).length)=cs.take (m+o)++c++cs.drop (m+o+c.length)
 rw [hl,show m+o+c.length=m+(o+c.length) by omega,h2,List.take_add]
 simp only [splice,List.append_assoc,List.take_take]
 rw [show min o n=o by omega]
theorem Fe {X : Cx} {s : Nat} {p : List Nat} : ∀ (l : List T) (i j : Nat) (cs : List Value) (t : T), l[i]? = some t → CRL X s p j l cs →
  CR X s (p++[j+i]) t ((cs.drop (T.sizeL (l.take i))).take t.size)
 | [],i,j,cs,t,hi,h=>by simp at hi
 | x::l,0,j,cs,t,hi,h=>by
  simp at hi;subst hi
  simp only [CRL] at h
  simpa [T.sizeL] using h.1
 | x::l,i+1,j,cs,t,hi,h=>by
  simp at hi
  simp only [CRL] at h
  have:=Fe l i (j+1) _ t hi h.2
  rw [List.drop_drop] at this
  rw [show j+(i+1)=j+1+i by omega]
  simpa [T.sizeL] using this
theorem M6 {X X' : Cx} {s : Nat} {p : List Nat} : ∀ (l : List T) (i j : Nat) (cs : List Value) (t t1 : T) (c1 : List Value), l[i]? = some t → CRL X s p j l cs →
  (∀ n,n≠j+i→Carry X X' s s (p++[n]) (p++[n]))→t1.size=t.size→c1.length=t.size→CR X' s (p++[j+i]) t1 c1→
  CRL X' s p j (l.set i t1) (splice cs (T.sizeL (l.take i)) c1)
 | [],i,j,cs,t,t1,c1,hi,h,hc,hs,hl,h1=>by simp at hi
 | x::l,0,j,cs,t,t1,c1,hi,h,hc,hs,hl,h1=>by
  simp at hi;subst hi
  simp only [CRL] at h
  have hlen:=Bg X s x _ _ h.1
  simp only [List.length_take] at hlen
  have hA:=Oa (cs:=cs) (o:=0) (n:=x.size) (c:=c1) (by omega) (by omega)
  simp only [List.set_cons_zero,CRL,List.take_zero,T.sizeL,hs]
  constructor
  ·rw [hA]
   simp only [splice,List.take_zero,List.nil_append,Nat.zero_add]
   rw [List.drop_of_length_le (by simp;omega),List.append_nil]
   simpa using h1
  ·have : (splice cs 0 c1).drop x.size = cs.drop x.size := by
    simp only [splice,List.take_zero,List.nil_append,Nat.zero_add]
    rw [List.drop_append,List.drop_of_length_le (by omega),List.nil_append,List.drop_drop]
    congr 1;omega
   rw [this]
   have key:∀ (l:List T) (n:Nat) (cs:List Value),j<n→CRL X s p n l cs→CRL X' s p n l cs:=by
    intro l
    induction l with
    | nil=>intro n cs _ h;simpa only [CRL] using h
    | cons y l ih=>
     intro n cs hn h
     simp only [CRL] at h ⊢
     exact ⟨Co X X' s s y _ _ _ (hc n (by omega)) h.1,ih (n+1) _ (by omega) h.2⟩
   exact key l (j+1) _ (by omega) h.2
 | x::l,i+1,j,cs,t,t1,c1,hi,h,hc,hs,hl,h1=>by
  simp at hi
  simp only [CRL] at h
  have hlen:=Bg X s x _ _ h.1
  simp only [List.length_take] at hlen
  have hA:=Wx (cs:=cs) (m:=x.size) (o:=T.sizeL (l.take i)) (c:=c1) (by omega)
  have hB:=M6 l i (j+1) (cs.drop x.size) t t1 c1 hi h.2 (fun n hn=>hc n (by omega)) hs hl (by rw [show j+1+i=j+(i+1) by omega];exact h1)
  simp only [List.set_cons_succ,CRL,List.take_succ_cons,T.sizeL]
  rw [hA.1,hA.2]
  exact ⟨Co X X' s s x _ _ _ (hc j (by omega)) h.1,hB⟩
theorem Rb {X : Cx} {s : Nat} : ∀ (sub : List Nat) (t : T) (p : List Nat) (cs : List Value) (t0 : T), T.getI sub t = some t0 → CR X s p t cs →
  CR X s (p++sub) t0 ((cs.drop (T.offI sub t)).take t0.size)∧T.offI sub t+t0.size≤t.size
 | [],t,p,cs,t0,hg,h=>by
  simp [T.getI] at hg;subst hg
  have:=Bg X s t p cs h
  refine ⟨?_,by cases t <;> simp [T.offI]⟩
  have hz:T.offI [] t=0:=by cases t <;> rfl
  rw [hz,List.drop_zero,List.take_of_length_le (by omega)]
  simpa using h
 | i::sub,.agg l,p,cs,t0,hg,h=>by
  simp only [T.getI] at hg
  cases hl:l[i]? with
  | none=>simp [hl] at hg
  | some x=>
   simp [hl] at hg
   simp only [CR] at h
   have h1:=Fe l i 0 cs x hl h
   simp only [Nat.zero_add] at h1
   obtain ⟨h2,h3⟩:=Rb sub x (p++[i]) _ t0 hg h1
   have hsz:=Du l i x hl
   simp only [T.offI,hl,Option.map_some,Option.getD_some,T.size]
   refine ⟨?_,by omega⟩
   have e:((List.drop (T.sizeL (List.take i l)) cs).take x.size).drop (T.offI sub x)=((cs.drop (T.sizeL (l.take i)+T.offI sub x)).take (x.size-T.offI sub x)):=by
    rw [List.drop_take,List.drop_drop]
   rw [e,List.take_take,show min t0.size (x.size-T.offI sub x)=t0.size by omega] at h2
   simpa using h2
 | i::sub,.int ..,p,cs,t0,hg,h=>by simp [T.getI] at hg
 | i::sub,.bool ..,p,cs,t0,hg,h=>by simp [T.getI] at hg
 | i::sub,.str ..,p,cs,t0,hg,h=>by simp [T.getI] at hg
 | i::sub,.any,p,cs,t0,hg,h=>by simp [T.getI] at hg
 | i::sub,.nil,p,cs,t0,hg,h=>by simp [T.getI] at hg
 | i::sub,.sl ..,p,cs,t0,hg,h=>by simp [T.getI] at hg
 | i::sub,.win ..,p,cs,t0,hg,h=>by simp [T.getI] at hg
 | i::sub,.box ..,p,cs,t0,hg,h=>by simp [T.getI] at hg
 | i::sub,.fptr ..,p,cs,t0,hg,h=>by simp [T.getI] at hg
 | i::sub,.tup ..,p,cs,t0,hg,h=>by simp [T.getI] at hg
 | i::sub,.fn ..,p,cs,t0,hg,h=>by simp [T.getI] at hg
 | i::sub,.ref ..,p,cs,t0,hg,h=>by simp [T.getI] at hg
 | i::sub,.addr ..,p,cs,t0,hg,h=>by simp [T.getI] at hg
theorem Bi {α:Type} (l:List α) (i:Nat) (f:α→α) (x:α) (h:l[i]? = some x):l.modify i f=l.set i (f x):=by
 apply List.ext_getElem?
 intro j
 rw [List.getElem?_modify,List.getElem?_set]
 by_cases e:i=j
 ·subst e
  obtain ⟨hlt,_⟩:=List.getElem?_eq_some_iff.1 h
  rw [List.getElem?_eq_getElem hlt] at h
  simp at h
  simp [hlt,h]
 ·simp [e]
theorem Ka:∀ (sub:List Nat) (t t0:T),T.getI sub t=some t0→T.get sub t=some t0
 | [],t,t0,h=>by simpa [T.getI,T.get] using h
 | i::sub,.agg l,t0,h=>by
  simp only [T.getI] at h
  cases hl:l[i]? with
  | none=>simp [hl] at h
  | some x=>
   simp [hl] at h
   simp [T.get,hl,Ka sub x t0 h]
 | i::sub,.int ..,t0,hg=>by simp [T.getI] at hg
 | i::sub,.bool ..,t0,hg=>by simp [T.getI] at hg
 | i::sub,.str ..,t0,hg=>by simp [T.getI] at hg
 | i::sub,.any,t0,hg=>by simp [T.getI] at hg
 | i::sub,.nil,t0,hg=>by simp [T.getI] at hg
 | i::sub,.sl ..,t0,hg=>by simp [T.getI] at hg
 | i::sub,.win ..,t0,hg=>by simp [T.getI] at hg
 | i::sub,.box ..,t0,hg=>by simp [T.getI] at hg
 | i::sub,.fptr ..,t0,hg=>by simp [T.getI] at hg
 | i::sub,.tup ..,t0,hg=>by simp [T.getI] at hg
 | i::sub,.fn ..,t0,hg=>by simp [T.getI] at hg
 | i::sub,.ref ..,t0,hg=>by simp [T.getI] at hg
 | i::sub,.addr ..,t0,hg=>by simp [T.getI] at hg
theorem Yf {X X' : Cx} {s : Nat} : ∀ (sub : List Nat) (t : T) (p : List Nat) (cs : List Value) (t0 t1 : T) (c1 : List Value), T.getI sub t = some t0 → CR X s p t cs →
  t1.size=t0.size→c1.length=t0.size→Around X X' s p sub→CR X' s (p++sub) t1 c1→
  CR X' s p (T.set t1 sub t) (splice cs (T.offI sub t) c1)
 | [],t,p,cs,t0,t1,c1,hg,h,hs,hl,hA,h1=>by
  simp [T.getI] at hg;subst hg
  have:=Bg X s t p cs h
  have hz:T.offI [] t=0:=by cases t <;> rfl
  simp only [T.set,hz,splice,List.take_zero,List.nil_append,Nat.zero_add]
  rw [List.drop_of_length_le (by omega),List.append_nil]
  simpa using h1
 | i::sub,.agg l,p,cs,t0,t1,c1,hg,h,hs,hl,hA,h1=>by
  simp only [T.getI] at hg
  cases hx:l[i]? with
  | none=>simp [hx] at hg
  | some x=>
   simp [hx] at hg
   simp only [CR] at h
   have h2:=Fe l i 0 cs x hx h
   simp only [Nat.zero_add] at h2
   have h3:=Yf (X':=X') sub x (p++[i]) _ t0 t1 c1 hg h2 hs hl hA.down (by simpa using h1)
   have h4:=(Rb sub x (p++[i]) _ t0 hg h2).2
   have hsz:=Du l i x hx
   have hlen:=D4 X s l p 0 cs h
   have hxs:(T.set t1 sub x).size=x.size:=T.size_set t1 sub x t0 (Ka sub x t0 hg) hs
   have hlx:(splice ((cs.drop (T.sizeL (l.take i))).take x.size) (T.offI sub x) c1).length=x.size:=by
    have:=Bg X' s _ _ _ h3
    rw [this,hxs]
   have h5:=M6 (X':=X') l i 0 cs x (T.set t1 sub x) _ hx h (fun n hn=>hA.carry (by omega)) hxs hlx (by simpa using h3)
   simp only [T.set,CR,T.offI,hx,Option.map_some,Option.getD_some]
   rw [Bi l i _ x hx]
   have e:splice cs (T.sizeL (l.take i)) (splice ((cs.drop (T.sizeL (l.take i))).take x.size) (T.offI sub x) c1)=splice cs (T.sizeL (l.take i)+T.offI sub x) c1:=by
    have hoc:T.offI sub x+c1.length≤x.size:=by omega
    exact Ld _ _ _ _ _ (by omega) hoc
   rw [← e]
   exact h5
 | i::sub,.int ..,p,cs,t0,t1,c1,hg,h,hs,hl,hA,h1=>by simp [T.getI] at hg
 | i::sub,.bool ..,p,cs,t0,t1,c1,hg,h,hs,hl,hA,h1=>by simp [T.getI] at hg
 | i::sub,.str ..,p,cs,t0,t1,c1,hg,h,hs,hl,hA,h1=>by simp [T.getI] at hg
 | i::sub,.any,p,cs,t0,t1,c1,hg,h,hs,hl,hA,h1=>by simp [T.getI] at hg
 | i::sub,.nil,p,cs,t0,t1,c1,hg,h,hs,hl,hA,h1=>by simp [T.getI] at hg
 | i::sub,.sl ..,p,cs,t0,t1,c1,hg,h,hs,hl,hA,h1=>by simp [T.getI] at hg
 | i::sub,.win ..,p,cs,t0,t1,c1,hg,h,hs,hl,hA,h1=>by simp [T.getI] at hg
 | i::sub,.box ..,p,cs,t0,t1,c1,hg,h,hs,hl,hA,h1=>by simp [T.getI] at hg
 | i::sub,.fptr ..,p,cs,t0,t1,c1,hg,h,hs,hl,hA,h1=>by simp [T.getI] at hg
 | i::sub,.tup ..,p,cs,t0,t1,c1,hg,h,hs,hl,hA,h1=>by simp [T.getI] at hg
 | i::sub,.fn ..,p,cs,t0,t1,c1,hg,h,hs,hl,hA,h1=>by simp [T.getI] at hg
 | i::sub,.ref ..,p,cs,t0,t1,c1,hg,h,hs,hl,hA,h1=>by simp [T.getI] at hg
 | i::sub,.addr ..,p,cs,t0,t1,c1,hg,h,hs,hl,hA,h1=>by simp [T.getI] at hg
end
section
def T.isNode:T→Bool
 | .sl true _ _=>true
 | .win ..=>true
 | .box _ _=>true
 | _=>false
def T.kids:T→List T
 | .sl _ _ l=>l
 | .win _ _ _ l=>l
 | .box _ t=>[t]
 | _=>[]
def T.withKids:T→List T→T
 | .sl o e _,l=>.sl o e l
 | .win e k h _,l=>.win e k h l
 | .box e _,t::_=>.box e t
 | t,_=>t
def T.elem:T→TypeId
 | .sl _ e _=>e
 | .win e _ _ _=>e
 | .box e _=>e
 | _=>0
def headOf (n:T) (b cap:Nat):Value:=
 match n with
 | .sl _ _ l=>.slice (some ⟨b,0,none⟩) l.length cap
 | .win _ k h _=>.slice (some ⟨b,k,none⟩) (h-k) (cap-k)
 | _=>.pointer (some ⟨b,0,none⟩)
theorem Bj {l:List T} {n:Nat} (h:∀ t∈l,t.size=n):T.sizeL l=l.length*n:=by
 induction l with
 | nil=>simp [T.sizeL]
 | cons x l ih=>
  have h1:=h x (by simp)
  have h2:=ih (fun t ht=>h t (by simp [ht]))
  simp [T.sizeL,h1,h2,Nat.add_mul,Nat.add_comm]
theorem Ex {X : Cx} {s : Nat} {p : List Nat} {n : T} {cs : List Value} (hn : n.isNode = true) (h : CR X s p n cs) :
  ∃ b cap cur,cs=[headOf n b cap]∧X.w.heap[b]? = some (.cells cur n.elem (0,0))∧X.kap b=some (s,p,headOf n b cap)∧
   CRL X s p 0 n.kids (cur.toList.take (T.sizeL n.kids))∧T.sizeL n.kids≤cur.size∧(∀ t∈n.kids,t.size=X.sz n.elem)∧
   (∀ (X':Cx) (s':Nat) (p':List Nat) (l:List T) (cur':Array Value),X'.sz=X.sz→l.length=n.kids.length→(∀ t∈l,t.size=X.sz n.elem)→cur'.size=cur.size→
    X'.w.heap[b]? = some (.cells cur' n.elem (0,0))→X'.kap b=some (s',p',headOf n b cap)→CRL X' s' p' 0 l (cur'.toList.take (T.sizeL l))→
    CR X' s' p' (n.withKids l) cs):=by
 cases n with
 | sl o e l=>
  cases o with
  | false=>simp [T.isNode] at hn
  | true=>
   simp only [CR] at h
   obtain ⟨b,cap,cur,rfl,hb,hk,h1,h2,h3,h4,h5⟩:=h
   have hsz:=Bj h4
   refine ⟨b,cap,cur,rfl,hb,hk,by simp only [T.kids];rw [hsz];exact h5,?_,h4,?_⟩
   ·simp only [T.kids];rw [hsz,h3];exact Nat.mul_le_mul_right _ h1
   ·intro X' s' p' l' cur' g1 g2 g3 g4 g5 g6 g7
    simp only [T.kids] at g2
    simp only [T.withKids,CR]
    have hsz':=Bj g3
    simp only [T.elem] at g3 hsz' g5
    refine ⟨b,cap,cur',by rw [g2],g5,by rw [g6,headOf,g2],by omega,h2,by rw [g4,h3,g1],by rw [g1];exact g3,?_⟩
    rw [hsz'] at g7
    rw [g1];exact g7
 | win e k hh l=>
  simp only [CR] at h
  obtain ⟨b,cap,cur,rfl,hb,hk,h1,h2,h3,h4,h5⟩:=h
  have hsz:=Bj h4
  refine ⟨b,cap,cur,rfl,hb,hk,by simp only [T.kids];rw [hsz];exact h5,?_,h4,?_⟩
  ·simp only [T.kids];rw [hsz,h3.1];exact Nat.mul_le_mul_right _ h1.2.2
  ·intro X' s' p' l' cur' g1 g2 g3 g4 g5 g6 g7
   simp only [T.kids] at g2
   simp only [T.withKids,CR]
   have hsz':=Bj g3
   simp only [T.elem] at g3 hsz' g5
   refine ⟨b,cap,cur',rfl,g5,g6,by omega,h2,by rw [g4,g1];exact h3,by rw [g1];exact g3,?_⟩
   rw [hsz'] at g7
   rw [g1];exact g7
 | box e t=>
  simp only [CR] at h
  obtain ⟨b,cur,rfl,hb,hk,h1,h2,h3⟩:=h
  refine ⟨b,0,cur,rfl,hb,hk,?_,?_,?_,?_⟩
  ·simp only [T.kids,T.sizeL,CRL,Nat.add_zero]
   rw [List.take_take,Nat.min_self,List.take_of_length_le (by simp;omega)]
   refine ⟨h3,?_⟩
   rw [List.drop_of_length_le (by simp;omega)]
  ·simp [T.kids,T.sizeL];omega
  ·intro x hx;simp [T.kids] at hx;subst hx;exact h1
  ·intro X' s' p' l' cur' g1 g2 g3 g4 g5 g6 g7
   match l',g2 with
   | [t'],_=>
    simp only [T.withKids,CR]
    have ht:=g3 t' (by simp)
    simp only [T.sizeL,CRL,Nat.add_zero] at g7
    simp only [T.elem] at g5 ht
    refine ⟨b,cur',rfl,g5,g6,by rw [g1];exact ht,by omega,?_⟩
    have:=g7.1
    rw [List.take_take,Nat.min_self,List.take_of_length_le (by simp;omega)] at this
    exact this
 | _=>simp [T.isNode] at hn
theorem Hh (p q:List Nat):∀ (t n:T),T.get p t=some n→T.get (p++q) t=T.get q n:=by
 induction p with
 | nil=>intro t n h;simp [T.get] at h;subst h;simp
 | cons i p ih=>
  intro t n h
  cases t with
  | agg l=>
   simp only [T.get] at h
   cases hl:l[i]? with
   | none=>simp [hl] at h
   | some x=>simp [hl] at h;simp [T.get,hl,ih x n h]
  | tup l=>
   simp only [T.get] at h
   cases hl:l[i]? with
   | none=>simp [hl] at h
   | some x=>simp [hl] at h;simp [T.get,hl,ih x n h]
  | sl o e l=>
   cases o with
   | false=>simp [T.get] at h
   | true=>
    simp only [T.get] at h
    cases hl:l[i]? with
    | none=>simp [hl] at h
    | some x=>simp [hl] at h;simp [T.get,hl,ih x n h]
  | win e k hh l=>
   simp only [T.get] at h
   cases hl:l[i]? with
   | none=>simp [hl] at h
   | some x=>simp [hl] at h;simp [T.get,hl,ih x n h]
  | box e t=>
   cases i with
   | zero=>simp only [T.get] at h;simp [T.get,ih t n h]
   | succ i=>simp [T.get] at h
  | _=>simp [T.get] at h
theorem Pj (u:T) (p q:List Nat):∀ (t n:T),T.get p t=some n→T.set u (p++q) t=T.set (T.set u q n) p t:=by
 induction p with
 | nil=>intro t n h;simp [T.get] at h;subst h;simp [T.set]
 | cons i p ih=>
  intro t n h
  cases t with
  | agg l=>
   simp only [T.get] at h
   cases hl:l[i]? with
   | none=>simp [hl] at h
   | some x=>simp [hl] at h;simp [T.set,Bi l i _ x hl,ih x n h]
  | tup l=>
   simp only [T.get] at h
   cases hl:l[i]? with
   | none=>simp [hl] at h
   | some x=>simp [hl] at h;simp [T.set,Bi l i _ x hl,ih x n h]
  | sl o e l=>
   cases o with
   | false=>simp [T.get] at h
   | true=>
    simp only [T.get] at h
    cases hl:l[i]? with
    | none=>simp [hl] at h
    | some x=>simp [hl] at h;simp [T.set,Bi l i _ x hl,ih x n h]
  | win e k hh l=>
   simp only [T.get] at h
   cases hl:l[i]? with
   | none=>simp [hl] at h
   | some x=>simp [hl] at h;simp [T.set,Bi l i _ x hl,ih x n h]
  | box e t=>
   cases i with
   | zero=>simp only [T.get] at h;simp [T.set,ih t n h]
   | succ i=>simp [T.get] at h
  | _=>simp [T.get] at h
theorem Agh {n:T} (hn:n.isNode=true) {i:Nat} {x:T} (hx:n.kids[i]? = some x) (u:T) (sub:List Nat):T.set u (i::sub) n=n.withKids (n.kids.set i (T.set u sub x)):=by
 cases n with
 | sl o e l=>
  cases o with
  | false=>simp [T.isNode] at hn
  | true=>
   simp only [T.kids] at hx
   simp only [T.set,T.withKids,T.kids,Bi l i _ x hx]
 | win e k hh l=>
  simp only [T.kids] at hx
  simp only [T.set,T.withKids,T.kids,Bi l i _ x hx]
 | box e t=>
  cases i with
  | zero=>simp [T.kids] at hx;subst hx;simp [T.set,T.withKids,T.kids]
  | succ i=>simp [T.kids] at hx
 | _=>simp [T.isNode] at hn
theorem Ahu {n:T} (hn:n.isNode=true) {i:Nat} {x:T} (hx:n.kids[i]? = some x) (sub:List Nat):T.get (i::sub) n=T.get sub x:=by
 cases n with
 | sl o e l=>
  cases o with
  | false=>simp [T.isNode] at hn
  | true=>
   simp only [T.kids] at hx
   simp [T.get,hx]
 | win e k hh l=>
  simp only [T.kids] at hx
  simp [T.get,hx]
 | box e t=>
  cases i with
  | zero=>simp [T.kids] at hx;subst hx;simp [T.get]
  | succ i=>simp [T.kids] at hx
 | _=>simp [T.isNode] at hn
def T.offN (n:T):List Nat→Nat
 | i::sub=>T.sizeL (n.kids.take i)+((n.kids[i]?).map (T.offI sub)).getD 0
 | []=>0
def T.part (n:T):List Nat→Option T
 | i::sub=>(n.kids[i]?).bind (T.getI sub)
 | []=>none
theorem Fo {n:T} (hn:n.isNode=true) {sub:List Nat} {t0:T} (h:n.part sub=some t0):T.get sub n=some t0:=by
 cases sub with
 | nil=>simp [T.part] at h
 | cons i sub=>
  simp only [T.part] at h
  cases hx:n.kids[i]? with
  | none=>simp [hx] at h
  | some x=>
   simp [hx] at h
   rw [Ahu hn hx]
   exact Ka sub x t0 h
theorem G4 {X X' : Cx} {s : Nat} {p : List Nat} {n : T} {cs : List Value} {sub : List Nat} {t0 : T} (hn : n.isNode = true) (hp : n.part sub = some t0) (h : CR X s p n cs) :
  ∃ b cap cur,cs=[headOf n b cap]∧X.w.heap[b]? = some (.cells cur n.elem (0,0))∧X.kap b=some (s,p,headOf n b cap)∧
   n.offN sub+t0.size≤cur.size∧CR X s (p++sub) t0 ((cur.toList.drop (n.offN sub)).take t0.size)∧
   (∀ (t1:T) (c1:List Value),t1.size=t0.size→c1.length=t0.size→X'.sz=X.sz→(∀ b,X.F b→X'.F b∧X'.w.heap[b]? = X.w.heap[b]?)→
    (∀ b' r v,b'≠b→X.kap b'=some (s,p++r,v)→¬ sub <+: r→X'.kap b'=some (s,p++r,v)∧X'.w.heap[b']? = X.w.heap[b']?)→
    (∀ u k q,X.old u k→X'.old u k∧(X'.node u k q→X.node u k q∧∀ b v,X.kap b=some (u,q,v)→X'.kap b=some (u,q,v)))→
    X'.w.heap[b]? = some (.cells (splice cur.toList (n.offN sub) c1).toArray n.elem (0,0))→X'.kap b=X.kap b→CR X' s (p++sub) t1 c1→
    CR X' s p (T.set t1 sub n) cs):=by
 cases sub with
 | nil=>simp [T.part] at hp
 | cons i sub=>
  simp only [T.part] at hp
  cases hx:n.kids[i]? with
  | none=>simp [hx] at hp
  | some x=>
   simp [hx] at hp
   obtain ⟨b,cap,cur,hcs,hb,hk,hL,hle,hall,hre⟩:=Ex hn h
   have h1:=Fe n.kids i 0 _ x hx hL
   simp only [Nat.zero_add] at h1
   obtain ⟨h2,h3⟩:=Rb sub x (p++[i]) _ t0 hp h1
   have hsl:=Du n.kids i x hx
   have hoff:n.offN (i::sub)=T.sizeL (n.kids.take i)+T.offI sub x:=by simp [T.offN,hx]
   have hxsz:x.size=X.sz n.elem:=hall x (List.mem_of_getElem? hx)
   refine ⟨b,cap,cur,hcs,hb,hk,by omega,?_,?_⟩
   ·rw [hoff]
    generalize T.sizeL (n.kids.take i)=m at *
    generalize T.offI sub x=o at *
    rw [List.drop_take (j:=T.sizeL n.kids),List.drop_take (j:=x.size),List.drop_take (j:=T.sizeL n.kids-m),List.drop_drop,List.take_take,List.take_take] at h2
    rw [show min (min t0.size (x.size-o)) (T.sizeL n.kids-m-o)=t0.size by omega] at h2
    simpa using h2
   ·intro t1 c1 g1 g2 g3 g4 g5 g6 g7 g8 g9
    have hxs:(T.set t1 sub x).size=x.size:=T.size_set t1 sub x t0 (Ka sub x t0 hp) g1
    have carry:∀ j,j≠i→Carry X X' s s (p++[j]) (p++[j]):=fun j hj=>
     ⟨g3,g4,fun b' r v hk'=>by
      rw [List.append_assoc] at hk' ⊢
      have hne:b'≠b:=by
       rintro rfl
       rw [hk] at hk'
       simp at hk'
      exact g5 b' _ v hne hk' (by simp only [List.singleton_append,List.cons_prefix_cons];exact fun e=>hj e.1.symm),g6⟩
    have around : Around X X' s (p ++ [i]) sub := ⟨g3, g4, fun b' r v hk' hnp => by
      rw [List.append_assoc] at hk' ⊢
      have hne:b'≠b:=by
       rintro rfl
       rw [hk] at hk'
       simp at hk'
      exact g5 b' _ v hne hk' (by simp only [List.singleton_append,List.cons_prefix_cons];exact fun e=>hnp e.2),g6⟩
    have h4:=Yf (X':=X') sub x (p++[i]) _ t0 t1 c1 hp h1 g1 g2 around (by simpa using g9)
    have hlx:(splice ((((cur.toList.take (T.sizeL n.kids)).drop (T.sizeL (n.kids.take i))).take x.size)) (T.offI sub x) c1).length=x.size:=by
     have:=Bg X' s _ _ _ h4
     rw [this,hxs]
    have h5:=M6 (X':=X') n.kids i 0 _ x (T.set t1 sub x) _ hx hL (fun j hj=>carry j (by omega)) hxs hlx (by simpa using h4)
    have hlen:(cur.toList.take (T.sizeL n.kids)).length=T.sizeL n.kids:=by simp;omega
    rw [Ld _ _ _ _ _ (by omega) (by omega),← Oa (by omega) (by simp;omega)] at h5
    have hsz':T.sizeL (n.kids.set i (T.set t1 sub x))=T.sizeL n.kids:=by
     rw [← Bi n.kids i (fun _=>T.set t1 sub x) x hx]
     exact I7 hx hxs
    rw [Agh hn hx]
    refine hre X' s p _ _ g3 (by simp) ?_ ?_ g7 (g8.trans hk) ?_
    ·rw [← Bi n.kids i (fun _=>T.set t1 sub x) x hx]
     exact F7 hx hxs hall
    ·simp only [List.size_toArray]
     rw [Lb (by simp;omega)];simp
    ·rw [hsz']
     simpa [hoff] using h5
mutual
def T.borrow (s k:Nat):List Nat→T→T
 | p,.sl true _ _=>.ref s k p
 | p,.win ..=>.ref s k p
 | p,.box _ _=>.addr s k p 0 [0]
 | p,.agg l=>.agg (T.borrowL s k p 0 l)
 | p,.tup l=>.tup (T.borrowL s k p 0 l)
 | p,.fn f l=>.fn f (T.borrowL s k p 0 l)
 | _,t=>t
def T.borrowL (s k:Nat):List Nat→Nat→List T→List T
 | _,_,[]=>[]
 | p,i,t::l=>T.borrow s k (p++[i]) t::T.borrowL s k p (i+1) l
end
mutual
theorem L3 (s k:Nat):∀ (t:T) (p:List Nat),(T.borrow s k p t).noOwn=true
 | .sl true ..,_=>by simp [T.borrow,T.noOwn]
 | .win ..,_=>by simp [T.borrow,T.noOwn]
 | .sl false ..,_=>by simp [T.borrow,T.noOwn]
 | .box ..,_=>by simp [T.borrow,T.noOwn]
 | .agg l,p=>by simpa [T.borrow,T.noOwn] using Fi s k l p 0
 | .tup l,p=>by simpa [T.borrow,T.noOwn] using Fi s k l p 0
 | .fn _ l,p=>by simpa [T.borrow,T.noOwn] using Fi s k l p 0
 | .int ..,_=>by simp [T.borrow,T.noOwn]
 | .bool ..,_=>by simp [T.borrow,T.noOwn]
 | .str ..,_=>by simp [T.borrow,T.noOwn]
 | .any,_=>by simp [T.borrow,T.noOwn]
 | .nil,_=>by simp [T.borrow,T.noOwn]
 | .fptr ..,_=>by simp [T.borrow,T.noOwn]
 | .ref ..,_=>by simp [T.borrow,T.noOwn]
 | .addr ..,_=>by simp [T.borrow,T.noOwn]
theorem Fi (s k:Nat):∀ (l:List T) (p:List Nat) (i:Nat),T.noOwnL (T.borrowL s k p i l)=true
 | [],_,_=>by simp [T.borrowL,T.noOwnL]
 | t::l,p,i=>by simp [T.borrowL,T.noOwnL,L3 s k t,Fi s k l]
end
mutual
theorem N7 (s k:Nat):∀ (t:T) (p:List Nat),(T.borrow s k p t).size=t.size
 | .sl true ..,_=>by simp [T.borrow,T.size]
 | .win ..,_=>by simp [T.borrow,T.size]
 | .sl false ..,_=>by simp [T.borrow,T.size]
 | .box ..,_=>by simp [T.borrow,T.size]
 | .agg l,p=>by simpa [T.borrow,T.size] using Mg s k l p 0
 | .tup l,p=>by simp [T.borrow,T.size]
 | .fn _ l,p=>by simp [T.borrow,T.size]
 | .int ..,_=>by simp [T.borrow,T.size]
 | .bool ..,_=>by simp [T.borrow,T.size]
 | .str ..,_=>by simp [T.borrow,T.size]
 | .any,_=>by simp [T.borrow,T.size]
 | .nil,_=>by simp [T.borrow,T.size]
 | .fptr ..,_=>by simp [T.borrow,T.size]
 | .ref ..,_=>by simp [T.borrow,T.size]
 | .addr ..,_=>by simp [T.borrow,T.size]
theorem Mg (s k:Nat):∀ (l:List T) (p:List Nat) (i:Nat),T.sizeL (T.borrowL s k p i l)=T.sizeL l
 | [],_,_=>by simp [T.borrowL,T.sizeL]
 | t::l,p,i=>by simp [T.borrowL,T.sizeL,N7 s k t,Mg s k l]
end
theorem Mx (s k:Nat) (t:T) (p:List Nat):(T.borrow s k p t).isAgg=t.isAgg:=by
 cases t with
 | sl o e l=>cases o <;> simp [T.borrow,T.isAgg]
 | _=>simp [T.borrow,T.isAgg]
mutual
theorem I0 {X:Cx} {s k:Nat} (ho:X.old s k):∀ (t:T) (p:List Nat) (cs:List Value) (s':Nat) (p':List Nat),CR X s p t cs→CR X s' p' (T.borrow s k p t) cs
 | .sl true e l,p,cs,s',p',h=>by
  simp only [CR,T.borrow] at h ⊢
  obtain ⟨b,cap,cur,hcs,hb,hk,_⟩:=h
  exact ⟨_,hcs,ho,fun _=>⟨b,hk⟩⟩
 | .win e kk hh l,p,cs,s',p',h=>by
  simp only [CR,T.borrow] at h ⊢
  obtain ⟨b,cap,cur,hcs,hb,hk,_⟩:=h
  exact ⟨_,hcs,ho,fun _=>⟨b,hk⟩⟩
 | .sl false e l,p,cs,s',p',h=>by
  exact Cy X X s s' rfl (fun _ h=>⟨h,rfl⟩) (fun _ _ _ h=>⟨h,fun hn=>⟨hn,fun _ _ h=>h⟩⟩) (.sl false e l) p p' cs rfl h
 | .box e t,p,cs,s',p',h=>by
  simp only [CR,T.borrow] at h ⊢
  obtain ⟨b,cur,hcs,hb,hk,_⟩:=h
  exact ⟨_,hcs,ho,fun _=>⟨b,_,hk,rfl⟩⟩
 | .agg l,p,cs,s',p',h=>by
  simp only [CR,T.borrow] at h ⊢
  exact Pe ho l p 0 cs s' p' h
 | .tup l,p,cs,s',p',h=>by
  simp only [CR,T.borrow] at h ⊢
  obtain ⟨vs,hcs,h1⟩:=h
  exact ⟨vs,hcs,J8 ho l p 0 vs s' p' h1⟩
 | .fn f l,p,cs,s',p',h=>by
  simp only [CR,T.borrow] at h ⊢
  obtain ⟨vs,hcs,h1⟩:=h
  exact ⟨vs,hcs,J8 ho l p 0 vs s' p' h1⟩
 | .int ..,p,cs,s',p',h=>by simpa only [CR,T.borrow] using h
 | .bool ..,p,cs,s',p',h=>by simpa only [CR,T.borrow] using h
 | .str ..,p,cs,s',p',h=>by simpa only [CR,T.borrow] using h
 | .any,p,cs,s',p',h=>by simpa only [CR,T.borrow] using h
 | .nil,p,cs,s',p',h=>by simpa only [CR,T.borrow] using h
 | .fptr t,p,cs,s',p',h=>by
  exact Cy X X s s' rfl (fun _ h=>⟨h,rfl⟩) (fun _ _ _ h=>⟨h,fun hn=>⟨hn,fun _ _ h=>h⟩⟩) (.fptr t) p p' cs rfl h
 | .ref ..,p,cs,s',p',h=>by simpa only [CR,T.borrow] using h
 | .addr ..,p,cs,s',p',h=>by simpa only [CR,T.borrow] using h
theorem Pe {X:Cx} {s k:Nat} (ho:X.old s k):∀ (l:List T) (p:List Nat) (i:Nat) (cs:List Value) (s':Nat) (p':List Nat),CRL X s p i l cs→CRL X s' p' i (T.borrowL s k p i l) cs
 | [],p,i,cs,s',p',h=>by simpa only [CRL,T.borrowL] using h
 | t::l,p,i,cs,s',p',h=>by
  simp only [CRL,T.borrowL] at h ⊢
  rw [N7]
  exact ⟨I0 ho t _ _ s' _ h.1,Pe ho l p (i+1) _ s' p' h.2⟩
theorem J8 {X:Cx} {s k:Nat} (ho:X.old s k):∀ (l:List T) (p:List Nat) (i:Nat) (vs:List Value) (s':Nat) (p':List Nat),CRT X s p i l vs→CRT X s' p' i (T.borrowL s k p i l) vs
 | [],p,i,cs,s',p',h=>by simpa only [CRT,T.borrowL] using h
 | t::l,p,i,vs,s',p',h=>by
  simp only [CRT,T.borrowL] at h ⊢
  obtain ⟨⟨v,cs,h1,h2,h3⟩,h4⟩:=h
  exact ⟨⟨v,cs,h1,by rw [h2];exact Da (Mx s k t _).symm cs,I0 ho t _ _ s' _ h3⟩,J8 ho l p (i+1) _ s' p' h4⟩
end
mutual
def T.freeze:T→T
 | .sl true e l=>.sl false e (T.freezeL l)
 | .win e k h l=>.sl false e (((T.freezeL l).take h).drop k)
 | .box _ t=>.fptr t.freeze
 | .agg l=>.agg (T.freezeL l)
 | .tup l=>.tup (T.freezeL l)
 | .fn f l=>.fn f (T.freezeL l)
 | t=>t
def T.freezeL:List T→List T
 | []=>[]
 | t::l=>t.freeze::T.freezeL l
end
theorem C7 (l:List T):T.freezeL l=l.map T.freeze:=by
 induction l with
 | nil=>simp [T.freezeL]
 | cons x l ih=>simp [T.freezeL,ih]
mutual
theorem Dz:∀ (t:T),t.freeze.size=t.size
 | .sl true ..=>by simp [T.freeze,T.size]
 | .win ..=>by simp [T.freeze,T.size]
 | .sl false ..=>by simp [T.freeze,T.size]
 | .box ..=>by simp [T.freeze,T.size]
 | .agg l=>by simpa [T.freeze,T.size] using Mq l
 | .tup l=>by simp [T.freeze,T.size]
 | .fn _ l=>by simp [T.freeze,T.size]
 | .int ..=>by simp [T.freeze,T.size]
 | .bool ..=>by simp [T.freeze,T.size]
 | .str ..=>by simp [T.freeze,T.size]
 | .any=>by simp [T.freeze,T.size]
 | .nil=>by simp [T.freeze,T.size]
 | .fptr ..=>by simp [T.freeze,T.size]
 | .ref ..=>by simp [T.freeze,T.size]
 | .addr ..=>by simp [T.freeze,T.size]
theorem Mq:∀ (l:List T),T.sizeL (T.freezeL l)=T.sizeL l
 | []=>by simp [T.freezeL,T.sizeL]
 | t::l=>by simp [T.freezeL,T.sizeL,Dz t,Mq l]
end
theorem Ls (t:T):t.freeze.isAgg=t.isAgg:=by
 cases t with
 | sl o e l=>cases o <;> simp [T.freeze,T.isAgg]
 | _=>simp [T.freeze,T.isAgg]
theorem Aa8 (l:List T):T.pureL l=true↔∀ t∈l,t.pure=true:=by
 induction l with
 | nil=>simp [T.pureL]
 | cons x l ih=>simp [T.pureL,ih]
theorem Lw (l:List T) (k h:Nat) (hp:T.pureL l=true):T.pureL ((l.take h).drop k)=true:=by
 rw [Aa8] at hp ⊢
 exact fun t ht=>hp t (List.mem_of_mem_take (List.mem_of_mem_drop ht))
theorem R9 {X:Cx} {s:Nat}:∀ (l:List T) (p p':List Nat) (i i':Nat) (cs:List Value),T.pureL l=true→CRL X s p i l cs→CRL X s p' i' l cs
 | [],_,_,_,_,_,_,h=>by simpa only [CRL] using h
 | t::l,p,p',i,i',cs,hp,h=>by
  simp only [CRL] at h ⊢
  simp only [T.pureL,Bool.and_eq_true] at hp
  exact ⟨Av X X s s rfl (fun _ h=>⟨h,rfl⟩) t _ _ _ hp.1 h.1,R9 l p p' _ _ _ hp.2 h.2⟩
theorem Aaw {X : Cx} {s : Nat} {p : List Nat} : ∀ (l : List T) (L H i : Nat) (cs : List Value), (∀ t ∈ l, t.size = 1) → L ≤ H → H ≤ l.length → T.pureL l = true → CRL X s p i l cs →
  CRL X s p i ((l.take H).drop L) ((cs.drop L).take (H-L)):=by
 intro l
 induction l with
 | nil=>
  intro L H i cs _ h1 h2 _ h
  have hH:H=0:=by simpa using h2
  subst hH
  have hL:L=0:=by omega
  subst hL
  simp [CRL]
 | cons t l ih=>
  intro L H i cs hs h1 h2 hp h
  simp only [CRL] at h
  have ht:=hs t (by simp)
  have hlen:=Bg _ _ _ _ _ h.1
  simp only [List.length_take] at hlen
  simp only [T.pureL,Bool.and_eq_true] at hp
  cases L with
  | succ L=>
   cases H with
   | zero=>omega
   | succ H=>
    have:=ih L H (i+1) (cs.drop t.size) (fun t ht=>hs t (by simp [ht])) (by omega) (by simpa using h2) hp.2 h.2
    simp only [List.take_succ_cons,List.drop_succ_cons]
    rw [List.drop_drop,ht] at this
    rw [show L+1=1+L by omega,show H+1-(1+L)=H-L by omega]
    exact R9 _ p p (i+1) i _ (Lw _ _ _ hp.2) this
  | zero=>
   cases H with
   | zero=>simp [CRL]
   | succ H=>
    have:=ih 0 H (i+1) (cs.drop t.size) (fun t ht=>hs t (by simp [ht])) (by omega) (by simpa using h2) hp.2 h.2
    simp only [List.drop_zero,Nat.sub_zero] at this ⊢
    simp only [List.take_succ_cons,CRL]
    rw [List.take_take,List.drop_take]
    rw [ht] at h this ⊢
    rw [show min 1 (H+1)=1 by omega,show H+1-1=H by omega]
    exact ⟨h.1,this⟩
mutual
theorem Ft {X X' : Cx} {s s' : Nat} (hsz : X'.sz = X.sz) (hw : ∀ b : Nat, X.w.heap[b]? ≠ none → X'.w.heap[b]? = X.w.heap[b]?) (hF : ∀ b, X.F b → X'.F b) :
  ∀ (t:T) (p p':List Nat) (cs:List Value),t.refFree=true→(∀ b r v,X.kap b=some (s,p++r,v)→X'.F b)→CR X s p t cs→CR X' s' p' t.freeze cs∧t.freeze.pure=true
 | .sl true e l,p,p',cs,hr,hk,h=>by
  simp only [CR,T.freeze] at h ⊢
  obtain ⟨b,cap,cur,hcs,hb,hkb,h1,h2,h3,h4,h5⟩:=h
  have hl:=Ho (s':=s') hsz hw hF l p p' 0 _ (by simpa [T.refFree] using hr) hk h5
  have hb':=(hw b (by rw [hb];exact fun e=>by cases e)).trans hb
  refine ⟨⟨some ⟨b,0,none⟩,cap,by rw [hcs,C7,List.length_map],by rw [C7,List.length_map];exact h1,h2,?_,hl.2,fun _=>⟨b,0,rfl,hk b [] _ (by simpa using hkb),cur,e,(0,0),hb',?_,?_⟩⟩,by simp [T.pure,hl.2]⟩
  ·intro t ht
   rw [C7,List.mem_map] at ht
   obtain ⟨u,hu,rfl⟩:=ht
   rw [Dz,hsz]
   exact h4 u hu
  ·rw [C7,List.length_map,hsz,h3,Nat.zero_add];exact Nat.mul_le_mul_right _ h1
  ·rw [hsz,List.drop_zero]
   have:=hl.1
   rwa [show (T.freezeL l).length=l.length by rw [C7,List.length_map]]
 | .win e kw hw9 l,p,p',cs,hr,hk,h=>by
  simp only [CR,T.freeze] at h ⊢
  obtain ⟨b,cap,cur,hcs,hb,hkb,h1,h2,h3,h4,h5⟩:=h
  have hl:=Ho (s':=s') hsz hw hF l p p' 0 _ (by simpa [T.refFree] using hr) hk h5
  have hb':=(hw b (by rw [hb];exact fun e=>by cases e)).trans hb
  have hfl:(T.freezeL l).length=l.length:=by rw [C7,List.length_map]
  have hll:(((T.freezeL l).take hw9).drop kw).length=hw9-kw:=by rw [List.length_drop,List.length_take,hfl];omega
  have hz1:=h3.2
  have hall:∀ t∈T.freezeL l,t.size=1:=by
   intro t ht
   rw [C7,List.mem_map] at ht
   obtain ⟨u,hu,rfl⟩:=ht
   rw [Dz,h4 u hu,hz1]
  have hpw:T.pureL (((T.freezeL l).take hw9).drop kw)=true:=by
   have:=hl.2
   exact Lw _ _ _ this
  have hX1:X'.sz e=1:=by rw [hsz];exact hz1
  refine ⟨⟨some ⟨b,kw,none⟩,cap-kw,by rw [hll];exact hcs,by rw [hll];omega,by omega,?_,hpw,fun _=>⟨b,kw,rfl,hk b [] _ (by simpa using hkb),cur,e,(0,0),hb',?_,?_⟩⟩,by simp [T.pure,hpw]⟩
  ·intro t ht
   rw [hX1]
   exact hall t (List.mem_of_mem_take (List.mem_of_mem_drop ht))
  ·rw [hll,hX1,h3.1,hz1];omega
  ·rw [hll,hX1]
   have hq:=hl.1
   rw [hz1,Nat.mul_one] at hq
   have:=Aaw (X:=X') (s:=s') (p:=p') (T.freezeL l) kw hw9 0 _ hall h1.1 (by rw [hfl];exact h1.2.1) hl.2 hq
   have e1:List.take (hw9-kw) (List.drop kw (List.take l.length cur.toList))=List.take (hw9-kw) (List.drop kw cur.toList):=by
    rw [List.drop_take,List.take_take,show min (hw9-kw) (l.length-kw)=hw9-kw by omega]
   rw [e1] at this
   rw [Nat.mul_one]
   exact this
 | .sl false e l,p,p',cs,hr,hk,h=>by
  have h':=h
  simp only [CR] at h'
  obtain ⟨a,cap,hcs,h1,h2,h3,h4,h5⟩:=h'
  have hp:(T.sl false e l).pure=true:=by simp [T.pure,h4]
  refine ⟨?_,by simpa [T.freeze] using hp⟩
  simp only [T.freeze,CR]
  refine ⟨a,cap,hcs,h1,h2,by rw [hsz];exact h3,h4,fun hl=>?_⟩
  obtain ⟨b,off,ha,hFb,cur,e',fz,hb,h6,h7⟩:=h5 hl
  refine ⟨b,off,ha,hF b hFb,cur,e',fz,(hw b (by rw [hb];exact fun e=>by cases e)).trans hb,by rw [hsz];exact h6,?_⟩
  rw [hsz]
  exact Iu (s':=s') hsz hw hF l p p' 0 _ h4 h7
 | .box e t,p,p',cs,hr,hk,h=>by
  simp only [CR,T.freeze] at h ⊢
  obtain ⟨b,cur,hcs,hb,hkb,h1,h2,h3⟩:=h
  have ht:=Ft (s':=s') hsz hw hF t (p++[0]) p' _ (by simpa [T.refFree] using hr) (fun b r v h=>hk b (0::r) v (by simpa using h)) h3
  refine ⟨⟨b,0,cur,e,(0,0),hcs,hk b [] _ (by simpa using hkb),(hw b (by rw [hb];exact fun e=>by cases e)).trans hb,by rw [Dz];omega,ht.2,?_⟩,by simp [T.pure,ht.2]⟩
  rw [List.drop_zero,Dz,List.take_of_length_le (by simp;omega)]
  exact ht.1
 | .agg l,p,p',cs,hr,hk,h=>by
  simp only [CR,T.freeze] at h ⊢
  have:=Ho (s':=s') hsz hw hF l p p' 0 _ (by simpa [T.refFree] using hr) hk h
  exact ⟨this.1,by simp [T.pure,this.2]⟩
 | .tup l,p,p',cs,hr,hk,h=>by
  simp only [CR,T.freeze] at h ⊢
  obtain ⟨vs,hcs,h1⟩:=h
  have:=J6 (s':=s') hsz hw hF l p p' 0 _ (by simpa [T.refFree] using hr) hk h1
  exact ⟨⟨vs,hcs,this.1⟩,by simp [T.pure,this.2]⟩
 | .fn f l,p,p',cs,hr,hk,h=>by
  simp only [CR,T.freeze] at h ⊢
  obtain ⟨vs,hcs,h1⟩:=h
  have:=J6 (s':=s') hsz hw hF l p p' 0 _ (by simpa [T.refFree] using hr) hk h1
  exact ⟨⟨vs,hcs,this.1⟩,by simp [T.pure,this.2]⟩
 | .int ..,p,p',cs,hr,hk,h=>by refine ⟨?_,by simp [T.freeze,T.pure]⟩;simpa only [CR,T.freeze] using h
 | .bool ..,p,p',cs,hr,hk,h=>by refine ⟨?_,by simp [T.freeze,T.pure]⟩;simpa only [CR,T.freeze] using h
 | .str ..,p,p',cs,hr,hk,h=>by refine ⟨?_,by simp [T.freeze,T.pure]⟩;simp only [CR,T.freeze] at h ⊢;exact ⟨h.1,Con.ok_E hw hF h.2⟩
 | .any,p,p',cs,hr,hk,h=>by refine ⟨?_,by simp [T.freeze,T.pure]⟩;simpa only [CR,T.freeze] using h
 | .nil,p,p',cs,hr,hk,h=>by refine ⟨?_,by simp [T.freeze,T.pure]⟩;simpa only [CR,T.freeze] using h
 | .fptr t,p,p',cs,hr,hk,h=>by
  have h':=h
  simp only [CR] at h'
  obtain ⟨b,off,cur,e,fz,hcs,hFb,hb,h1,h2,h3⟩:=h'
  refine ⟨?_,by simp [T.freeze,T.pure,h2]⟩
  simp only [T.freeze,CR]
  exact ⟨b,off,cur,e,fz,hcs,hF b hFb,(hw b (by rw [hb];exact fun e=>by cases e)).trans hb,h1,h2,Ef (s':=s') hsz hw hF t p p' _ h2 h3⟩
 | .ref ..,p,p',cs,hr,hk,h=>by simp [T.refFree] at hr
 | .addr ..,p,p',cs,hr,hk,h=>by simp [T.refFree] at hr
theorem Ho {X X' : Cx} {s s' : Nat} (hsz : X'.sz = X.sz) (hw : ∀ b : Nat, X.w.heap[b]? ≠ none → X'.w.heap[b]? = X.w.heap[b]?) (hF : ∀ b, X.F b → X'.F b) :
  ∀ (l:List T) (p p':List Nat) (i:Nat) (cs:List Value),T.refFreeL l=true→(∀ b r v,X.kap b=some (s,p++r,v)→X'.F b)→CRL X s p i l cs→CRL X' s' p' i (T.freezeL l) cs∧T.pureL (T.freezeL l)=true
 | [],p,p',i,cs,hr,hk,h=>by refine ⟨?_,by simp [T.freezeL,T.pureL]⟩;simpa only [CRL,T.freezeL] using h
 | t::l,p,p',i,cs,hr,hk,h=>by
  simp only [CRL,T.freezeL] at h ⊢
  simp only [T.refFreeL,Bool.and_eq_true] at hr
  have h1:=Ft (s':=s') hsz hw hF t (p++[i]) (p'++[i]) _ hr.1 (fun b r v h=>hk b (i::r) v (by simpa using h)) h.1
  have h2:=Ho (s':=s') hsz hw hF l p p' (i+1) _ hr.2 hk h.2
  rw [Dz]
  exact ⟨⟨h1.1,h2.1⟩,by simp [T.pureL,h1.2,h2.2]⟩
theorem J6 {X X' : Cx} {s s' : Nat} (hsz : X'.sz = X.sz) (hw : ∀ b : Nat, X.w.heap[b]? ≠ none → X'.w.heap[b]? = X.w.heap[b]?) (hF : ∀ b, X.F b → X'.F b) :
  ∀ (l:List T) (p p':List Nat) (i:Nat) (vs:List Value),T.refFreeL l=true→(∀ b r v,X.kap b=some (s,p++r,v)→X'.F b)→CRT X s p i l vs→CRT X' s' p' i (T.freezeL l) vs∧T.pureL (T.freezeL l)=true
 | [],p,p',i,cs,hr,hk,h=>by refine ⟨?_,by simp [T.freezeL,T.pureL]⟩;simpa only [CRT,T.freezeL] using h
 | t::l,p,p',i,vs,hr,hk,h=>by
  simp only [CRT,T.freezeL] at h ⊢
  simp only [T.refFreeL,Bool.and_eq_true] at hr
  obtain ⟨⟨v,cs,h1,h2,h3⟩,h4⟩:=h
  have h5:=Ft (s':=s') hsz hw hF t (p++[i]) (p'++[i]) _ hr.1 (fun b r v h=>hk b (i::r) v (by simpa using h)) h3
  have h6:=J6 (s':=s') hsz hw hF l p p' (i+1) _ hr.2 hk h4
  exact ⟨⟨⟨v,cs,h1,by rw [h2];exact Da (Ls t).symm cs,h5.1⟩,h6.1⟩,by simp [T.pureL,h5.2,h6.2]⟩
theorem Ef {X X' : Cx} {s s' : Nat} (hsz : X'.sz = X.sz) (hw : ∀ b : Nat, X.w.heap[b]? ≠ none → X'.w.heap[b]? = X.w.heap[b]?) (hF : ∀ b, X.F b → X'.F b) :
  ∀ (t:T) (p p':List Nat) (cs:List Value),t.pure=true→CR X s p t cs→CR X' s' p' t cs
 | .int ..,_,_,_,_,h=>by simpa only [CR] using h
 | .bool ..,_,_,_,_,h=>by simpa only [CR] using h
 | .str ..,_,_,_,_,h=>by simp only [CR] at h ⊢;exact ⟨h.1,Con.ok_E hw hF h.2⟩
 | .any,_,_,_,_,h=>by simpa only [CR] using h
 | .nil,_,_,_,_,h=>by simpa only [CR] using h
 | .sl true e l,p,p',cs,c,h=>by simp [T.pure] at c
 | .win ..,p,p',cs,c,h=>by simp [T.pure] at c
 | .sl false e l,p,p',cs,c,h=>by
  simp only [CR] at h ⊢
  obtain ⟨a,cap,hcs,h1,h2,h3,h4,h5⟩:=h
  refine ⟨a,cap,hcs,h1,h2,by rw [hsz];exact h3,h4,fun hl=>?_⟩
  obtain ⟨b,off,ha,hFb,cur,e',fz,hb,h6,h7⟩:=h5 hl
  refine ⟨b,off,ha,hF b hFb,cur,e',fz,(hw b (by rw [hb];exact fun e=>by cases e)).trans hb,by rw [hsz];exact h6,?_⟩
  rw [hsz]
  exact Iu (s':=s') hsz hw hF l p p' 0 _ h4 h7
 | .box e t,p,p',cs,c,h=>by simp [T.pure] at c
 | .fptr t,p,p',cs,c,h=>by
  simp only [CR] at h ⊢
  obtain ⟨b,off,cur,e,fz,hcs,hFb,hb,h1,h2,h3⟩:=h
  exact ⟨b,off,cur,e,fz,hcs,hF b hFb,(hw b (by rw [hb];exact fun e=>by cases e)).trans hb,h1,h2,Ef (s':=s') hsz hw hF t p p' _ h2 h3⟩
 | .agg l,p,p',cs,c,h=>by
  simp only [CR] at h ⊢
  exact Iu (s':=s') hsz hw hF l p p' 0 _ (by simpa [T.pure] using c) h
 | .tup l,p,p',cs,c,h=>by
  simp only [CR] at h ⊢
  obtain ⟨vs,hcs,h1⟩:=h
  exact ⟨vs,hcs,My (s':=s') hsz hw hF l p p' 0 _ (by simpa [T.pure] using c) h1⟩
 | .fn f l,p,p',cs,c,h=>by
  simp only [CR] at h ⊢
  obtain ⟨vs,hcs,h1⟩:=h
  exact ⟨vs,hcs,My (s':=s') hsz hw hF l p p' 0 _ (by simpa [T.pure] using c) h1⟩
 | .ref u k q,p,p',cs,c,h=>by simp [T.pure] at c
 | .addr u k q off sub,p,p',cs,c,h=>by simp [T.pure] at c
theorem Iu {X X' : Cx} {s s' : Nat} (hsz : X'.sz = X.sz) (hw : ∀ b : Nat, X.w.heap[b]? ≠ none → X'.w.heap[b]? = X.w.heap[b]?) (hF : ∀ b, X.F b → X'.F b) :
  ∀ (l:List T) (p p':List Nat) (i:Nat) (cs:List Value),T.pureL l=true→CRL X s p i l cs→CRL X' s' p' i l cs
 | [],_,_,_,_,_,h=>by simpa only [CRL] using h
 | t::l,p,p',i,cs,c,h=>by
  simp only [CRL] at h ⊢
  simp only [T.pureL,Bool.and_eq_true] at c
  exact ⟨Ef (s':=s') hsz hw hF t _ _ _ c.1 h.1,Iu (s':=s') hsz hw hF l p p' (i+1) _ c.2 h.2⟩
theorem My {X X' : Cx} {s s' : Nat} (hsz : X'.sz = X.sz) (hw : ∀ b : Nat, X.w.heap[b]? ≠ none → X'.w.heap[b]? = X.w.heap[b]?) (hF : ∀ b, X.F b → X'.F b) :
  ∀ (l:List T) (p p':List Nat) (i:Nat) (vs:List Value),T.pureL l=true→CRT X s p i l vs→CRT X' s' p' i l vs
 | [],_,_,_,_,_,h=>by simpa only [CRT] using h
 | t::l,p,p',i,vs,c,h=>by
  simp only [CRT] at h ⊢
  simp only [T.pureL,Bool.and_eq_true] at c
  obtain ⟨⟨v,cs,h1,h2,h3⟩,h4⟩:=h
  exact ⟨⟨v,cs,h1,h2,Ef (s':=s') hsz hw hF t _ _ _ c.1 h3⟩,My (s':=s') hsz hw hF l p p' (i+1) _ c.2 h4⟩
end
end
section
inductive SV where
 | val (t:T)
 | own (t:T)
 | undef
structure Slot where
 ver:Nat
 sv:SV
abbrev Env:=List (Nat×Slot)
def lk:Env→Nat→Option Slot
 | [],_=>none
 | (u,s)::r,t=>if u=t then some s else lk r t
def verOf:Option Slot→Nat
 | some s=>s.ver
 | none=>0
structure Ctx where
 P:Program
 w0:World
 mv:Nat→Prop
 pin:List (Nat×List Nat×Nat×Value)
def Ctx.F (C:Ctx) (b:Nat):Prop:=b<C.w0.heap.size∧¬ C.mv b
abbrev Kap:=Nat→Option (Nat×List Nat×Value)
def cx (C:Ctx) (env:Env) (w:World) (κ:Kap):Cx where
 sz:=C.P.cellsOf
 w:=w
 F:=C.F
 kap:=κ
 old:=fun s k=>∃ x,lk env s=some x∧k≤x.ver
 node:=fun s k p=>∃ T0 n,lk env s=some ⟨k,.own T0⟩∧T.get p T0=some n∧n.isNode=true
def VR (X:Cx) (s:Nat) (t:T) (v:Value):Prop:=∃ cs,v=mkv t cs∧CR X s [] t cs
structure Inv (C:Ctx) (env:Env) (V:Nat→Value) (w:World) (κ:Kap):Prop where
 os:w.os=C.w0.os
 tape:w.tape=C.w0.tape
 output:w.output=C.w0.output
 size:C.w0.heap.size≤w.heap.size
 frozen:∀ b,C.F b→w.heap[b]? = C.w0.heap[b]?
 col:∀ b s p v,κ b=some (s,p,v)→b<w.heap.size∧¬ C.F b
 inj:∀ b b' s p v v',κ b=some (s,p,v)→κ b'=some (s,p,v')→b=b'
 val:∀ t k x,lk env t=some ⟨k,.val x⟩→x.noOwn=true∧VR (cx C env w κ) t x (V t)
 own:∀ t k x,lk env t=some ⟨k,.own x⟩→x.refFree=true∧VR (cx C env w κ) t x (V t)
 und:∀ t k,lk env t=some ⟨k,.undef⟩→V t=undef
 pin:∀ u p b v,(u,p,b,v)∈C.pin→∀ T0 nd,lk env u=some ⟨0,.own T0⟩→T.get p T0=some nd→nd.isNode=true→κ b=some (u,p,v)
 root:∀ b v,(3000001,[],b,v)∈C.pin→∀ k T0,lk env 3000001=some ⟨k,.own T0⟩→V 3000001=v
def upd (V:Nat→Value) (d:Nat) (v:Value):Nat→Value:=fun t=>if t=d then v else V t
theorem By (V:Nat→Value) (d:Nat) (v:Value):upd V d v d=v:=by simp [upd]
theorem Al (V:Nat→Value) (d t:Nat) (v:Value) (h:t≠d):upd V d v t=V t:=by simp [upd,h]
theorem Ak (env:Env) (d:Nat) (s:Slot):lk ((d,s)::env) d=some s:=by simp [lk]
theorem Ab (env:Env) (d t:Nat) (s:Slot) (h:t≠d):lk ((d,s)::env) t=lk env t:=by
 simp only [lk];rw [if_neg (fun e=>h e.symm)]
def Refs (X X':Cx):Prop:=∀ u k q,X.old u k→X'.old u k∧(X'.node u k q→X.node u k q∧∀ b v,X.kap b=some (u,q,v)→X'.kap b=some (u,q,v))
theorem Refs.trans {X Y Z:Cx} (h:Refs X Y) (g:Refs Y Z):Refs X Z:=fun u k q ho=>by
 obtain ⟨h1,h2⟩:=h u k q ho
 obtain ⟨g1,g2⟩:=g u k q h1
 exact ⟨g1,fun hn=>⟨(h2 (g2 hn).1).1,fun b v hk=>(g2 hn).2 b v ((h2 (g2 hn).1).2 b v hk)⟩⟩
theorem S8 {C:Ctx} {env:Env} {w w':World} {κ:Kap} (d k:Nat) (x:SV) (hx:∀ t,x≠.own t) (hk:verOf (lk env d)≤k):Refs (cx C env w κ) (cx C ((d,⟨k,x⟩)::env) w' κ):=by
 intro u j q ho
 obtain ⟨y,hy,hj⟩:=ho
 by_cases e:u=d
 ·subst e
  rw [hy] at hk
  refine ⟨⟨_,Ak _ _ _,Nat.le_trans hj hk⟩,fun hn=>?_⟩
  obtain ⟨T0,n,h1,_⟩:=hn
  rw [Ak] at h1
  simp at h1
  exact absurd h1.2 (hx T0)
 ·refine ⟨⟨y,by rw [Ab _ _ _ _ e];exact hy,hj⟩,fun hn=>?_⟩
  obtain ⟨T0,n,h1,h2⟩:=hn
  rw [Ab _ _ _ _ e] at h1
  exact ⟨⟨T0,n,h1,h2⟩,fun _ _ h=>h⟩
theorem Dh {X X':Cx} {s s':Nat} {t:T} {v:Value} (c:Carry X X' s s' [] []) (h:VR X s t v):VR X' s' t v:=
 let ⟨cs,h1,h2⟩:=h
 ⟨cs,h1,Co X X' s s' t [] [] cs c h2⟩
theorem Ah1 {X X':Cx} {s s':Nat} {t:T} {v:Value} (hsz:X'.sz=X.sz) (hF:∀ b,X.F b→X'.F b∧X'.w.heap[b]? = X.w.heap[b]?) (hr:Refs X X') (hn:t.noOwn=true) (h:VR X s t v):VR X' s' t v:=
 let ⟨cs,h1,h2⟩:=h
 ⟨cs,h1,Cy X X' s s' hsz hF hr t [] [] cs hn h2⟩
theorem Akl {X X':Cx} {s s':Nat} {t:T} {v:Value} (hsz:X'.sz=X.sz) (hF:∀ b,X.F b→X'.F b∧X'.w.heap[b]? = X.w.heap[b]?) (hn:t.pure=true) (h:VR X s t v):VR X' s' t v:=
 let ⟨cs,h1,h2⟩:=h
 ⟨cs,h1,Av X X' s s' hsz hF t [] [] cs hn h2⟩
theorem H5 {C C' : Ctx} {env env' : Env} {w w' : World} {κ κ' : Kap} (hp : ∀ u p b v, (u, p, b, v) ∈ C.pin → ∀ T0 nd, lk env u = some ⟨0, .own T0⟩ → T.get p T0 = some nd → nd.isNode = true → κ b = some (u, p, v))
  (hC:C'.pin=C.pin) (hr:Refs (cx C env w κ) (cx C' env' w' κ')) (ho:∀ u T0,lk env' u=some ⟨0,.own T0⟩→∃ y,lk env u=some y) :
  ∀ u p b v,(u,p,b,v)∈C'.pin→∀ T0 nd,lk env' u=some ⟨0,.own T0⟩→T.get p T0=some nd→nd.isNode=true→κ' b=some (u,p,v):=by
 intro u p b v hb T0 nd h0 hg hn
 obtain ⟨y,hy⟩:=ho u T0 h0
 obtain ⟨_,h2⟩:=hr u 0 p ⟨y,hy,Nat.zero_le _⟩
 obtain ⟨⟨T1,n,g1,g2,g3⟩,h3⟩:=h2 ⟨T0,nd,h0,hg,hn⟩
 exact h3 b v (hp u p b v (hC▸hb) T1 n g1 g2 g3)
theorem Inv.ext {C : Ctx} {env : Env} {V : Nat → Value} {w w' : World} {κ : Kap} (h : Inv C env V w κ) (h1 : w'.os = w.os) (h2 : w'.tape = w.tape) (h3 : w'.output = w.output)
  (h4:w.heap.size≤w'.heap.size) (h5:∀ b,b<w.heap.size→w'.heap[b]? = w.heap[b]?):Inv C env V w' κ:=by
 have hF:∀ b,C.F b→w'.heap[b]? = w.heap[b]?:=fun b hb=>h5 b (Nat.lt_of_lt_of_le hb.1 h.size)
 have hr:Refs (cx C env w κ) (cx C env w' κ):=fun u k q ho=>⟨ho,fun hn=>⟨hn,fun _ _ h=>h⟩⟩
 have hc:∀ t,Carry (cx C env w κ) (cx C env w' κ) t t [] []:=fun t=>
  ⟨rfl,fun b hb=>⟨hb,hF b hb⟩,fun b q v hk=>⟨hk,h5 b (h.col b _ _ _ hk).1⟩,hr⟩
 exact ⟨h1.trans h.os,h2.trans h.tape,h3.trans h.output,Nat.le_trans h.size h4,fun b hb=>(hF b hb).trans (h.frozen b hb),
  fun b s p v hk=>⟨Nat.lt_of_lt_of_le (h.col b s p v hk).1 h4,(h.col b s p v hk).2⟩,h.inj,
  fun t k x hx=>⟨(h.val t k x hx).1,Dh (hc t) (h.val t k x hx).2⟩,fun t k x hx=>⟨(h.own t k x hx).1,Dh (hc t) (h.own t k x hx).2⟩,h.und,h.pin,h.root⟩
theorem Inv.bind {C : Ctx} {env : Env} {V : Nat → Value} {w : World} {κ : Kap} (h : Inv C env V w κ) (d k : Nat) (x : T) (v : Value) (hk : verOf (lk env d) ≤ k) (hn : x.noOwn = true)
  (s0:Nat) (hv:VR (cx C env w κ) s0 x v):Inv C ((d,⟨k,.val x⟩)::env) (upd V d v) w κ:=by
 have hr:Refs (cx C env w κ) (cx C ((d,⟨k,.val x⟩)::env) w κ):=S8 d k _ (fun _ e=>by cases e) hk
 have hc:∀ t,Carry (cx C env w κ) (cx C ((d,⟨k,.val x⟩)::env) w κ) t t [] []:=fun t=>
  ⟨rfl,fun b hb=>⟨hb,rfl⟩,fun b q v hk=>⟨hk,rfl⟩,hr⟩
 refine ⟨h.os,h.tape,h.output,h.size,h.frozen,h.col,h.inj,fun t k' y hy=>?_,fun t k' y hy=>?_,fun t k' hy=>?_,H5 h.pin rfl hr (fun u0 T0 h0=>by
  by_cases e:u0=d
  ·subst e;rw [Ak] at h0;simp at h0
  ·rw [Ab _ _ _ _ e] at h0;exact ⟨_,h0⟩),fun b v hb k9 T9 h9=>by
  by_cases e:3000001=d
  ·rw [← e,Ak] at h9;cases h9
  ·rw [Ab _ _ _ _ e] at h9;rw [Al _ _ _ _ e];exact h.root b v hb k9 T9 h9⟩
 ·by_cases e:t=d
  ·subst e
   rw [Ak] at hy
   simp at hy
   obtain ⟨_,rfl⟩:=hy
   exact ⟨hn,by rw [By];exact Ah1 (X:=cx C env w κ) rfl (fun b hb=>⟨hb,rfl⟩) hr hn hv⟩
  ·rw [Ab _ _ _ _ e] at hy
   exact ⟨(h.val t k' y hy).1,by rw [Al _ _ _ _ e];exact Dh (hc t) (h.val t k' y hy).2⟩
 ·by_cases e:t=d
  ·subst e;rw [Ak] at hy;simp at hy
  ·rw [Ab _ _ _ _ e] at hy
   exact ⟨(h.own t k' y hy).1,by rw [Al _ _ _ _ e];exact Dh (hc t) (h.own t k' y hy).2⟩
 ·by_cases e:t=d
  ·subst e;rw [Ak] at hy;simp at hy
  ·rw [Ab _ _ _ _ e] at hy
   rw [Al _ _ _ _ e]
   exact h.und t k' hy
theorem Inv.bindUndef {C : Ctx} {env : Env} {V : Nat → Value} {w : World} {κ : Kap} (h : Inv C env V w κ) (d k : Nat) (hk : verOf (lk env d) ≤ k) :
  Inv C ((d,⟨k,.undef⟩)::env) (upd V d undef) w κ:=by
 have hr:Refs (cx C env w κ) (cx C ((d,⟨k,.undef⟩)::env) w κ):=S8 d k _ (fun _ e=>by cases e) hk
 have hc:∀ t,Carry (cx C env w κ) (cx C ((d,⟨k,.undef⟩)::env) w κ) t t [] []:=fun t=>
  ⟨rfl,fun b hb=>⟨hb,rfl⟩,fun b q v hk=>⟨hk,rfl⟩,hr⟩
 refine ⟨h.os,h.tape,h.output,h.size,h.frozen,h.col,h.inj,fun t k' y hy=>?_,fun t k' y hy=>?_,fun t k' hy=>?_,H5 h.pin rfl hr (fun u0 T0 h0=>by
  by_cases e:u0=d
  ·subst e;rw [Ak] at h0;simp at h0
  ·rw [Ab _ _ _ _ e] at h0;exact ⟨_,h0⟩),fun b v hb k9 T9 h9=>by
  by_cases e:3000001=d
  ·rw [← e,Ak] at h9;cases h9
  ·rw [Ab _ _ _ _ e] at h9;rw [Al _ _ _ _ e];exact h.root b v hb k9 T9 h9⟩
 ·by_cases e:t=d
  ·subst e;rw [Ak] at hy;simp at hy
  ·rw [Ab _ _ _ _ e] at hy
   exact ⟨(h.val t k' y hy).1,by rw [Al _ _ _ _ e];exact Dh (hc t) (h.val t k' y hy).2⟩
 ·by_cases e:t=d
  ·subst e;rw [Ak] at hy;simp at hy
  ·rw [Ab _ _ _ _ e] at hy
   exact ⟨(h.own t k' y hy).1,by rw [Al _ _ _ _ e];exact Dh (hc t) (h.own t k' y hy).2⟩
 ·by_cases e:t=d
  ·subst e;rw [By]
  ·rw [Ab _ _ _ _ e] at hy
   rw [Al _ _ _ _ e]
   exact h.und t k' hy
theorem Lz (X:Cx) (s:Nat) (v:Value):VR X s .any v:=⟨[v],rfl,by simp only [CR];exact ⟨v,rfl⟩⟩
def kill (srcs:List Nat) (env:Env):Env:=srcs.map (fun s=>(s,⟨verOf (lk env s),.val .any⟩))++env
theorem Le (l env:Env) (t:Nat) (h:∀ x∈l,x.1≠t):lk (l++env) t=lk env t:=by
 induction l with
 | nil=>rfl
 | cons x l ih=>
  obtain ⟨u,s⟩:=x
  have h1:u≠t:=h (u,s) (by simp)
  simp only [List.cons_append,lk]
  rw [if_neg h1,ih (fun x hx=>h x (by simp [hx]))]
theorem A9 (srcs:List Nat) (env:Env) (t:Nat) (h:t ∉ srcs):lk (kill srcs env) t=lk env t:=
 Le _ _ _ (fun x hx=>by
  rw [List.mem_map] at hx
  obtain ⟨s,hs,rfl⟩:=hx
  exact fun e=>h (e▸hs))
theorem A7 (srcs:List Nat) (env:Env) (t:Nat) (h:t∈srcs):lk (kill srcs env) t=some ⟨verOf (lk env t),.val .any⟩:=by
 have:∀ (l:List Nat),t∈l→lk (l.map (fun s=>(s,(⟨verOf (lk env s),.val .any⟩:Slot)))++env) t=some ⟨verOf (lk env t),.val .any⟩:=by
  intro l
  induction l with
  | nil=>intro h;simp at h
  | cons x l ih=>
   intro h
   simp only [List.map_cons,List.cons_append,lk]
   by_cases e:x=t
   ·subst e;simp
   ·rw [if_neg e]
    exact ih ((List.mem_cons.1 h).resolve_left (fun h=>e h.symm))
 exact this srcs h
def mix (κ:Kap) (srcs:List Nat) (d:Nat) (κd:Nat→Option (List Nat×Value)):Kap:=fun b=>
 match κd b with
 | some (p,v)=>some (d,p,v)
 | none=>match κ b with
  | some (s,p,v)=>if s=d∨s∈srcs then none else some (s,p,v)
  | none=>none
theorem Inv.fresh {C : Ctx} {env : Env} {V : Nat → Value} {w : World} {κ : Kap} (h : Inv C env V w κ) (srcs : List Nat) (d : Nat) (hd9 : d ≠ 3000001) (x : T) (cs : List Value) (w' : World) (κd : Nat → Option (List Nat × Value))
  (hos:w'.os=w.os) (htape:w'.tape=w.tape) (hout:w'.output=w.output) (hsize:w.heap.size≤w'.heap.size)
  (hfrozen:∀ b,C.F b→w'.heap[b]? = w.heap[b]?) (hkept:∀ b s p v,κ b=some (s,p,v)→s ∉ srcs→s≠d→w'.heap[b]? = w.heap[b]?)
  (hcol:∀ b p v,κd b=some (p,v)→b<w'.heap.size∧¬ C.F b∧∀ s p v,κ b=some (s,p,v)→s∈srcs∨s=d)
  (hinj:∀ b b' p v v',κd b=some (p,v)→κd b'=some (p,v')→b=b') (hr:x.refFree=true)
  (hx:∀ X':Cx,X'.sz=C.P.cellsOf→X'.w=w'→X'.F=C.F→(∀ b p v,κd b=some (p,v)→X'.kap b=some (d,p,v))→CR X' d [] x cs) :
  ∃ κ',Inv C ((d,⟨verOf (lk env d)+1,.own x⟩)::kill srcs env) (upd V d (mkv x cs)) w' κ'∧(∀ b u q v,u≠d→u ∉ srcs→κ b=some (u,q,v)→κ' b=some (u,q,v))∧∀ b s p v,κ' b=some (s,p,v)→(s=d∧κd b=some (p,v))∨(s≠d∧s ∉ srcs∧κ b=some (s,p,v)∧κd b=none):=by
 have hmix:∀ b u q v,u≠d→u ∉ srcs→κ b=some (u,q,v)→mix κ srcs d κd b=some (u,q,v):=by
  intro b u q v h1 h2 h3
  unfold mix
  cases hd:κd b with
  | some y=>
   obtain ⟨p,v'⟩:=y
   have:=(hcol b p v' hd).2.2 u q v h3
   exact absurd this (by simp [h1,h2])
  | none=>simp [h3,h1,h2]
 have hinv:∀ b s p v,mix κ srcs d κd b=some (s,p,v)→(s=d∧κd b=some (p,v))∨(s≠d∧s ∉ srcs∧κ b=some (s,p,v)∧κd b=none):=by
  intro b s p v hm
  unfold mix at hm
  cases hd:κd b with
  | some y=>
   obtain ⟨p',v'⟩:=y
   simp only [hd,Option.some.injEq,Prod.mk.injEq] at hm
   obtain ⟨rfl,rfl,rfl⟩:=hm
   exact .inl ⟨rfl,rfl⟩
  | none=>
   cases hκb:κ b with
   | none=>simp [hd,hκb] at hm
   | some y=>
    obtain ⟨s',p',v'⟩:=y
    simp only [hd,hκb] at hm
    split at hm
    ·cases hm
    ·rename_i hne
     simp only [Option.some.injEq,Prod.mk.injEq] at hm
     obtain ⟨rfl,rfl,rfl⟩:=hm
     exact .inr ⟨fun e=>hne (.inl e),fun e=>hne (.inr e),rfl,rfl⟩
 refine ⟨mix κ srcs d κd,?_,hmix,hinv⟩
 have hrefs:Refs (cx C env w κ) (cx C ((d,⟨verOf (lk env d)+1,.own x⟩)::kill srcs env) w' (mix κ srcs d κd)):=by
  intro u j q ho
  obtain ⟨y,hy,hj⟩:=ho
  by_cases e:u=d
  ·subst e
   refine ⟨⟨_,Ak _ _ _,by rw [hy];show j≤y.ver+1;omega⟩,fun hn=>?_⟩
   obtain ⟨T0,n,h1,_⟩:=hn
   rw [Ak] at h1
   simp only [Option.some.injEq,Slot.mk.injEq,hy,verOf] at h1
   omega
  ·by_cases e2:u∈srcs
   ·refine ⟨⟨_,by rw [Ab _ _ _ _ e];exact A7 _ _ _ e2,by rw [hy];exact hj⟩,fun hn=>?_⟩
    obtain ⟨T0,n,h1,_⟩:=hn
    rw [Ab _ _ _ _ e,A7 _ _ _ e2] at h1
    simp at h1
   ·refine ⟨⟨y,by rw [Ab _ _ _ _ e,A9 _ _ _ e2];exact hy,hj⟩,fun hn=>?_⟩
    obtain ⟨T0,n,h1,h2⟩:=hn
    rw [Ab _ _ _ _ e,A9 _ _ _ e2] at h1
    exact ⟨⟨T0,n,h1,h2⟩,fun b v hk=>hmix b u q v e e2 hk⟩
 have hc:∀ t,t≠d→t ∉ srcs→Carry (cx C env w κ) (cx C ((d,⟨verOf (lk env d)+1,.own x⟩)::kill srcs env) w' (mix κ srcs d κd)) t t [] []:=fun t h1 h2=>
  ⟨rfl,fun b hb=>⟨hb,hfrozen b hb⟩,fun b q v hk=>⟨hmix b t _ v h1 h2 hk,hkept b t _ v hk h2 h1⟩,hrefs⟩
 refine ⟨hos.trans h.os,htape.trans h.tape,hout.trans h.output,Nat.le_trans h.size hsize,fun b hb=>(hfrozen b hb).trans (h.frozen b hb),?_,?_,fun t k' y hy=>?_,fun t k' y hy=>?_,fun t k' hy=>?_,H5 h.pin rfl hrefs (fun u0 T0 h0=>by
  by_cases e:u0=d
  ·subst e;rw [Ak] at h0;simp at h0
  ·rw [Ab _ _ _ _ e] at h0
   by_cases e2:u0∈srcs
   ·rw [A7 _ _ _ e2] at h0;simp at h0
   ·rw [A9 _ _ _ e2] at h0;exact ⟨_,h0⟩),fun b v hb k9 T9 h9=>by
  rw [Ab _ _ _ _ (Ne.symm hd9)] at h9
  by_cases e2:3000001∈srcs
  ·rw [A7 _ _ _ e2] at h9;cases h9
  ·rw [A9 _ _ _ e2] at h9;rw [Al _ _ _ _ (Ne.symm hd9)];exact h.root b v hb k9 T9 h9⟩
 ·intro b s p v hm
  rcases hinv b s p v hm with ⟨_,hd⟩|⟨_,_,hk,_⟩
  ·exact ⟨(hcol b p v hd).1,(hcol b p v hd).2.1⟩
  ·exact ⟨Nat.lt_of_lt_of_le (h.col b s p v hk).1 hsize,(h.col b s p v hk).2⟩
 ·intro b b' s p v v' hm hm'
  rcases hinv b s p v hm with ⟨e,hd⟩|⟨e,_,hk,_⟩
  ·rcases hinv b' s p v' hm' with ⟨_,hd'⟩|⟨e',_⟩
   ·exact hinj b b' p v v' hd hd'
   ·exact absurd e e'
  ·rcases hinv b' s p v' hm' with ⟨e',_⟩|⟨_,_,hk',_⟩
   ·exact absurd e' e
   ·exact h.inj b b' s p v v' hk hk'
 ·by_cases e:t=d
  ·subst e;rw [Ak] at hy;simp at hy
  ·rw [Ab _ _ _ _ e] at hy
   rw [Al _ _ _ _ e]
   by_cases e2:t∈srcs
   ·rw [A7 _ _ _ e2] at hy
    simp at hy
    obtain ⟨_,rfl⟩:=hy
    exact ⟨rfl,Lz _ _ _⟩
   ·rw [A9 _ _ _ e2] at hy
    exact ⟨(h.val t k' y hy).1,Dh (hc t e e2) (h.val t k' y hy).2⟩
 ·by_cases e:t=d
  ·subst e
   rw [Ak] at hy
   simp at hy
   obtain ⟨_,rfl⟩:=hy
   refine ⟨hr,cs,by rw [By],hx _ rfl rfl rfl (fun b p v hd=>?_)⟩
   show mix κ srcs t κd b=_
   simp [mix,hd]
  ·rw [Ab _ _ _ _ e] at hy
   rw [Al _ _ _ _ e]
   by_cases e2:t∈srcs
   ·rw [A7 _ _ _ e2] at hy
    simp at hy
   ·rw [A9 _ _ _ e2] at hy
    exact ⟨(h.own t k' y hy).1,Dh (hc t e e2) (h.own t k' y hy).2⟩
 ·by_cases e:t=d
  ·subst e;rw [Ak] at hy;simp at hy
  ·rw [Ab _ _ _ _ e] at hy
   rw [Al _ _ _ _ e]
   by_cases e2:t∈srcs
   ·rw [A7 _ _ _ e2] at hy
    simp at hy
   ·rw [A9 _ _ _ e2] at hy
    exact h.und t k' hy
end
end Go.Proofs.YtapdekacpecgiaaGreat
