import Derived.Test.YtapdekacpecgiaaGreatGC
import Derived.Orders
namespace Go.Proofs.YtapdekacpecgiaaGreat
open Go.RowKit
set_option linter.unusedVariables false
set_option linter.unusedSimpArgs false
set_option linter.constructorNameAsVariable false
section
def argCx (P:Program) (w:World) (κ:Kap):Cx where
 sz:=P.cellsOf
 w:=w
 F:=fun b=>b<w.heap.size∧κ b=none
 kap:=κ
 old:=fun _ _=>False
 node:=fun _ _ _=>False
def resCx (P:Program) (w:World) (κ:Kap):Cx where
 sz:=P.cellsOf
 w:=w
 F:=fun _=>False
 kap:=κ
 old:=fun _ _=>False
 node:=fun _ _ _=>False
structure Back (P:Program) (w:World) (κ:Kap) (r:T) (v:Value) (w':World) (κ':Kap):Prop where
 os:w'.os=w.os
 tape:w'.tape=w.tape
 output:w'.output=w.output
 size:w.heap.size≤w'.heap.size
 kept:∀ b,b<w.heap.size→κ b=none→w'.heap[b]? = w.heap[b]?
 col:∀ b s p v,κ' b=some (s,p,v)→b<w'.heap.size∧(w.heap.size≤b∨κ b≠none)
 inj:∀ b b' s p v v',κ' b=some (s,p,v)→κ' b'=some (s,p,v')→b=b'
 refFree:r.refFree=true
 res:VR (resCx P w' κ') 0 r v
def AFo (P:Program) (f:FuncId) (args:List T) (r:T):Prop:=
 (∃ fn, P.funcs[f]? = some fn ∧ (fn.name == "runtime.NumGoroutine") = false ∧ fn.body.isNone = false) ∧
 ∀ (w:World) (vs:List Value) (κ:Kap),(∀ b s p v,κ b=some (s,p,v)→b<w.heap.size)→(∀ b b' s p v v',κ b=some (s,p,v)→κ b'=some (s,p,v')→b=b')→
  vs.length=args.length→(∀ (j:Nat) (t:T) (v:Value),args[j]? = some t→vs[j]? = some v→t.refFree=true∧VR (argCx P w κ) j t v)→
  Calls P f vs.toArray w (fun e w'=>∃ v κ',e=.returned v∧Back P w κ r v w' κ')
def Shape (A A':T):Prop:=(A.isNode=true∧A'.isNode=true)∨
 ∃ l l',A=.agg l∧A'=.agg l'∧(∀ j,T.sizeL (l'.take j)=T.sizeL (l.take j))∧∀ (j:Nat) (t:T),l[j]? = some t→t.isNode=true→∃ t',l'[j]? = some t'∧t'.isNode=true
def AFio (P:Program) (f:FuncId) (args:List T) (r:T):Prop:=
 (∃ fn, P.funcs[f]? = some fn ∧ (fn.name == "runtime.NumGoroutine") = false ∧ fn.body.isNone = false) ∧
 ∃ A ku nu k1 n1 A',args=[A,.int ku nu]∧r=.tup [.int k1 n1,A']∧A'.refFree=true∧Shape A A'∧
 ∀ (w:World) (v:Value) (κ:Kap),(∀ b s p v,κ b=some (s,p,v)→b<w.heap.size)→(∀ b b' s p v v',κ b=some (s,p,v)→κ b'=some (s,p,v')→b=b')→
  A.refFree=true→VR (argCx P w κ) 0 A v→
  Calls P f #[v,.int ku nu] w (fun e w'=>e=.returned (.int k1 n1)∧w'.os=w.os∧w'.tape=w.tape∧w'.output=w.output∧w.heap.size≤w'.heap.size∧
   (∀ b,b<w.heap.size→κ b=none→w'.heap[b]? = w.heap[b]?)∧VR (resCx P w' κ) 0 A' v)
def AFw (P:Program) (f:FuncId) (args:List T) (r:T):Prop:=
 (∃ fn, P.funcs[f]? = some fn ∧ (fn.name == "runtime.NumGoroutine") = false ∧ fn.body.isNone = false) ∧
 ∃ (k:Nat) (e:TypeId) (l:List T),r=.tup [.int .i64 k,.sl true e l]∧k<l.length∧P.cellsOf e=1∧(∀ t∈l,t.scalar=true)∧
 ∀ (w:World) (vs:List Value),vs.length=args.length→(∀ (j:Nat) (t:T) (v:Value),args[j]? = some t→vs[j]? = some v→t.pure=true∧VR (argCx P w (fun _=>none)) j t v)→
  Calls P f vs.toArray w (fun x w'=>∃ b cap κ',x=.returned (.slice (some ⟨b,k,none⟩) (l.length-k) (cap-k))∧Back P w (fun _=>none) (.sl true e l) (.slice (some ⟨b,0,none⟩) l.length cap) w' κ')
def AFwt (P:Program) (f:FuncId) (args:List T) (r:T):Prop:=
 (∃ kk nn,r=.tup [.nil,.int kk nn]∧AFo P f args r)∨
 ((∃ fn, P.funcs[f]? = some fn ∧ (fn.name == "runtime.NumGoroutine") = false ∧ fn.body.isNone = false) ∧
 ∃ (k:Nat) (e:TypeId) (l:List T) (kk:IntKind) (nn:Int),r=.tup [.int .i64 k,.sl true e l,.int kk nn]∧k<l.length∧P.cellsOf e=1∧(∀ t∈l,t.scalar=true)∧
 ∀ (w:World) (vs:List Value),vs.length=args.length→(∀ (j:Nat) (t:T) (v:Value),args[j]? = some t→vs[j]? = some v→t.pure=true∧VR (argCx P w (fun _=>none)) j t v)→
  Calls P f vs.toArray w (fun x w'=>∃ b cap κ',x=.returned (.tuple #[.slice (some ⟨b,k,none⟩) (l.length-k) (cap-k),.int kk nn])∧Back P w (fun _=>none) (.sl true e l) (.slice (some ⟨b,0,none⟩) l.length cap) w' κ'))
def AFit (P:Program) (f:FuncId) (args:List T) (r:T):Prop:=
 (∃ fn, P.funcs[f]? = some fn ∧ (fn.name == "runtime.NumGoroutine") = false ∧ fn.body.isNone = false) ∧
 ∃ (e:TypeId) (l l':List T) (ku:IntKind) (nu:Int) (off:Nat) (k1:IntKind) (n1:Int),args=[.sl true e l,.int ku nu,.int .i64 off]∧r=.tup [.int k1 n1,.sl true e l']∧T.refFreeL l'=true∧(∀ t∈l',t.scalar=true)∧
 ∀ (w:World) (b c:Nat) (κ:Kap),(∀ b s p v,κ b=some (s,p,v)→b<w.heap.size)→(∀ b b' s p v v',κ b=some (s,p,v)→κ b'=some (s,p,v')→b=b')→
  VR (argCx P w κ) 0 (.sl true e l) (.slice (some ⟨b,0,none⟩) l.length c)→
  Calls P f #[.slice (some ⟨b,off,none⟩) (l.length-off) (c-off),.int ku nu] w (fun x w'=>x=.returned (.int k1 n1)∧w'.os=w.os∧w'.tape=w.tape∧w'.output=w.output∧w.heap.size≤w'.heap.size∧
   (∀ b,b<w.heap.size→κ b=none→w'.heap[b]? = w.heap[b]?)∧VR (resCx P w' κ) 0 (.sl true e l') (.slice (some ⟨b,0,none⟩) l.length c))
def boxK (b:Nat):Kap:=fun c=>if c=b then some (0,[],.pointer (some ⟨b,0,none⟩)) else none
def AFg (P:Program) (f:FuncId) (args:List T) (r:T):Prop:=
 (∃ fn, P.funcs[f]? = some fn ∧ (fn.name == "runtime.NumGoroutine") = false ∧ fn.body.isNone = false) ∧
 ∃ (e:TypeId) (ts ts' rest:List T) (g r1:T),args=g::.box e (.agg ts)::rest∧r=.tup [r1,.box e (.agg ts')]∧(∀ t∈ts,t.scalar=true)∧(∀ t∈ts',t.scalar=true)∧ts'.length=ts.length∧
 ∀ (w:World) (b:Nat) (cur:Array Value) (vg:Value) (vs:List Value),w.heap[b]? = some (.cells cur e (0,0))→cur.size=ts.length→P.cellsOf e=ts.length→
  (∀ (j:Nat) (t:T) (v:Value),ts[j]? = some t→cur[j]? = some v→∀ (X:Cx) (s:Nat) (p:List Nat),CR X s p t [v])→
  g.pure=true→(∀ s,VR (argCx P w (boxK b)) s g vg)→vs.length=rest.length→
  (∀ (j:Nat) (t:T) (v:Value),rest[j]? = some t→vs[j]? = some v→t.pure=true∧∀ s,VR (argCx P w (boxK b)) s t v)→
  Calls P f (.pointer (some ⟨b,0,none⟩)::vs).toArray w (fun x w'=>∃ v κ' cur',x=.returned v∧Back P w (boxK b) r1 v w' κ'∧κ' b=none∧w'.heap[b]? = some (.cells cur' e (0,0))∧cur'.size=ts'.length∧
   ∀ (j:Nat) (t:T) (v:Value),ts'[j]? = some t→cur'[j]? = some v→∀ (X:Cx) (s:Nat) (p:List Nat),CR X s p t [v])
def kapIn (κ:Kap):Kap:=fun c=>match κ c with
 | some (u,q,v)=>if u=0 then some (3000001,q,v) else some (0,q,v)
 | none=>none
def hcx (P:Program) (w:World) (κ:Kap) (B:T):Cx:=cx ⟨P,w,fun c=>κ c≠none,[]⟩ [(3000001,⟨0,.own B⟩)] w (kapIn κ)
def AFk (P:Program) (f:FuncId) (args:List T) (r:T):Prop:=
 (∃ fn, P.funcs[f]? = some fn ∧ (fn.name == "runtime.NumGoroutine") = false ∧ fn.body.isNone = false) ∧
 ∃ (B B' A:T) (caps:List T) (r1:T),args=B::A::caps∧r=.tup [r1,B']∧r1.noOwn=true∧sameCells B B'=true∧
 ∀ (w:World) (vB vA:Value) (vs:List Value) (κ:Kap),(∀ c s p v,κ c=some (s,p,v)→c<w.heap.size∧(s=0∨s=1))→(∀ c c' s p v v',κ c=some (s,p,v)→κ c'=some (s,p,v')→c=c')→
  B.refFree=true→VR (argCx P w κ) 0 B vB→A.refFree=true→VR (argCx P w κ) 1 A vA→vs.length=caps.length→
  (∀ (i:Nat) (y:T) (v:Value),caps[i]? = some y→vs[i]? = some v→y.noOwn=true∧∀ s,VR (hcx P w κ B) s y v)→
  Calls P f (vA::vs).toArray w (fun z w'=>∃ v κ',z=.returned v∧(∀ (X:Cx) (s:Nat),VR X s r1 v)∧Back P w κ B' vB w' κ'∧
   (calmT B B'=true→∀ c q v nd,T.get q B'=some nd→nd.isNode=true→κ c=some (0,q,v)→κ' c=some (0,q,v)))
def kapB (b:Nat) (κ:Kap):Kap:=fun c=>if c=b then some (1,[],.pointer (some ⟨b,0,none⟩)) else κ c
def AFc (P:Program) (f:FuncId) (args:List T) (r:T):Prop:=
 (∃ fn, P.funcs[f]? = some fn ∧ (fn.name == "runtime.NumGoroutine") = false ∧ fn.body.isNone = false) ∧
 ∃ (e:TypeId) (l l':List T) (B B':T) (km:IntKind) (m:Int) (ku:IntKind) (nu:Int) (F:T) (r1:T),
  args=[.sl true e l,B,.int km m,.int ku nu,F]∧r=.tup [r1,.sl true e l',B']∧P.cellsOf e=1∧l'.length=l.length∧(∀ y∈l,y.scalar=true)∧(∀ y∈l',y.scalar=true)∧r1.scalar=true∧sameCells B B'=true∧
 ∀ (w:World) (b cap:Nat) (cur:Array Value) (vB vF:Value) (κ:Kap),κ b=none→(∀ c s p v,κ c=some (s,p,v)→c<w.heap.size∧s=0)→(∀ c c' s p v v',κ c=some (s,p,v)→κ c'=some (s,p,v')→c=c')→
  w.heap[b]? = some (.cells cur e (0,0))→l.length≤cap→cap≤maxLen→cur.size=cap→
  (∀ (j:Nat) (y:T) (v:Value),l[j]? = some y→cur[j]? = some v→∀ (X:Cx) (s:Nat) (p:List Nat),CR X s p y [v])→
  B.refFree=true→VR (argCx P w (kapB b κ)) 0 B vB→F.noOwn=true→(∀ s,VR (hcx P w (kapB b κ) B) s F vF)→
  Calls P f #[.agg #[.int km m,.slice (some ⟨b,0,none⟩) l.length cap],.int ku nu,vF] w (fun z w'=>∃ v cur' κ',z=.returned v∧(∀ (X:Cx) (s:Nat) (p:List Nat),CR X s p r1 [v])∧
   Back P w (kapB b κ) B' vB w' κ'∧κ' b=none∧w'.heap[b]? = some (.cells cur' e (0,0))∧cur'.size=cap∧
   (∀ (j:Nat) (y:T) (v:Value),l'[j]? = some y→cur'[j]? = some v→∀ (X:Cx) (s:Nat) (p:List Nat),CR X s p y [v])∧
   (calmT B B'=true→∀ c q v nd,T.get q B'=some nd→nd.isNode=true→κ c=some (0,q,v)→κ' c=some (0,q,v)))
def AFx (P:Program) (f:FuncId) (args:List T) (r:T):Prop:=
 (∃ fn, P.funcs[f]? = some fn ∧ (fn.name == "runtime.NumGoroutine") = false ∧ fn.body.isNone = false) ∧
 ∃ (jw:Nat) (A:T) (rest:List T) (r1:T) (v1:Value) (A':T),args=.int .i64 jw::A::rest∧r=.tup [r1,A']∧r1.noOwn=true∧(∀ (X:Cx) (s:Nat),VR X s r1 v1)∧Shape A A'∧
 ∀ (w:World) (v:Value) (vs:List Value) (κ:Kap),(∀ b s p v,κ b=some (s,p,v)→b<w.heap.size∧s=0)→(∀ b b' s p v v',κ b=some (s,p,v)→κ b'=some (s,p,v')→b=b')→
  A.refFree=true→VR (argCx P w κ) 0 A v→vs.length=rest.length→(∀ (j:Nat) (y:T) (u:Value),rest[j]? = some y→vs[j]? = some u→y.pure=true∧∀ s,VR (argCx P w κ) s y u)→
  Calls P f (vs.take jw++v::vs.drop jw).toArray w (fun e w'=>∃ κ',e=.returned v1∧Back P w κ A' v w' κ')
def AFy (P:Program) (f:FuncId) (args:List T) (r:T):Prop:=
 (∃ (j:Nat) (e:TypeId) (l:List T),r=.sl false e l∧args[j]? = some r∧∀ (a:Option Addr) (c:Nat),AFo P f (args.set j (.str (.raw a l.length c))) (.str (.raw a l.length c)))∨AFo P f args r
def AFn (P:Program) (f:FuncId) (args:List T) (r:T):Prop:=if f<1000000 then AFo P f args r else if f<2000000 then AFio P (f-1000000) args r else if f<3000000 then AFw P (f-2000000) args r else if f<4000000 then AFwt P (f-3000000) args r else if f<5000000 then AFit P (f-4000000) args r else if f<6000000 then AFg P (f-5000000) args r else if f<7000000 then AFk P (f-6000000) args r else if f<8000000 then AFc P (f-7000000) args r else if f<9000000 then AFx P (f-8000000) args r else AFy P (f-9000000) args r
theorem Fg {P:Program} {f:FuncId} {args:List T} {r:T} (h:f<1000000):AFn P f args r↔AFo P f args r:=by rw [AFn,if_pos h]
theorem Aiu {P:Program} {f:FuncId} {args:List T} {r:T} (h:f<1000000):AFn P (5000000+f) args r↔AFg P f args r:=by
 rw [AFn,if_neg (Nat.not_lt_of_le (Nat.le_trans (by decide) (Nat.le_add_right 5000000 f))),if_neg (Nat.not_lt_of_le (Nat.le_trans (by decide) (Nat.le_add_right 5000000 f))),if_neg (Nat.not_lt_of_le (Nat.le_trans (by decide) (Nat.le_add_right 5000000 f))),if_neg (Nat.not_lt_of_le (Nat.le_trans (by decide) (Nat.le_add_right 5000000 f))),if_neg (Nat.not_lt_of_le (Nat.le_add_right 5000000 f)),if_pos (Nat.add_lt_add_left h 5000000),show 5000000+f-5000000=f from Nat.add_sub_cancel_left 5000000 f]
theorem Ait {P:Program} {f:FuncId} {args:List T} {r:T} (h:f<1000000):AFn P (6000000+f) args r↔AFk P f args r:=by
 rw [AFn,if_neg (Nat.not_lt_of_le (Nat.le_trans (by decide) (Nat.le_add_right 6000000 f))),if_neg (Nat.not_lt_of_le (Nat.le_trans (by decide) (Nat.le_add_right 6000000 f))),if_neg (Nat.not_lt_of_le (Nat.le_trans (by decide) (Nat.le_add_right 6000000 f))),if_neg (Nat.not_lt_of_le (Nat.le_trans (by decide) (Nat.le_add_right 6000000 f))),if_neg (Nat.not_lt_of_le (Nat.le_trans (by decide) (Nat.le_add_right 6000000 f))),if_neg (Nat.not_lt_of_le (Nat.le_add_right 6000000 f)),if_pos (Nat.add_lt_add_left h 6000000),show 6000000+f-6000000=f from Nat.add_sub_cancel_left 6000000 f]
theorem Ana {P:Program} {f:FuncId} {args:List T} {r:T} (h:f<1000000):AFn P (7000000+f) args r↔AFc P f args r:=by
 rw [AFn,if_neg (Nat.not_lt_of_le (Nat.le_trans (by decide) (Nat.le_add_right 7000000 f))),if_neg (Nat.not_lt_of_le (Nat.le_trans (by decide) (Nat.le_add_right 7000000 f))),if_neg (Nat.not_lt_of_le (Nat.le_trans (by decide) (Nat.le_add_right 7000000 f))),if_neg (Nat.not_lt_of_le (Nat.le_trans (by decide) (Nat.le_add_right 7000000 f))),if_neg (Nat.not_lt_of_le (Nat.le_trans (by decide) (Nat.le_add_right 7000000 f))),if_neg (Nat.not_lt_of_le (Nat.le_trans (by decide) (Nat.le_add_right 7000000 f))),if_neg (Nat.not_lt_of_le (Nat.le_add_right 7000000 f)),if_pos (Nat.add_lt_add_left h 7000000),show 7000000+f-7000000=f from Nat.add_sub_cancel_left 7000000 f]
theorem Anc {P:Program} {f:FuncId} {args:List T} {r:T} (h:f<1000000):AFn P (8000000+f) args r↔AFx P f args r:=by
 rw [AFn,if_neg (Nat.not_lt_of_le (Nat.le_trans (by decide) (Nat.le_add_right 8000000 f))),if_neg (Nat.not_lt_of_le (Nat.le_trans (by decide) (Nat.le_add_right 8000000 f))),if_neg (Nat.not_lt_of_le (Nat.le_trans (by decide) (Nat.le_add_right 8000000 f))),if_neg (Nat.not_lt_of_le (Nat.le_trans (by decide) (Nat.le_add_right 8000000 f))),if_neg (Nat.not_lt_of_le (Nat.le_trans (by decide) (Nat.le_add_right 8000000 f))),if_neg (Nat.not_lt_of_le (Nat.le_trans (by decide) (Nat.le_add_right 8000000 f))),if_neg (Nat.not_lt_of_le (Nat.le_trans (by decide) (Nat.le_add_right 8000000 f))),if_neg (Nat.not_lt_of_le (Nat.le_add_right 8000000 f)),if_pos (Nat.add_lt_add_left h 8000000),show 8000000+f-8000000=f from Nat.add_sub_cancel_left 8000000 f]
theorem Zs {P:Program} {f:FuncId} {args:List T} {r:T}:AFn P (9000000+f) args r↔AFy P f args r:=by
 rw [AFn,if_neg (Nat.not_lt_of_le (Nat.le_trans (by decide) (Nat.le_add_right 9000000 f))),if_neg (Nat.not_lt_of_le (Nat.le_trans (by decide) (Nat.le_add_right 9000000 f))),if_neg (Nat.not_lt_of_le (Nat.le_trans (by decide) (Nat.le_add_right 9000000 f))),if_neg (Nat.not_lt_of_le (Nat.le_trans (by decide) (Nat.le_add_right 9000000 f))),if_neg (Nat.not_lt_of_le (Nat.le_trans (by decide) (Nat.le_add_right 9000000 f))),if_neg (Nat.not_lt_of_le (Nat.le_trans (by decide) (Nat.le_add_right 9000000 f))),if_neg (Nat.not_lt_of_le (Nat.le_trans (by decide) (Nat.le_add_right 9000000 f))),if_neg (Nat.not_lt_of_le (Nat.le_trans (by decide) (Nat.le_add_right 9000000 f))),if_neg (Nat.not_lt_of_le (Nat.le_add_right 9000000 f)),show 9000000+f-9000000=f from Nat.add_sub_cancel_left 9000000 f]
mutual
theorem Cj:∀ (t:T),t.pure=true→t.refFree=true
 | .int ..,_=>rfl
 | .bool ..,_=>rfl
 | .str ..,_=>rfl
 | .any,_=>rfl
 | .nil,_=>rfl
 | .sl true _ _,h=>by simp [T.pure] at h
 | .win ..,h=>by simp [T.pure] at h
 | .sl false _ l,h=>by simpa [T.refFree] using Bo l (by simpa [T.pure] using h)
 | .box ..,h=>by simp [T.pure] at h
 | .fptr t,h=>by simpa [T.refFree] using Cj t (by simpa [T.pure] using h)
 | .agg l,h=>by simpa [T.refFree] using Bo l (by simpa [T.pure] using h)
 | .tup l,h=>by simpa [T.refFree] using Bo l (by simpa [T.pure] using h)
 | .fn _ l,h=>by simpa [T.refFree] using Bo l (by simpa [T.pure] using h)
 | .ref ..,h=>by simp [T.pure] at h
 | .addr ..,h=>by simp [T.pure] at h
theorem Bo:∀ (l:List T),T.pureL l=true→T.refFreeL l=true
 | [],_=>rfl
 | t::l,h=>by
  simp only [T.pureL,Bool.and_eq_true] at h
  simp [T.refFreeL,Cj t h.1,Bo l h.2]
end
section
variable {C:Ctx} {env:Env} {V:Nat→Value} {w:World} {κ:Kap} {a:Act} {AF:FuncId→List T→T→Prop} {U:List (Nat×Slot)} {R:List Nat} {n:Nat}
variable {tt:Tt} {P:Program}
def seen (C:Ctx) (w:World):Cx:=argCx C.P w (fun _=>none)
theorem Uk (hI:Inv C env V w κ) {κt:Kap} {s9:Nat} (hκ:∀ c,κt c≠none→∃ p v,κ c=some (s9,p,v)) {b:Nat} (hb:C.F b):b<w.heap.size∧κt b=none:=
 ⟨Nat.lt_of_lt_of_le hb.1 hI.size,by
  cases hc:κt b with
  | none=>rfl
  | some y=>
   obtain ⟨p,v,e⟩:=hκ b (by rw [hc];exact fun h=>by cases h)
   exact absurd hb (hI.col b _ _ _ e).2⟩
theorem L7 (hI : Inv C env V w κ) {κt : Kap} {s9 : Nat} (hκ : ∀ c, κt c ≠ none → ∃ p v, κ c = some (s9, p, v)) {s : Nat} (hs : (∃ c, κt c ≠ none) → s ≠ s9) {p : List Nat} {t : T} {cs : List Value} (hr : t.refFree = true) (h : CR (cx C env w κ) s p t cs) (s' : Nat) (p' : List Nat) :
  CR (argCx C.P w κt) s' p' t.freeze cs∧t.freeze.pure=true:=
 Ft (X:=cx C env w κ) (X':=argCx C.P w κt) rfl (fun _ _=>rfl) (fun _ hb=>Uk hI hκ hb) t p p' cs hr (fun c r v hk=>⟨(hI.col _ _ _ _ hk).1,by
  cases hc:κt c with
  | none=>rfl
  | some y=>
   have hne:κt c≠none:=by rw [hc];exact fun h=>by cases h
   obtain ⟨p1,v1,e⟩:=hκ c hne
   have hk':κ c=some (s,p++r,v):=hk
   rw [e] at hk'
   simp only [Option.some.injEq,Prod.mk.injEq] at hk'
   exact absurd hk'.1.symm (hs ⟨c,hne⟩)⟩) h
mutual
theorem Je (hI : Inv C env V w κ) {κt : Kap} {s9 : Nat} (hκ : ∀ c, κt c ≠ none → ∃ p v, κ c = some (s9, p, v)) : ∀ (v : T) (s : Nat) (p : List Nat) (cs : List Value) (c : T → Rd) (R : List Nat), ((∃ c, κt c ≠ none) → v.away s9) → CR (cx C env w κ) s p v cs → (resolve v c).sat AF env U R →
  ∃ v' R',(c v').sat AF env U R'∧v'.pure=true∧v'.isAgg=v.isAgg∧v'.size=v.size∧∀ s' p',CR (argCx C.P w κt) s' p' v' cs
 | .ref s k q,s0,p0,cs,c,R,haw,h,hs=>by
  simp only [resolve] at hs
  obtain ⟨T0,nd,R',hl,hg,hn,h1⟩:=Bk hs
  obtain ⟨b,cap,cur,e1,e2,e3,e4⟩:=hI.ref_eq hl hg hn h
  have hr:=Br q T0 nd hg (hI.own s k T0 hl).1
  have hf:=L7 hI hκ (fun h=>by simpa [T.away] using haw h) hr e2
  exact ⟨nd.freeze,R',h1,(hf 0 []).2,by rw [Ls,De hn];rfl,by rw [Dz,Cc hn];rfl,fun s' p'=>(hf s' p').1⟩
 | .addr s k q off sub,s0,p0,cs,c,R,haw,h,hs=>by
  simp only [resolve] at hs
  split at hs
  ·rename_i hsub
   obtain ⟨T0,nd,R',hl,hg,hn,h1⟩:=Bk hs
   simp only [Rd.sat] at h1
   obtain ⟨rfl,h2⟩:=h1
   obtain ⟨b,cap,cur,e1,e2,e3,e4⟩:=hI.addr_eq hl hg hn h
   cases nd <;> try (simp [T.isNode] at hn;done)
   case sl=>simp [Rd.sat] at h2
   case win=>simp [Rd.sat] at h2
   case box e t=>
    have hr:=Br q T0 _ hg (hI.own s k T0 hl).1
    have hf:=L7 hI hκ (fun h=>by simpa [T.away] using haw h) hr e2
    simp only [headOf] at hf
    rw [e1,hsub]
    exact ⟨_,R',h2,(hf 0 []).2,rfl,rfl,fun s' p'=>(hf s' p').1⟩
  ·split at hs
   ·rename_i hemp
    have hsub:sub=[]:=by simpa using hemp
    subst hsub
    obtain ⟨T0,nd,R',hl,hg,hn,h1⟩:=Bk hs
    obtain ⟨b,cap,cur,e1,e2,e3,e4⟩:=hI.addr_eq hl hg hn h
    have hr:=Br q T0 _ hg (hI.own s k T0 hl).1
    have hf:=L7 hI hκ (fun h=>by simpa [T.away] using haw h) hr e2
    split at h1
    ·rename_i e l
     simp only [Rd.sat] at h1
     obtain ⟨⟨c1,c2⟩,h2⟩:=h1
     have ha:∀ t∈l,t.scalar=true:=fun t ht=>List.all_eq_true.1 c2 t ht
     rw [Jv ha] at h2
     rw [e1]
     refine ⟨_,R',h2,?_,rfl,rfl,fun s' p'=>?_⟩
     ·simp only [T.pure,Bool.not_false,Bool.true_and]
      rw [Dc]
      intro t ht
      have:=ha t (List.mem_of_mem_drop ht)
      cases t <;> first|rfl|(simp [T.scalar] at this)
     ·have h3:=(hf 0 []).1
      simp only [headOf,T.freeze] at h3
      rw [Jv ha] at h3
      exact Aih rfl rfl (fun _ h=>h) ha c1 h3
    ·simp [Rd.sat] at h1
   ·simp [Rd.sat] at hs
 | .agg l,s0,p0,cs,c,R,haw,h,hs=>by
  simp only [resolve] at hs
  simp only [CR] at h
  obtain ⟨l',R',h1,h2,h3,h4⟩:=Ma hI hκ l s0 p0 0 cs _ R (fun h=>by simpa [T.away] using haw h) h hs
  exact ⟨.agg l',R',h1,by simpa [T.pure] using h2,rfl,by simpa [T.size] using h3,fun s' p'=>by simp only [CR];exact h4 s' p' 0⟩
 | .fn f l,s0,p0,cs,c,R,haw,h,hs=>by
  simp only [resolve] at hs
  simp only [CR] at h
  obtain ⟨vs,hcs,hC⟩:=h
  obtain ⟨l',R',h1,h2,h4⟩:=Fj hI hκ l s0 p0 0 vs _ R (fun h=>by simpa [T.away] using haw h) hC hs
  exact ⟨.fn f l',R',h1,by simpa [T.pure] using h2,rfl,rfl,fun s' p'=>by simp only [CR];exact ⟨vs,hcs,h4 s' p' 0⟩⟩
 | .sl false e l,s0,p0,cs,c,R,haw,h,hs=>by
  simp only [resolve] at hs
  have h':=h
  simp only [CR] at h'
  obtain ⟨_,_,_,_,_,_,hp,_⟩:=h'
  refine ⟨_,R,hs,by simpa [T.pure] using hp,rfl,rfl,fun s' p'=>?_⟩
  exact Ef (X:=cx C env w κ) (X':=argCx C.P w κt) rfl (fun _ _=>rfl) (fun b hb=>Uk hI hκ hb) (.sl false e l) p0 p' cs (by simpa [T.pure] using hp) h
 | .fptr t,s0,p0,cs,c,R,haw,h,hs=>by
  simp only [resolve] at hs
  have h':=h
  simp only [CR] at h'
  obtain ⟨_,_,_,_,_,_,_,_,_,hp,_⟩:=h'
  refine ⟨_,R,hs,by simpa [T.pure] using hp,rfl,rfl,fun s' p'=>?_⟩
  exact Ef (X:=cx C env w κ) (X':=argCx C.P w κt) rfl (fun _ _=>rfl) (fun b hb=>Uk hI hκ hb) (.fptr t) p0 p' cs (by simpa [T.pure] using hp) h
 | .int k m,s0,p0,cs,c,R,haw,h,hs=>⟨_,R,hs,rfl,rfl,rfl,fun s' p'=>by simpa only [CR] using h⟩
 | .bool b,s0,p0,cs,c,R,haw,h,hs=>⟨_,R,hs,rfl,rfl,rfl,fun s' p'=>by simpa only [CR] using h⟩
 | .str b,s0,p0,cs,c,R,haw,h,hs=>⟨_,R,hs,rfl,rfl,rfl,fun s' p'=>
  Ef (X:=cx C env w κ) (X':=argCx C.P w κt) rfl (fun _ _=>rfl) (fun b hb=>Uk hI hκ hb) (.str b) p0 p' cs rfl h⟩
 | .nil,s0,p0,cs,c,R,haw,h,hs=>⟨_,R,hs,rfl,rfl,rfl,fun s' p'=>by simpa only [CR] using h⟩
 | .any,s0,p0,cs,c,R,haw,h,hs=>by simp [resolve,Rd.sat] at hs
 | .sl true e l,s0,p0,cs,c,R,haw,h,hs=>by simp [resolve,Rd.sat] at hs
 | .win ..,s0,p0,cs,c,R,haw,h,hs=>by simp [resolve,Rd.sat] at hs
 | .box e t,s0,p0,cs,c,R,haw,h,hs=>by simp [resolve,Rd.sat] at hs
 | .tup l,s0,p0,cs,c,R,haw,h,hs=>by simp [resolve,Rd.sat] at hs
theorem Ma (hI : Inv C env V w κ) {κt : Kap} {s9 : Nat} (hκ : ∀ c, κt c ≠ none → ∃ p v, κ c = some (s9, p, v)) : ∀ (l : List T) (s : Nat) (p : List Nat) (i : Nat) (cs : List Value) (c : List T → Rd) (R : List Nat), ((∃ c, κt c ≠ none) → T.awayL s9 l) → CRL (cx C env w κ) s p i l cs → (resolveL l c).sat AF env U R →
  ∃ l' R',(c l').sat AF env U R'∧T.pureL l'=true∧T.sizeL l'=T.sizeL l∧∀ s' p' i',CRL (argCx C.P w κt) s' p' i' l' cs
 | [],s,p,i,cs,c,R,haw,h,hs=>⟨[],R,hs,rfl,rfl,fun s' p' i'=>by simpa only [CRL] using h⟩
 | t::l,s,p,i,cs,c,R,haw,h,hs=>by
  simp only [resolveL] at hs
  simp only [CRL] at h
  obtain ⟨t',R1,h1,h2,h3,h4,h5⟩:=Je hI hκ t s _ _ _ R (fun h=>(haw h).1) h.1 hs
  obtain ⟨l',R2,g1,g2,g3,g4⟩:=Ma hI hκ l s p (i+1) _ _ R1 (fun h=>(haw h).2) h.2 h1
  exact ⟨t'::l',R2,g1,by simp [T.pureL,h2,g2],by simp [T.sizeL,h4,g3],fun s' p' i'=>by
   simp only [CRL,h4];exact ⟨h5 s' _,g4 s' p' (i'+1)⟩⟩
theorem Fj (hI : Inv C env V w κ) {κt : Kap} {s9 : Nat} (hκ : ∀ c, κt c ≠ none → ∃ p v, κ c = some (s9, p, v)) : ∀ (l : List T) (s : Nat) (p : List Nat) (i : Nat) (vs : List Value) (c : List T → Rd) (R : List Nat), ((∃ c, κt c ≠ none) → T.awayL s9 l) → CRT (cx C env w κ) s p i l vs → (resolveL l c).sat AF env U R →
  ∃ l' R',(c l').sat AF env U R'∧T.pureL l'=true∧∀ s' p' i',CRT (argCx C.P w κt) s' p' i' l' vs
 | [],s,p,i,cs,c,R,haw,h,hs=>⟨[],R,hs,rfl,fun s' p' i'=>by simpa only [CRT] using h⟩
 | t::l,s,p,i,vs,c,R,haw,h,hs=>by
  simp only [resolveL] at hs
  simp only [CRT] at h
  obtain ⟨⟨v,cs,e1,e2,e3⟩,h'⟩:=h
  obtain ⟨t',R1,h1,h2,h3,h4,h5⟩:=Je hI hκ t s _ _ _ R (fun h=>(haw h).1) e3 hs
  obtain ⟨l',R2,g1,g2,g4⟩:=Fj hI hκ l s p (i+1) _ _ R1 (fun h=>(haw h).2) h' h1
  exact ⟨t'::l',R2,g1,by simp [T.pureL,h2,g2],fun s' p' i'=>by
   simp only [CRT];exact ⟨⟨v,cs,e1,by rw [e2];exact Da h3.symm cs,h5 s' _⟩,g4 s' p' (i'+1)⟩⟩
end
theorem F0 (hI : Inv C env V w κ) {κt : Kap} {s9 : Nat} (hκ : ∀ c, κt c ≠ none → ∃ p v, κ c = some (s9, p, v)) : ∀ (l : List T) (us : List Value) (c : List T → Rd) (R : List Nat), ((∃ c, κt c ≠ none) → T.awayL s9 l) → l.length = us.length → (∀ (j : Nat) (t : T) (u : Value), l[j]? = some t → us[j]? = some u → HV (cx C env w κ) t u) → (resolveL l c).sat AF env U R →
  ∃ l' R',(c l').sat AF env U R'∧l'.length=us.length∧∀ (j:Nat) (t:T) (u:Value),l'[j]? = some t→us[j]? = some u→t.pure=true∧∀ s',VR (argCx C.P w κt) s' t u
 | [],us,c,R,haw,hl,_,hs=>⟨[],R,hs,hl,fun j t u h=>by simp at h⟩
 | t::l,[],c,R,haw,hl,_,hs=>by simp at hl
 | t::l,u::us,c,R,haw,hl,hh,hs=>by
  simp only [resolveL] at hs
  obtain ⟨s0,cs,e1,e2⟩:=(hh 0 t u rfl rfl).cells
  obtain ⟨t',R1,h1,h2,h3,h4,h5⟩:=Je hI hκ t s0 _ _ _ R (fun h=>(haw h).1) e2 hs
  obtain ⟨l',R2,g1,g2,g3⟩:=F0 hI hκ l us _ R1 (fun h=>(haw h).2) (by simpa using hl) (fun j t u hj hu=>hh (j+1) t u (by simpa using hj) (by simpa using hu)) h1
  refine ⟨t'::l',R2,g1,by simp [g2],fun j x y hx hy=>?_⟩
  cases j with
  | zero=>
   simp at hx hy;subst hx;subst hy
   exact ⟨h2,fun s'=>⟨cs,by rw [e1];exact Da h3.symm cs,h5 s' []⟩⟩
  | succ j=>exact g3 j x y (by simpa using hx) (by simpa using hy)
theorem I9 (hI : Inv C env V w κ) (l : List T) (us : List Value) (c : List T → Rd) (R : List Nat) (hl : l.length = us.length) (hh : ∀ (j : Nat) (t : T) (u : Value), l[j]? = some t → us[j]? = some u → HV (cx C env w κ) t u) (hs : (resolveL l c).sat AF env U R) :
  ∃ l' R',(c l').sat AF env U R'∧l'.length=us.length∧∀ (j:Nat) (t:T) (u:Value),l'[j]? = some t→us[j]? = some u→t.pure=true∧∀ s',VR (seen C w) s' t u:=
 F0 (κt:=fun _=>none) (s9:=0) hI (fun _ h=>absurd rfl h) l us c R (fun ⟨_,h⟩=>absurd rfl h) hl hh hs
theorem Ci {f : FuncId} {fn : Func} (hf : P.funcs[f]? = some fn) (h1 : (fn.name == "runtime.NumGoroutine") = false) (h2 : fn.body.isNone = false) (args : Array Value) (w : World) :
  (callFunc f args).run P w=.ok (.enter f args) w:=by
 simp only [callFunc,Sem.run_bind,run_program,Result.andThen_ok,hf,h1,h2,Bool.false_eq_true,if_false]
 rfl
theorem M8 [Small n] (hd : a.defers = []) (hn : a.tmps.size = n) (hI : Inv C env V w κ) (hV : ∀ t, t < 1000000 → V t = a.tmps.getD t undef) {d : Nat} (hdn : d < n) {r : T} {v : Value} {w' : World} {κ' : Kap}
  (hB:Back C.P w (fun _=>none) r v w' κ'):FR C n ((d,⟨verOf (lk env d)+1,mkSV r⟩)::env) (a.put (some d) v) w':=by
 have hI':Inv C env V w' κ:=hI.ext hB.os hB.tape hB.output hB.size (fun b hb=>hB.kept b hb rfl)
 have hVd:∀ t,t<1000000→upd V d v t=if t=d then v else a.tmps.getD t undef:=fun t ht=>by
  by_cases e:t=d
  ·simp [e,upd]
  ·rw [Al _ _ _ _ e,if_neg e];exact hV t ht
 obtain ⟨cs,e1,e2⟩:=hB.res
 by_cases hno:r.noOwn=true
 ·have:mkSV r=.val r:=by simp [mkSV,hno]
  rw [this]
  refine B6 hd hn hdn (hI'.bind d _ r v (by omega) hno 0 ⟨cs,e1,?_⟩) hVd
  exact Cy (resCx C.P w' κ') (cx C env w' κ) 0 0 rfl (fun b hb=>hb.elim) (fun u k q ho=>ho.elim) r [] [] cs hno e2
 ·have:mkSV r=.own r:=by simp [mkSV,hno]
  rw [this]
  obtain ⟨κ2,h2,_⟩:=hI'.fresh [] d (Small.ne hdn) r cs w' (fun b=>match κ' b with|some (0,p,v)=>some (p,v)|_=>none) rfl rfl rfl (Nat.le_refl _) (fun _ _=>rfl) (fun _ _ _ _ _ _ _=>rfl)
   (fun b p v hb=>by
    cases hk:κ' b with
    | none=>simp [hk] at hb
    | some y=>
     obtain ⟨s,q,u⟩:=y
     have hc:=hB.col b s q u hk
     have hge:w.heap.size≤b:=hc.2.resolve_right (by simp)
     refine ⟨hc.1,fun hF=>by have:=hF.1;have:=hI.size;omega,fun s' p' v' hk'=>?_⟩
     have:=(hI.col b _ _ _ hk').1
     omega)
   (fun b b' p v v' hb hb'=>by
    cases hk:κ' b with
    | none=>simp [hk] at hb
    | some y=>
     obtain ⟨s,q,u⟩:=y
     cases hk':κ' b' with
     | none=>simp [hk'] at hb'
     | some y'=>
      obtain ⟨s',q',u'⟩:=y'
      cases s with
      | succ s=>simp [hk] at hb
      | zero=>
       cases s' with
       | succ s'=>simp [hk'] at hb'
       | zero=>
        simp [hk] at hb
        simp [hk'] at hb'
        obtain ⟨rfl,_⟩:=hb
        obtain ⟨rfl,_⟩:=hb'
        exact hB.inj b b' _ _ _ _ hk hk') hB.refFree
   (fun X' h1 h2 h3 h4=>Bd (X:=resCx C.P w' κ') (s:=0) (p:=[]) h1 (fun b hb=>hb.elim) (fun b q v hk=>⟨h4 b q v (by have hk':κ' b=some (0,q,v):=hk;simp [hk']),by rw [h2];rfl⟩) hB.refFree e2)
  rw [← e1] at h2
  exact B6 hd hn hdn (by simpa [kill] using h2) hVd
theorem Ul [Small n] {f' : FuncId} (hf : f' < 1000000) (hd : a.defers = []) (hn : a.tmps.size = n) (hI : Inv C env V w κ) (hV : ∀ t, t < 1000000 → V t = a.tmps.getD t undef) {x : Operand} {caps' : List T} {args : Array Operand} {ty : Array TypeId} {o : Oper} (ho : o.op = .call { callee := .value x, args := args, argTypes := ty }) (hok : opOk n o = true)
  {d:Nat} (hdst:o.dst=some d) (hv:HV (cx C env w κ) (.fn f' caps') (a.eval x)) {R':List Nat}
  (h2:(rdvL args.toList fun vs=>resolveL vs fun vs'=>resolveL caps' fun cs=>.rd d fun s=>.call f' (vs'++cs) fun r=>[(d,⟨verOf s+1,mkSV r⟩)]).sat (AFn C.P) env U R') {Q:Exit→Act→World→Prop} :
  o.wp C.P a w (fun a' w'=>FR C n (U++env) a' w') Q:=by
 obtain ⟨vs,R2,h3,hl,h4⟩:=Dy hI hV args.toList _ R' (fun y hy=>Ap hok (by simp [ho,Op.operands,Call.operands];right;simpa using hy)) h2
 obtain ⟨vs',R3,h5,hl',h6⟩:=I9 hI vs (args.toList.map a.eval) _ R2 (by simp [hl]) (fun j t u hj hu=>by
  obtain ⟨hjl,rfl⟩:=List.getElem?_eq_some_iff.1 hj
  obtain ⟨hju,rfl⟩:=List.getElem?_eq_some_iff.1 hu
  rw [List.getElem_map]
  exact h4 j hjl (by simpa using hju)) h3
 obtain ⟨s0,cc,e1,e2⟩:=hv.cells
 simp only [CR] at e2
 obtain ⟨us,rfl,hCT⟩:=e2
 simp only [mkv,List.headD,fnVal_lt hf] at e1
 obtain ⟨cs',R4,h7,h8,h9⟩:=Fj (κt:=fun _=>none) (s9:=0) hI (fun _ h=>absurd rfl h) caps' s0 [] 0 us _ R3 (fun ⟨_,h⟩=>absurd rfl h) hCT h5
 simp only [Rd.sat] at h7
 obtain ⟨R5,⟨r,hA,rfl,_⟩,_⟩:=h7
 obtain ⟨⟨fn,g1,g2,g3⟩,hcall⟩:=(Fg hf).1 hA
 have hlen:us.length=cs'.length:=by
  have key:∀ (l:List T) (i:Nat) (us:List Value) (X:Cx) (s:Nat) (p:List Nat),CRT X s p i l us→us.length=l.length:=by
   intro l
   induction l with
   | nil=>intro i us X s p h;simp only [CRT] at h;subst h;rfl
   | cons t l ih=>
    intro i us X s p h
    simp only [CRT] at h
    obtain ⟨⟨v,cs,q1,_,_⟩,h2⟩:=h
    have:=ih (i+1) us.tail X s p h2
    cases us with
    | nil=>simp at q1
    | cons u us=>simpa using this
  exact key cs' 0 us (seen C w) 0 [] (h9 0 [] 0)
 have hcall':=hcall w ((args.toList.map a.eval)++us) (fun _=>none) (fun _ _ _ _ h=>by cases h) (fun _ _ _ _ _ _ h=>by cases h) (by simp only [List.length_append,hl',hlen]) (fun j t u hj hu=>by
  by_cases hlt:j<vs'.length
  ·rw [List.getElem?_append_left hlt] at hj
   rw [List.getElem?_append_left (by omega)] at hu
   obtain ⟨q1,q2⟩:=h6 j t u hj hu
   exact ⟨Cj t q1,q2 j⟩
  ·rw [List.getElem?_append_right (by omega)] at hj
   rw [List.getElem?_append_right (by omega)] at hu
   have hp0:t.pure=true:=(Dc cs').1 h8 t (List.mem_of_getElem? hj)
   obtain ⟨c0,q1,q2⟩:=Me cs' _ 0 us t hj (h9 0 [] 0)
   rw [show (List.map a.eval args.toList).length=vs'.length by omega] at hu
   rw [q1] at hu
   refine ⟨Cj t hp0,c0,by simpa using hu.symm,?_⟩
   exact Av (seen C w) _ 0 j rfl (fun b hb=>⟨hb,rfl⟩) t _ [] c0 hp0 q2)
 have hrun:(execOp a.eval o).run C.P w=.ok (.enter f' ((args.toList.map a.eval)++us).toArray) w:=by
  simp only [execOp,ho,Go.resolve,e1,Deferred.ofValue,Sem.run_bind,Sem.run_pure,Result.andThen_ok,invoke,Ci g1 g2 g3]
  congr 2
  apply Array.ext'
  simp
 unfold Oper.wp
 rw [hrun]
 show Calls C.P f' _ w _
 refine hcall'.mono fun e w' hh=>?_
 obtain ⟨v,κ',rfl,hB⟩:=hh
 show FR C n _ (a.put o.dst v) w'
 rw [hdst]
 exact M8 hd hn hI hV (Am hok d hdst) hB
theorem Ade [Small n] {f' : FuncId} (hf : ¬ f' < 1000000) (hf2 : f' - 1000000 < 1000000) (hd : a.defers = []) (hn : a.tmps.size = n) (hI : Inv C env V w κ) (hV : ∀ t, t < 1000000 → V t = a.tmps.getD t undef) {x : Operand} {caps' : List T} (hne : caps'.isEmpty = false) {args : Array Operand} {ty : Array TypeId} {o : Oper} (ho : o.op = .call { callee := .value x, args := args, argTypes := ty }) (hok : opOk n o = true)
  {d:Nat} (hdst:o.dst=some d) (hv:HV (cx C env w κ) (.fn f' caps') (a.eval x)) {R':List Nat}
  (h2:(rdvL args.toList fun vs=>resolveL vs fun vs'=>resolveL caps' fun cs=>.rd d fun s=>.call (f'-1000000) (cs++vs') fun r=>[(d,⟨verOf s+1,mkSV r⟩)]).sat (AFn C.P) env U R') {Q:Exit→Act→World→Prop} :
  o.wp C.P a w (fun a' w'=>FR C n (U++env) a' w') Q:=by
 obtain ⟨vs,R2,h3,hl,h4⟩:=Dy hI hV args.toList _ R' (fun y hy=>Ap hok (by simp [ho,Op.operands,Call.operands];right;simpa using hy)) h2
 obtain ⟨vs',R3,h5,hl',h6⟩:=I9 hI vs (args.toList.map a.eval) _ R2 (by simp [hl]) (fun j t u hj hu=>by
  obtain ⟨hjl,rfl⟩:=List.getElem?_eq_some_iff.1 hj
  obtain ⟨hju,rfl⟩:=List.getElem?_eq_some_iff.1 hu
  rw [List.getElem_map]
  exact h4 j hjl (by simpa using hju)) h3
 obtain ⟨s0,cc,e1,e2⟩:=hv.cells
 simp only [CR] at e2
 obtain ⟨us,rfl,hCT⟩:=e2
 simp only [mkv,List.headD] at e1
 have hune:us≠[]:=fun e=>by
  subst e
  cases caps' with
  | nil=>simp at hne
  | cons t l=>simp only [CRT] at hCT;obtain ⟨⟨v,cs,q1,_⟩,_⟩:=hCT;simp at q1
 rw [fnVal_ge hf hune] at e1
 obtain ⟨cs',R4,h7,h8,h9⟩:=Fj (κt:=fun _=>none) (s9:=0) hI (fun _ h=>absurd rfl h) caps' s0 [] 0 us _ R3 (fun ⟨_,h⟩=>absurd rfl h) hCT h5
 simp only [Rd.sat] at h7
 obtain ⟨R5,⟨r,hA,rfl,_⟩,_⟩:=h7
 obtain ⟨f2,hf2e⟩:∃ f2,f'-1000000=f2:=⟨_,rfl⟩
 rw [hf2e] at hf2
 have hfl:f2<1000000:=hf2
 rw [hf2e] at hA e1
 obtain ⟨⟨fn,g1,g2,g3⟩,hcall⟩:=(Fg hfl).1 hA
 have hlen:us.length=cs'.length:=by
  have key:∀ (l:List T) (i:Nat) (us:List Value) (X:Cx) (s:Nat) (p:List Nat),CRT X s p i l us→us.length=l.length:=by
   intro l
   induction l with
   | nil=>intro i us X s p h;simp only [CRT] at h;subst h;rfl
   | cons t l ih=>
    intro i us X s p h
    simp only [CRT] at h
    obtain ⟨⟨v,cs,q1,_,_⟩,h2⟩:=h
    have:=ih (i+1) us.tail X s p h2
    cases us with
    | nil=>simp at q1
    | cons u us=>simpa using this
  exact key cs' 0 us (seen C w) 0 [] (h9 0 [] 0)
 have hcall':=hcall w (us++(args.toList.map a.eval)) (fun _=>none) (fun _ _ _ _ h=>by cases h) (fun _ _ _ _ _ _ h=>by cases h) (by simp only [List.length_append,hl',hlen]) (fun j t u hj hu=>by
  by_cases hlt:j<cs'.length
  ·rw [List.getElem?_append_left hlt] at hj
   rw [List.getElem?_append_left (by omega)] at hu
   have hp0:t.pure=true:=(Dc cs').1 h8 t (List.mem_of_getElem? hj)
   obtain ⟨c0,q1,q2⟩:=Me cs' _ 0 us t hj (h9 0 [] 0)
   rw [q1] at hu
   refine ⟨Cj t hp0,c0,by simpa using hu.symm,?_⟩
   exact Av (seen C w) _ 0 j rfl (fun b hb=>⟨hb,rfl⟩) t _ [] c0 hp0 q2
  ·rw [List.getElem?_append_right (by omega)] at hj
   rw [List.getElem?_append_right (by omega)] at hu
   rw [hlen] at hu
   obtain ⟨q1,q2⟩:=h6 (j-cs'.length) t u hj hu
   obtain ⟨c0,q3,q4⟩:=q2 j
   exact ⟨Cj t q1,c0,q3,q4⟩)
 have hrun:(execOp a.eval o).run C.P w=.ok (.enter f2 (us++(args.toList.map a.eval)).toArray) w:=by
  simp only [execOp,ho,Go.resolve,e1,Deferred.ofValue,Sem.run_bind,Sem.run_pure,Result.andThen_ok,invoke,Ci g1 g2 g3]
  refine congrArg (fun z=>Result.ok (Next.enter f2 z) w) ?_
  apply Array.ext'
  simp
 unfold Oper.wp
 rw [hrun]
 show Calls C.P f2 _ w _
 refine hcall'.mono fun e w' hh=>?_
 obtain ⟨v,κ',rfl,hB⟩:=hh
 show FR C n _ (a.put o.dst v) w'
 rw [hdst]
 exact M8 hd hn hI hV (Am hok d hdst) hB
end
end
section
section
variable {C:Ctx} {env:Env} {V:Nat→Value} {w:World} {κ:Kap} {a:Act} {AF:FuncId→List T→T→Prop} {U:List (Nat×Slot)} {R:List Nat} {n:Nat}
variable {tt:Tt} {P:Program}
theorem Kz (hI : Inv C env V w κ) (hV : ∀ t, t < 1000000 → V t = a.tmps.getD t undef) : ∀ (xs : List Operand) (c : List T → Rd) (R : List Nat), (∀ x ∈ xs, opndOk x = true) → (pureRd xs c).sat AF env U R →
  ∃ vs R',(c vs).sat AF env U R'∧vs.length=xs.length∧(∀ (j:Nat) (t:T) (x:Operand),vs[j]? = some t→xs[j]? = some x→t.pure=true∧HV (cx C env w κ) t (a.eval x))
 | [],c,R,_,h=>⟨[],R,h,rfl,fun j t x hj=>by simp at hj⟩
 | x::xs,c,R,hx,h=>by
  simp only [pureRd] at h
  obtain ⟨v,R',h1,hv⟩:=Au hI hV (hx x (by simp)) h
  split at h1
  ·rename_i hp
   simp only [Bool.and_eq_true] at hp
   obtain ⟨vs,R'',h2,hl,h3⟩:=Kz hI hV xs _ R' (fun y hy=>hx y (by simp [hy])) h1
   refine ⟨v::vs,R'',h2,by simp [hl],fun j t y hj hy=>?_⟩
   cases j with
   | zero=>simp at hj hy;subst hj;subst hy;exact ⟨hp.1,hv⟩
   | succ j=>exact h3 j t y (by simpa using hj) (by simpa using hy)
  ·simp [Rd.sat] at h1
theorem Pg (hI : Inv C env V w κ) (hV : ∀ t, t < 1000000 → V t = a.tmps.getD t undef) (dv : Nat) (hdv9 : dv ≠ 3000001) : ∀ (xs : List (Operand × Bool)) (c : List T → List (Nat × Slot) → Rd) (R : List Nat), (∀ x ∈ xs, opndOk x.1 = true) → (giveRd dv xs c).sat AF env U R →
  (∃ vs R',(c vs []).sat AF env U R'∧vs.length=xs.length∧∀ (j:Nat) (t:T) (x:Operand×Bool),vs[j]? = some t→xs[j]? = some x→t.pure=true∧HV (cx C env w κ) t (a.eval x.1))∨
  (∃ vs jg v' xg s k p T0 R' κ',(c vs [(s,⟨k,.own (T.set .any p T0)⟩)]).sat AF env U R'∧vs.length=xs.length∧vs[jg]? = some v'∧xs[jg]? = some xg∧v'.refFree=true∧s≠dv∧lk env s=some ⟨k,.own T0⟩∧
   (∀ (j:Nat) (t:T) (x:Operand×Bool),j≠jg→vs[j]? = some t→xs[j]? = some x→t.pure=true∧HV (cx C env w κ) t (a.eval x.1))∧
   Inv C ((dv,⟨verOf (lk env dv)+1,.own v'⟩)::(s,⟨k,.own (T.set .any p T0)⟩)::env) (upd V dv (a.eval xg.1)) w κ')
 | [],c,R,_,h=>.inl ⟨[],R,h,rfl,fun j t x hj=>by simp at hj⟩
 | (x,false)::xs,c,R,hx,h=>by
  simp only [giveRd] at h
  obtain ⟨v,R',h1,hv⟩:=Au hI hV (hx (x,false) (by simp)) h
  split at h1
  ·rename_i hp
   simp only [Bool.and_eq_true] at hp
   rcases Pg hI hV dv hdv9 xs _ R' (fun y hy=>hx y (by simp [hy])) h1 with ⟨vs,R'',h2,hl,h3⟩|⟨vs,jg,v',xg,s,k,p,T0,R'',κ',h2,hl,h3,h4,h5,h6,h7,h8,h9⟩
   ·refine .inl ⟨v::vs,R'',h2,by simp [hl],fun j t y hj hy=>?_⟩
    cases j with
    | zero=>simp at hj hy;subst hj;subst hy;exact ⟨hp.1,hv⟩
    | succ j=>exact h3 j t y (by simpa using hj) (by simpa using hy)
   ·refine .inr ⟨v::vs,jg+1,v',xg,s,k,p,T0,R'',κ',h2,by simp [hl],by simpa using h3,by simpa using h4,h5,h6,h7,fun j t y hne hj hy=>?_,h9⟩
    cases j with
    | zero=>simp at hj hy;subst hj;subst hy;exact ⟨hp.1,hv⟩
    | succ j=>exact h8 j t y (by omega) (by simpa using hj) (by simpa using hy)
  ·simp [Rd.sat] at h1
 | (x,true)::xs,c,R,hx,h=>by
  simp only [giveRd] at h
  obtain ⟨v,R',h1,hv⟩:=Au hI hV (hx (x,true) (by simp)) h
  rcases Hy hI hdv9 hv h1 with ⟨hp,hr,h2⟩|⟨s,k,p,T0,nd,v',R'',hne,hs,hg,hnd,hrf,hag,hsz,h2,κ',hI',_⟩
  ·obtain ⟨vs, R'', h3, hl, h4⟩ := Kz hI hV (xs.map (·.1)) _ R' (fun y hy => by
    rw [List.mem_map] at hy;obtain ⟨z,hz,rfl⟩:=hy;exact hx z (by simp [hz])) h2
   refine .inl ⟨v::vs,R'',h3,by simp [hl],fun j t y hj hy=>?_⟩
   cases j with
   | zero=>simp at hj hy;subst hj;subst hy;exact ⟨hp,hv⟩
   | succ j=>exact h4 j t y.1 (by simpa using hj) (by simp at hy;simp [hy])
  ·obtain ⟨vs, R3, h3, hl, h4⟩ := Kz hI hV (xs.map (·.1)) _ R'' (fun y hy => by
    rw [List.mem_map] at hy;obtain ⟨z,hz,rfl⟩:=hy;exact hx z (by simp [hz])) h2
   refine .inr ⟨v'::vs,0,v',(x,true),s,k,p,T0,R3,κ',h3,by simp [hl],rfl,rfl,hrf,hne,hs,fun j t y hj0 hj hy=>?_,hI'⟩
   cases j with
   | zero=>exact absurd rfl hj0
   | succ j=>exact h4 j t y.1 (by simpa using hj) (by simp at hy;simp [hy])
theorem Og:∀ (xs:List Operand) (bs:List Bool),(zipB xs bs).map (·.1)=xs
 | [],_=>by simp [zipB]
 | x::l,[]=>by simp [zipB,Og l []]
 | x::l,b::bs=>by simp [zipB,Og l bs]
theorem Ah9 [Small n] {f' : FuncId} (hf : f' < 1000000) (hd : a.defers = []) (hn : a.tmps.size = n) (hI : Inv C env V w κ) (hV : ∀ t, t < 1000000 → V t = a.tmps.getD t undef) (hn1 : n ≤ 1000000) {x : Operand} {args : Array Operand} {ty : Array TypeId} {flags : List Bool} {i : Nat} {o : Oper} (ho : o.op = .call { callee := .value x, args := args, argTypes := ty }) (hok : opOk n o = true)
  {d:Nat} (hdst:o.dst=some d) (hv:HV (cx C env w κ) (.fn f' []) (a.eval x)) {R':List Nat}
  (h2:(giveRd (virt i) (zipB args.toList flags) fun vs ups=>.rd d fun s=>.rd (virt i) fun sv=>.call f' vs fun r=>(d,⟨verOf s+1,mkSV r⟩)::(match ups with|[]=>[]|u::us=>(virt i,⟨verOf sv+1,.val .any⟩)::u::us)).sat (AFn C.P) env U R') {Q:Exit→Act→World→Prop} :
  o.wp C.P a w (fun a' w'=>FR C n (U++env) a' w') Q:=by
 have hdn:=Am hok d hdst
 obtain ⟨s0,cc,e1,e2⟩:=hv.cells
 simp only [CR] at e2
 obtain ⟨us,rfl,hCT⟩:=e2
 simp only [CRT] at hCT
 subst hCT
 simp only [mkv,List.headD,fnVal_nil] at e1
 have hargs:(zipB args.toList flags).map (·.1)=args.toList:=Og _ _
 have hrunC : ∀ (hA : ∃ fn, C.P.funcs[f']? = some fn ∧ (fn.name == "runtime.NumGoroutine") = false ∧ fn.body.isNone = false), (execOp a.eval o).run C.P w = .ok (.enter f' (args.toList.map a.eval).toArray) w := by
  intro ⟨fn,g1,g2,g3⟩
  simp only [execOp,ho,Go.resolve,e1,Deferred.ofValue,Sem.run_bind,Sem.run_pure,Result.andThen_ok,invoke,Ci g1 g2 g3]
  congr 2
  apply Array.ext'
  simp
 have hval:∀ (j:Nat) (u:Value),(args.toList.map a.eval)[j]? = some u→∃ y,(zipB args.toList flags)[j]? = some y∧u=a.eval y.1:=by
  intro j u hu
  rw [← hargs,List.map_map,List.getElem?_map] at hu
  cases hy:(zipB args.toList flags)[j]? with
  | none=>simp [hy] at hu
  | some y=>simp [hy] at hu;exact ⟨y,rfl,hu.symm⟩
 have hlenz:(zipB args.toList flags).length=args.toList.length:=by rw [← hargs,List.length_map];simp [hargs]
 rcases Pg hI hV (virt i) (Gi i) _ _ R' (fun y hy => Ap hok (by
   simp [ho,Op.operands,Call.operands];right
   have:y.1∈(zipB args.toList flags).map (·.1):=List.mem_map.2 ⟨y,hy,rfl⟩
   rw [hargs] at this;simpa using this)) h2 with ⟨vs,R2,h3,hl,h4⟩|⟨vs,jg,v',xg,s,k,p,T0,R2,κ1,h3,hl,h4,h5,h6,h7,h8,h9,hI1⟩
 ·simp only [Rd.sat] at h3
  obtain ⟨R3,⟨R4,⟨r,hAF,rfl,_⟩,_⟩,_⟩:=h3
  obtain ⟨hA,hcall⟩:=(Fg hf).1 hAF
  have hcall':=hcall w (args.toList.map a.eval) (fun _=>none) (fun _ _ _ _ h=>by cases h) (fun _ _ _ _ _ _ h=>by cases h) (by simp only [List.length_map];omega) (fun j t u hj hu=>by
   obtain ⟨y,hy,rfl⟩:=hval j u hu
   obtain ⟨q1,q2⟩:=h4 j t y hj hy
   obtain ⟨s1,cs,q3,q4⟩:=q2.cells
   exact ⟨Cj t q1,cs,q3,Ef (X:=cx C env w κ) (X':=argCx C.P w (fun _=>none)) rfl (fun _ _=>rfl) (fun b hb=>⟨Nat.lt_of_lt_of_le hb.1 hI.size,rfl⟩) t [] [] cs q1 q4⟩)
  unfold Oper.wp
  rw [hrunC hA]
  show Calls C.P f' _ w _
  refine hcall'.mono fun e w' hh=>?_
  obtain ⟨v,κ',rfl,hB⟩:=hh
  show FR C n _ (a.put o.dst v) w'
  rw [hdst]
  exact M8 hd hn hI hV hdn hB
 ·simp only [Rd.sat] at h3
  obtain ⟨R3,⟨R4,⟨r,hAF,rfl,_⟩,_⟩,_⟩:=h3
  obtain ⟨hA,hcall⟩:=(Fg hf).1 hAF
  have hdv:d≠virt i:=fun e=>by have h1:d<n:=hdn;rw [e] at h1;simp [virt] at h1;omega
  let κc:Kap:=fun b=>match κ1 b with|some (u,q,v)=>if u=virt i then some (jg,q,v) else none|none=>none
  have hκc:∀ b s p v,κc b=some (s,p,v)→s=jg∧κ1 b=some (virt i,p,v):=by
   intro b s p v hb
   simp only [κc] at hb
   cases hk:κ1 b with
   | none=>simp [hk] at hb
   | some y=>
    obtain ⟨u,q,v1⟩:=y
    simp only [hk] at hb
    split at hb
    ·rename_i e
     simp only [Option.some.injEq,Prod.mk.injEq] at hb
     obtain ⟨rfl,rfl,rfl⟩:=hb
     exact ⟨rfl,by rw [e]⟩
    ·cases hb
  have hκn:∀ b,κc b=none→∀ u q v,κ1 b=some (u,q,v)→u≠virt i:=by
   intro b hb u q v hk e
   subst e
   simp [κc,hk] at hb
  have hFc:∀ b,C.F b→b<w.heap.size∧κc b=none:=fun b hb=>⟨Nat.lt_of_lt_of_le hb.1 hI.size,by
   cases hk:κc b with
   | none=>rfl
   | some y=>
    obtain ⟨s,p,v⟩:=y
    have:=hκc b s p v hk
    exact absurd hb (hI1.col b _ _ _ this.2).2⟩
  have hcall':=hcall w (args.toList.map a.eval) κc (fun b s p v hb=>(hI1.col b _ _ _ (hκc b s p v hb).2).1) (fun b b' s p v v' hb hb'=>hI1.inj b b' _ _ _ _ (hκc b s p v hb).2 (hκc b' s p v' hb').2) (by simp only [List.length_map];omega) (fun j t u hj hu=>by
   obtain ⟨y,hy,rfl⟩:=hval j u hu
   by_cases e:j=jg
   ·subst e
    rw [h4] at hj
    simp at hj;subst hj
    rw [h5] at hy
    simp at hy;subst hy
    obtain ⟨_,cs,q1,q2⟩:=hI1.own (virt i) _ _ (Ak _ _ _)
    rw [By] at q1
    exact ⟨h6,cs,q1,Bd (X:=cx C ((virt i,(⟨verOf (lk env (virt i))+1,.own v'⟩:Slot))::(s,⟨k,.own (T.set .any p T0)⟩)::env) w κ1) (X':=argCx C.P w κc) (s:=virt i) (p:=[]) rfl (fun b hb=>⟨hFc b hb,rfl⟩) (fun b q v hk=>⟨by
     have hk':κ1 b=some (virt i,q,v):=hk
     show κc b=some (j,q,v)
     simp [κc,hk'],rfl⟩) h6 q2⟩
   ·obtain ⟨q1,q2⟩:=h9 j t y e hj hy
    obtain ⟨s1,cs,q3,q4⟩:=q2.cells
    exact ⟨Cj t q1,cs,q3,Ef (X:=cx C env w κ) (X':=argCx C.P w κc) rfl (fun _ _=>rfl) hFc t [] [] cs q1 q4⟩)
  unfold Oper.wp
  rw [hrunC hA]
  show Calls C.P f' _ w _
  refine hcall'.mono fun e w' hh=>?_
  obtain ⟨v,κ',rfl,hB⟩:=hh
  show FR C n _ (a.put o.dst v) w'
  rw [hdst]
  obtain ⟨cs,q1,q2⟩:=hB.res
  have hsame:∀ b u q v,κ1 b=some (u,q,v)→u≠virt i→w'.heap[b]? = w.heap[b]?:=fun b u q v hk hu=>hB.kept b (hI1.col b u q v hk).1 (by simp [κc,hk,hu])
  have hVd:∀ (y:Value) t,t<1000000→upd (upd V (virt i) (a.eval xg.1)) d y t=if t=d then y else a.tmps.getD t undef:=fun y t ht=>by
   by_cases e:t=d
   ·simp [e,upd]
   ·rw [Al _ _ _ _ e,if_neg e,Al _ _ _ _ (by simp [virt];omega)];exact hV t ht
  have hvd:verOf (lk ((virt i,(⟨verOf (lk env (virt i))+1,.own v'⟩:Slot))::(s,⟨k,.own (T.set .any p T0)⟩)::env) d)=verOf (lk env d):=by
   rw [Ab _ _ _ _ hdv]
   by_cases e:d=s
   ·subst e;rw [Ak,h8];rfl
   ·rw [Ab _ _ _ _ e]
  by_cases hno:r.noOwn=true
  ·have hmk:mkSV r=.val r:=by simp [mkSV,hno]
   rw [hmk]
   obtain ⟨κ2,hI2,_⟩:=hI1.fresh [virt i] d (Small.ne hdn) .any [v] w' (fun _=>none) hB.os hB.tape hB.output hB.size (fun b hb=>hB.kept b (hFc b hb).1 (hFc b hb).2) (fun b s p v hk hs _=>hsame b s p v hk (by simpa using hs))
    (fun _ _ _ h=>by cases h) (fun _ _ _ _ _ h=>by cases h) rfl (fun X' _ _ _ _=>by simp only [CR];exact ⟨v,rfl⟩)
   have hI3:=hI2.bind d (verOf (lk env d)+1) r v (by rw [Ak,hvd];exact Nat.le_refl _) hno 0 ⟨cs,q1,Cy (resCx C.P w' κ') (cx C _ w' κ2) 0 0 rfl (fun b hb=>hb.elim) (fun u k q ho=>ho.elim) r [] [] cs hno q2⟩
   refine (B6 (v:=v) hd hn hdn hI3 (fun t ht=>?_)).congr (fun t=>?_)
   ·by_cases e:t=d
    ·simp [e,upd]
    ·rw [Al _ _ _ _ e];exact hVd _ t ht
   ·simp only [kill,List.map_cons,List.map_nil,List.cons_append,List.nil_append,lk,if_true,verOf]
    by_cases q1:d=t
    ·simp [q1]
    ·simp only [q1,if_false]
     by_cases q2:virt i=t
     ·simp [q2]
     ·simp [q2]
  ·have hmk:mkSV r=.own r:=by simp [mkSV,hno]
   rw [hmk]
   obtain ⟨κ2,hI2,_⟩:=hI1.fresh [virt i] d (Small.ne hdn) r cs w' (fun b=>match κ' b with|some (0,p,v)=>some (p,v)|_=>none) hB.os hB.tape hB.output hB.size (fun b hb=>hB.kept b (hFc b hb).1 (hFc b hb).2) (fun b s p v hk hs _=>hsame b s p v hk (by simpa using hs))
    (fun b p v hb=>by
     cases hk:κ' b with
     | none=>simp [hk] at hb
     | some y=>
      obtain ⟨s',q,u⟩:=y
      have hc:=hB.col b s' q u hk
      rcases hc.2 with hge|hne
      ·refine ⟨hc.1,fun hF=>by have:=hF.1;have:=hI.size;omega,fun s' p' v' hk'=>?_⟩
       have:=(hI1.col b _ _ _ hk').1
       omega
      ·cases hkc:κc b with
       | none=>exact absurd hkc hne
       | some z=>
        obtain ⟨z1,z2,z3⟩:=z
        have hz:=(hκc b z1 z2 z3 hkc).2
        refine ⟨hc.1,(hI1.col b _ _ _ hz).2,fun s' p' v' hk'=>?_⟩
        rw [hz] at hk'
        simp only [Option.some.injEq,Prod.mk.injEq] at hk'
        exact .inl (by simp [← hk'.1]))
    (fun b b' p v v' hb hb'=>by
     cases hk:κ' b with
     | none=>simp [hk] at hb
     | some y=>
      obtain ⟨s,q,u⟩:=y
      cases hk':κ' b' with
      | none=>simp [hk'] at hb'
      | some y'=>
       obtain ⟨s',q',u'⟩:=y'
       cases s with
       | succ s=>simp [hk] at hb
       | zero=>
        cases s' with
        | succ s'=>simp [hk'] at hb'
        | zero=>
         simp [hk] at hb
         simp [hk'] at hb'
         obtain ⟨rfl,_⟩:=hb
         obtain ⟨rfl,_⟩:=hb'
         exact hB.inj b b' _ _ _ _ hk hk') hB.refFree
    (fun X' g1 g2 g3 g4=>Bd (X:=resCx C.P w' κ') (s:=0) (p:=[]) g1 (fun b hb=>hb.elim) (fun b q v hk=>⟨g4 b q v (by have hk':κ' b=some (0,q,v):=hk;simp [hk']),by rw [g2];rfl⟩) hB.refFree q2)
   rw [← q1] at hI2
   refine (B6 (v:=v) hd hn hdn hI2 (hVd v)).congr (fun t=>?_)
   rw [hvd]
   simp only [kill,List.map_cons,List.map_nil,List.cons_append,List.nil_append,lk,if_true,verOf]
   by_cases q1:d=t
   ·simp [q1]
   ·simp only [q1,if_false]
    by_cases q2:virt i=t
    ·simp [q2]
    ·simp [q2]
end
end
section
section
variable {C:Ctx} {env:Env} {V:Nat→Value} {w:World} {κ:Kap} {a:Act} {AF:FuncId→List T→T→Prop} {U:List (Nat×Slot)} {R:List Nat} {n:Nat}
variable {tt:Tt} {P:Program}
def sub0 (κ:Kap) (s:Nat) (p q:List Nat):Kap:=fun b=>
 match κ b with
 | some (u,r,v)=>if u=s∧p <+: r then some (0,q++r.drop p.length,v) else none
 | none=>none
theorem Ew {s:Nat} {p q:List Nat} {b u:Nat} {r:List Nat} {v:Value} (h:sub0 κ s p q b=some (u,r,v)):∃ r',κ b=some (s,p++r',v)∧u=0∧r=q++r':=by
 simp only [sub0] at h
 cases hk:κ b with
 | none=>simp [hk] at h
 | some y=>
  obtain ⟨u1,r1,v1⟩:=y
  simp only [hk] at h
  split at h
  ·rename_i hc
   obtain ⟨rfl,r',rfl⟩:=hc
   simp only [List.drop_left,Option.some.injEq,Prod.mk.injEq] at h
   obtain ⟨rfl,rfl,rfl⟩:=h
   exact ⟨r',rfl,rfl,rfl⟩
  ·cases h
theorem Y1 {s:Nat} {p q r:List Nat} {b:Nat} {v:Value} (h:κ b=some (s,p++r,v)):sub0 κ s p q b=some (0,q++r,v):=by
 simp [sub0,h]
theorem Aju {X:Cx} {s:Nat} {p:List Nat} {nd:T} {cs:List Value} (hn:nd.isNode=true) (h:CR X s p nd cs) {v:Value} (hv:v=mkv nd cs):cs=[v]:=by
 have hl:=Bg _ _ _ _ _ h
 rw [Cc hn] at hl
 match cs,hl with
 | [c],_=>
  have:mkv nd [c]=c:=by cases nd <;> simp_all [T.isNode,mkv]
  rw [hv,this]
theorem Acx {f' : FuncId} (hf : f' < 1000000) (hd : a.defers = []) (hn : a.tmps.size = n) (hI : Inv C env V w κ) (hV : ∀ t, t < 1000000 → V t = a.tmps.getD t undef) {x y1 y2 : Operand} {args : Array Operand} {ty : Array TypeId} {o : Oper} (ho : o.op = .call { callee := .value x, args := args, argTypes := ty }) (hok : opOk n o = true)
  {d:Nat} (hdst:o.dst=some d) (hv:HV (cx C env w κ) (.fn f' []) (a.eval x)) (hargs:args.toList=[y1,y2]) {R':List Nat}
  (h2:(ioRd d f' y1 y2).sat (AFn C.P) env U R') {Q:Exit→Act→World→Prop} :
  o.wp C.P a w (fun a' w'=>FR C n (U++env) a' w') Q:=by
 simp [ioRd,Rd.sat] at h2
end
end
section
section
variable {C:Ctx} {env:Env} {V:Nat→Value} {w:World} {κ:Kap} {a:Act} {AF:FuncId→List T→T→Prop} {U:List (Nat×Slot)} {R:List Nat} {n:Nat}
variable {tt:Tt} {P:Program}
structure Ext (C C':Ctx):Prop where
 P:C'.P=C.P
 F:∀ b,C.F b→C'.F b
 heap:∀ b,C.F b→C'.w0.heap[b]? = C.w0.heap[b]?
 os:C'.w0.os=C.w0.os
 tape:C'.w0.tape=C.w0.tape
 output:C'.w0.output=C.w0.output
 size:C.w0.heap.size≤C'.w0.heap.size
 pin:C'.pin=C.pin
theorem Ext.refl (C:Ctx):Ext C C:=⟨rfl,fun _ h=>h,fun _ _=>rfl,rfl,rfl,rfl,Nat.le_refl _,rfl⟩
theorem Ext.trans {C C' C'':Ctx} (h:Ext C C') (g:Ext C' C''):Ext C C'':=
 ⟨g.P.trans h.P,fun b hb=>g.F b (h.F b hb),fun b hb=>(g.heap b (h.F b hb)).trans (h.heap b hb),g.os.trans h.os,g.tape.trans h.tape,g.output.trans h.output,Nat.le_trans h.size g.size,g.pin.trans h.pin⟩
theorem Abx (t:T) (cs:List Value):mkv t.freeze cs=mkv t cs:=by
 cases t with
 | sl o e l=>cases o <;> simp [T.freeze,mkv]
 | _=>simp [T.freeze,mkv]
theorem Inv.freezeAt {s k:Nat} {T0:T} (hs:lk env s=some ⟨k,.own T0⟩) (hI:Inv C env V w κ):∃ C' κ',Ext C C'∧Inv C' ((s,⟨k,.val T0.freeze⟩)::env) V w κ'∧∀ p nd cs,nd.refFree=true→CR (cx C env w κ) s p nd cs→CR (cx C' ((s,⟨k,.val T0.freeze⟩)::env) w κ') s [] nd.freeze cs∧nd.freeze.pure=true:=by
 let κ':Kap:=fun b=>match κ b with
  | some (u,q,v)=>if u=s then none else some (u,q,v)
  | none=>none
 have k1:∀ {b u q v},κ' b=some (u,q,v)→κ b=some (u,q,v)∧u≠s:=by
  intro b u q v h
  simp only [κ'] at h
  cases hk:κ b with
  | none=>simp [hk] at h
  | some y=>
   obtain ⟨u',q',v'⟩:=y
   simp only [hk] at h
   split at h
   ·cases h
   ·rename_i hne;cases h;exact ⟨rfl,hne⟩
 have k2:∀ {b u q v},κ b=some (u,q,v)→u≠s→κ' b=some (u,q,v):=by
  intro b u q v h hne
  simp [κ',h,hne]
 have k3:∀ {b q v},κ b=some (s,q,v)→κ' b=none:=by
  intro b q v h
  simp [κ',h]
 have hFF:∀ b,C.F b→Ctx.F ⟨C.P,w,fun b=>κ' b≠none,C.pin⟩ b:=fun b hb=>⟨Nat.lt_of_lt_of_le hb.1 hI.size,fun h=>by
  cases hk:κ' b with
  | none=>exact h hk
  | some y=>obtain ⟨u,q,v⟩:=y;exact (hI.col b _ _ _ (k1 hk).1).2 hb⟩
 have hvr:∀ (t:Nat) (x:T) (v:Value),t≠s→VR (cx C env w κ) t x v→VR (cx ⟨C.P,w,fun b=>κ' b≠none,C.pin⟩ ((s,⟨k,.val T0.freeze⟩)::env) w κ') t x v:=by
  intro t x v hne ⟨cs,h1,h2⟩
  refine ⟨cs,h1,Co (cx C env w κ) _ t t x [] [] cs ⟨rfl,fun b hb=>⟨hFF b hb,rfl⟩,fun b q v hk=>⟨k2 hk hne,rfl⟩,fun u j q ho=>?_⟩ h2⟩
  obtain ⟨y,hy,hj⟩:=ho
  by_cases e:u=s
  ·subst e
   rw [hs] at hy
   cases hy
   refine ⟨⟨_,Ak _ _ _,hj⟩,fun hn=>?_⟩
   obtain ⟨T2,nd,g1,_⟩:=hn
   rw [Ak] at g1
   cases g1
  ·refine ⟨⟨y,by rw [Ab _ _ _ _ e];exact hy,hj⟩,fun hn=>?_⟩
   obtain ⟨T2,nd,g1,g2,g3⟩:=hn
   rw [Ab _ _ _ _ e] at g1
   exact ⟨⟨T2,nd,g1,g2,g3⟩,fun b v hk=>k2 hk e⟩
 refine ⟨⟨C.P,w,fun b=>κ' b≠none,C.pin⟩,κ',⟨rfl,hFF,hI.frozen,hI.os,hI.tape,hI.output,hI.size,rfl⟩,⟨rfl,rfl,rfl,Nat.le_refl _,fun _ _=>rfl,fun b u q v h=>⟨(hI.col b _ _ _ (k1 h).1).1,fun hb=>hb.2 (show κ' b≠none by rw [h];exact fun h=>by cases h)⟩,fun b b' u q v v' h h'=>hI.inj b b' _ _ _ _ (k1 h).1 (k1 h').1,fun t j x hx=>?_,fun t j x hx=>?_,fun t j hx=>?_,fun u0 p0 b v hb T1 nd h0 hg hn=>?_,fun b v hb k9 T9 h9=>?_⟩,fun p nd cs hr h=>Ft (X:=cx C env w κ) (X':=cx ⟨C.P,w,fun b=>κ' b≠none,C.pin⟩ ((s,⟨k,.val T0.freeze⟩)::env) w κ') (s:=s) (s':=s) rfl (fun b _=>rfl) hFF nd p [] cs hr (fun b r v hk=>⟨(hI.col b _ _ _ hk).1,fun h=>h (k3 hk)⟩) h⟩
 ·by_cases e:t=s
  ·subst e
   rw [Ak] at hx
   cases hx
   obtain ⟨h1,cs,h2,h3⟩:=hI.own _ _ _ hs
   have hz:=Ft (X:=cx C env w κ) (X':=cx ⟨C.P,w,fun b=>κ' b≠none,C.pin⟩ ((t,⟨k,.val T0.freeze⟩)::env) w κ') (s:=t) (s':=t) rfl (fun b _=>rfl) hFF T0 [] [] cs h1 (fun b r v hk=>⟨(hI.col b _ _ _ hk).1,fun h=>h (k3 hk)⟩) h3
   exact ⟨Ba _ hz.2,cs,by rw [h2];exact (Abx T0 cs).symm,hz.1⟩
  ·rw [Ab _ _ _ _ e] at hx
   obtain ⟨h1,h2⟩:=hI.val t j x hx
   exact ⟨h1,hvr t x _ e h2⟩
 ·by_cases e:t=s
  ·subst e
   rw [Ak] at hx
   cases hx
  ·rw [Ab _ _ _ _ e] at hx
   obtain ⟨h1,h2⟩:=hI.own t j x hx
   exact ⟨h1,hvr t x _ e h2⟩
 ·by_cases e:t=s
  ·subst e
   rw [Ak] at hx
   cases hx
  ·rw [Ab _ _ _ _ e] at hx
   exact hI.und t j hx
 ·by_cases e:u0=s
  ·subst e
   rw [Ak] at h0
   cases h0
  ·rw [Ab _ _ _ _ e] at h0
   exact k2 (hI.pin u0 p0 b v hb T1 nd h0 hg hn) e
 ·by_cases e:3000001=s
  ·rw [← e,Ak] at h9;cases h9
  ·rw [Ab _ _ _ _ e] at h9
   exact hI.root b v hb k9 T9 h9
theorem FR.freeze {s k:Nat} {T0:T} (hs:lk env s=some ⟨k,.own T0⟩) (hF:FR C n env a w):∃ C',Ext C C'∧FR C' n ((s,⟨k,.val T0.freeze⟩)::env) a w:=by
 obtain ⟨hd,hn,κ,V,hI,hV⟩:=hF
 obtain ⟨C',κ',hE,hI',_⟩:=hI.freezeAt hs
 exact ⟨C',hE,hd,hn,κ',V,hI',hV⟩
def FRe (C:Ctx) (n:Nat) (env:Env) (a:Act) (w:World):Prop:=∃ C',Ext C C'∧FR C' n env a w
theorem FR.e (h:FR C n env a w):FRe C n env a w:=⟨C,.refl C,h⟩
theorem fre {o:Oper} {P:Program} {E:Env} {Q:Exit→Act→World→Prop} (h:o.wp P a w (fun a' w'=>FR C n E a' w') Q):o.wp P a w (fun a' w'=>FRe C n E a' w') Q:=Oper.wp_mono (fun _ _ h=>h.e) h
theorem Xx [Small n] (hP : TtOk C.P tt) (hF : FR C n env a w) {t e : TypeId} {sz by_ : Nat} {z : T} (hit : tyAt tt t = some ⟨sz, by_, z, .slice e⟩) {ie : Ty} (hie : tyAt tt e = some ie) {x : Operand} {lo hi : Option Operand} {o : Oper}
  (ho:o.op=.slice t x lo hi none) (hok:opOk n o=true)
  (h : (rdv x fun
    | .sl false e' l=>
     boundRd lo 0 fun a=>boundRd hi l.length fun b=>.need (e'=e∧0≤a∧a≤b∧b≤l.length) (fin o.dst (.sl false e ((l.take b.toNat).drop a.toNat)))
    | .ref s k p=>(match o.dst with
     | some d=>if s=d then .fail else rdn s k p fun T0 nd=>match nd with
      | .sl true e' l => if ie.kind.isSl then boundRd lo 0 fun a => boundRd hi l.length fun b => .need (e' = e ∧ 0 ≤ a ∧ a ≤ b ∧ b ≤ l.length ∧ a < l.length ∧ ie.size = 1)
        (.rd d fun sd=>.done [(d,⟨verOf sd+1,.own (.win e a.toNat b.toNat l)⟩),(s,⟨k,.own (T.set .any p T0)⟩)]) else
       if cutB lo hi then boundRd hi l.length fun c=>.need (e'=e∧0≤c∧c≤l.length∧ie.size=1∧l.all T.scalar=true)
        (.rd d fun sd=>.done [(d,⟨verOf sd+1,.own (.sl true e (l.take c.toNat))⟩),(s,⟨k,.own (T.set .any p T0)⟩)]) else
       boundRd lo 0 fun a=>if hi.isNone then .need (e'=e∧0≤a∧a<l.length∧ie.size=1) (fin o.dst (.addr s k p a.toNat [])) else boundRd hi l.length fun b=>.need (e'=e∧0≤a∧a≤b∧b≤l.length)
        (.rd d fun sd=>.done [(d,⟨verOf sd,.val (.sl false e (((T.freezeL l).take b.toNat).drop a.toNat))⟩),(s,⟨k,.val T0.freeze⟩)])
      | _=>.fail
     | none=>.fail)
    | _=>.fail).sat AF env U R) {Q:Exit→Act→World→Prop} :
  o.wp C.P a w (fun a' w'=>FRe C n (U++env) a' w') Q:=by
 have hF0:=hF
 obtain ⟨hd,hn,κ,V,hI,hV⟩:=hF
 obtain ⟨v,R',h1,hv⟩:=Au hI hV (Ap hok (by simp [ho,Op.operands])) h
 cases v <;> try (simp [Rd.sat] at h1;done)
 case sl o' e' l=>
  cases o' with
  | true=>simp [Rd.sat] at h1
  | false=>
   simp only at h1
   obtain ⟨lo',R1,h2,hlo⟩:=D0 hI hV (fun y hy=>Ap hok (by simp [ho,Op.operands,hy])) h1
   obtain ⟨hi',R2,h3,hhi⟩:=D0 hI hV (fun y hy=>Ap hok (by simp [ho,Op.operands,hy])) h2
   simp only [Rd.sat] at h3
   obtain ⟨⟨rfl,c1,c2,c3⟩,h4⟩:=h3
   obtain ⟨v',hr,hv'⟩:=P1 (a:=a) (w:=w) rfl rfl hP hit hie ho hv hlo hhi c1 c2 c3
   exact Ah hr (Ay hd hn hI hV (Am hok) hv' h4).e
 case ref s k p=>
  simp only at h1
  split at h1
  ·rename_i d hdst
   split at h1
   ·simp [Rd.sat] at h1
   ·rename_i hne
    obtain ⟨T0,nd,R4,hs,hg,hnd,h5⟩:=Bk h1
    split at h5
    ·rename_i e' l
     split at h5
     ·obtain ⟨lo',R1,h2,hlo⟩:=D0 hI hV (fun y hy=>Ap hok (by simp [ho,Op.operands,hy])) h5
      obtain ⟨hi',R2,h3,hhi⟩:=D0 hI hV (fun y hy=>Ap hok (by simp [ho,Op.operands,hy])) h2
      simp only [Rd.sat] at h3
      obtain ⟨⟨rfl,c1,c2,c3,c4,c5⟩,R5,⟨rfl,_⟩,_⟩:=h3
      exact fre (Xs hP hd hn hI hV hit hie ho hok hdst hne hs hg hnd hv hlo hhi c1 c2 c3 c4 c5)
     split at h5
     ·rename_i hcut
      obtain ⟨hi',R2,h3,hhi⟩:=D0 hI hV (fun y hy=>Ap hok (by simp [ho,Op.operands,hy])) h5
      simp only [Rd.sat] at h3
      obtain ⟨⟨rfl,c1,c2,c3,c4⟩,R5,⟨rfl,_⟩,_⟩:=h3
      exact fre (Wz hP hd hn hI hV hit hie ho hok hdst hne hs hg hnd hv hcut hhi c1 c2 c3 (fun t ht=>List.all_eq_true.1 c4 t ht))
     obtain ⟨lo',R1,h2,hlo⟩:=D0 hI hV (fun y hy=>Ap hok (by simp [ho,Op.operands,hy])) h5
     split at h2
     ·rename_i hcond
      simp only [Option.isNone_iff_eq_none] at hcond
      obtain rfl:=hcond
      simp only [Rd.sat] at h2
      obtain ⟨⟨rfl,c1,c2,c3⟩,h4⟩:=h2
      obtain ⟨s1,hc⟩:=hv.ref_cells
      obtain ⟨b,cap,cur,k1,k2,k3,k4⟩:=hI.ref_eq hs hg hnd hc
      simp only [List.cons.injEq,and_true,headOf] at k1
      obtain ⟨L,rfl⟩:=Int.eq_ofNat_of_zero_le c1
      have hcap:l.length≤cap:=by
       simp only [CR] at k2
       obtain ⟨b',cap',cur',m1,_,_,m4,_⟩:=k2
       have:a.eval x=.slice (some ⟨b',0,none⟩) l.length cap':=by simpa using m1
       rw [k1] at this
       simp at this
       omega
      have hr:=Io (C:=C) (a:=a) (w:=w) hP hit hie ho k1 hcap (H:=l.length) hlo (.inl ⟨rfl,rfl⟩) (by omega) (Nat.le_refl _)
      rw [if_neg (by omega),c3,Nat.mul_one] at hr
      simp only [Option.map_some,Bu,Nat.zero_add] at hr
      refine Ah hr (Ay hd hn hI hV (Am hok) ⟨rfl,0,[.slice (some ⟨b,L,none⟩) (l.length-L) (cap-L)],rfl,?_⟩ h4).e
      simp only [CR,Int.toNat_natCast]
      exact ⟨_,rfl,⟨_,hs,Nat.le_refl _⟩,fun _=>⟨b,_,k4,rfl⟩⟩
     obtain ⟨hi',R2,h3,hhi⟩:=D0 hI hV (fun y hy=>Ap hok (by simp [ho,Op.operands,hy])) h2
     simp only [Rd.sat] at h3
     obtain ⟨⟨rfl,c1,c2,c3⟩,R5,⟨rfl,_⟩,_⟩:=h3
     obtain ⟨s1,hc⟩:=hv.ref_cells
     obtain ⟨b,cap,cur,k1,k2,k3,k4⟩:=hI.ref_eq hs hg hnd hc
     have hr0:=Br p T0 _ hg (hI.own s k T0 hs).1
     obtain ⟨C',κ',hE,hI',hfr⟩:=hI.freezeAt hs
     have hz:=hfr p _ _ hr0 k2
     have hfl:(T.freezeL l).length=l.length:=by rw [C7,List.length_map]
     have hv2:HV (cx C' ((s,⟨k,.val T0.freeze⟩)::env) w κ') (.sl false e' (T.freezeL l)) (a.eval x):=by
      refine ⟨Ba _ hz.2,s,[a.eval x],?_,?_⟩
      ·rfl
      ·exact hz.1
     rw [← hfl] at hhi c3
     have hP':TtOk C'.P tt:=by rw [hE.P];exact hP
     obtain ⟨v',hr,hv'⟩:=P1 (C:=C') (a:=a) (w:=w) rfl rfl hP' hit hie ho hv2 hlo hhi c1 c2 c3
     rw [hE.P] at hr
     refine Ah hr ⟨C',hE,?_⟩
     rw [hdst]
     have hdn:=Am hok d hdst
     exact Ay hd hn hI' hV (fun t ht=>by cases ht;exact hdn) hv' (d:=some d) (AF:=AF) (R:=[d]) (by
      simp only [fin,Rd.sat,Ab _ _ _ _ (fun e=>hne e.symm)]
      exact ⟨[],⟨rfl,rfl⟩,rfl⟩)
    ·simp [Rd.sat] at h5
  ·simp [Rd.sat] at h1
theorem Inv.later (hI:Inv C env V w κ):Ext C ⟨C.P,w,fun b=>κ b≠none,C.pin⟩∧Inv ⟨C.P,w,fun b=>κ b≠none,C.pin⟩ env V w κ:=by
 have hFF:∀ b,C.F b→Ctx.F ⟨C.P,w,fun b=>κ b≠none,C.pin⟩ b:=fun b hb=>⟨Nat.lt_of_lt_of_le hb.1 hI.size,fun h=>by
  cases hk:κ b with
  | none=>exact h hk
  | some y=>obtain ⟨u,q,v⟩:=y;exact (hI.col b _ _ _ hk).2 hb⟩
 have hvr:∀ (t:Nat) (x:T) (v:Value),VR (cx C env w κ) t x v→VR (cx ⟨C.P,w,fun b=>κ b≠none,C.pin⟩ env w κ) t x v:=fun t x v ⟨cs,h1,h2⟩=>
  ⟨cs,h1,Co (cx C env w κ) _ t t x [] [] cs ⟨rfl,fun b hb=>⟨hFF b hb,rfl⟩,fun b q v hk=>⟨hk,rfl⟩,fun u j q ho=>⟨ho,fun hn=>⟨hn,fun b v hk=>hk⟩⟩⟩ h2⟩
 exact ⟨⟨rfl,hFF,hI.frozen,hI.os,hI.tape,hI.output,hI.size,rfl⟩,rfl,rfl,rfl,Nat.le_refl _,fun _ _=>rfl,fun b u q v h=>⟨(hI.col b _ _ _ h).1,fun hb=>hb.2 (show κ b≠none by rw [h];exact fun h=>by cases h)⟩,hI.inj,fun t j x hx=>⟨(hI.val t j x hx).1,hvr t x _ (hI.val t j x hx).2⟩,fun t j x hx=>⟨(hI.own t j x hx).1,hvr t x _ (hI.own t j x hx).2⟩,hI.und,hI.pin,hI.root⟩
end
end
section
section
variable {C:Ctx} {env:Env} {V:Nat→Value} {w:World} {κ:Kap} {a:Act} {AF:FuncId→List T→T→Prop} {U:List (Nat×Slot)} {R:List Nat} {n:Nat}
variable {tt:Tt} {P:Program}
theorem X7 {l:List T} (h:∀ t∈l,t.scalar=true):∀ r n,T.get r (.agg l)=some n→n.isNode=false:=by
 intro r n hr
 cases r with
 | nil=>simp [T.get] at hr;subst hr;rfl
 | cons i r=>
  simp only [T.get] at hr
  cases hl:l[i]? with
  | none=>simp [hl] at hr
  | some x=>
   simp [hl] at hr
   exact Cz (h x (List.mem_of_getElem? hl)) r n hr
theorem Jw {X : Cx} {s : Nat} {p : List Nat} {ts : List T} {cur : Array Value} (hsc : ∀ t ∈ ts, t.scalar = true) (hl : cur.size = ts.length)
  (h:∀ (j:Nat) (t:T) (v:Value),ts[j]? = some t→cur[j]? = some v→∀ (X:Cx) (s:Nat) (p:List Nat),CR X s p t [v]):CRL X s p 0 ts cur.toList:=
 Cu ts 0 cur.toList (by simp [hl]) (fun t ht=>Bm (hsc t ht)) (fun j t v hj hv=>h j t v hj (by simpa using hv) _ _ _)
theorem Ds {ts:List T} (hsc:∀ t∈ts,t.scalar=true):T.sizeL ts=ts.length:=by
 rw [Bj (n:=1) (fun t ht=>Bm (hsc t ht)),Nat.mul_one]
theorem Aif [Small n] {f' : FuncId} (hf : f' < 1000000) (hd : a.defers = []) (hn : a.tmps.size = n) (hI : Inv C env V w κ) (hV : ∀ t, t < 1000000 → V t = a.tmps.getD t undef) {x : Operand} {args : Array Operand} {ty : Array TypeId} {o : Oper} (ho : o.op = .call { callee := .value x, args := args, argTypes := ty }) (hok : opOk n o = true)
  {d:Nat} (hdst:o.dst=some d) (hv:HV (cx C env w κ) (.fn f' []) (a.eval x)) {R':List Nat}
  (h2:(ioGRd d f' args.toList).sat (AFn C.P) env U R') {Q:Exit→Act→World→Prop} :
  o.wp C.P a w (fun a' w'=>FR C n (U++env) a' w') Q:=by
 have hdn:=Am hok d hdst
 obtain ⟨s0,cc,e1,e2⟩:=hv.cells
 simp only [CR] at e2
 obtain ⟨us,rfl,hCT⟩:=e2
 simp only [CRT] at hCT
 subst hCT
 simp only [mkv,List.headD,fnVal_nil] at e1
 have hopd:∀ y∈args.toList,opndOk y=true:=fun y hy=>Ap hok (by simp [ho,Op.operands,Call.operands];right;simpa using hy)
 unfold ioGRd at h2
 split at h2
 ·simp [Rd.sat] at h2
 rename_i x0 ys hargs
 obtain ⟨v,R1,h3,hv1⟩:=Au hI hV (hopd x0 (by simp [hargs])) h2
 split at h3
 ·rename_i s k p off sub
  split at h3
  ·simp [Rd.sat] at h3
  rename_i hne
  split at h3
  ·rename_i hsub
   simp only [Rd.sat] at h3
   obtain ⟨⟨rfl,rfl⟩,h4⟩:=h3
   subst hsub
   obtain ⟨vs,R2,h5,hl,h6⟩:=Dy hI hV ys _ _ (fun y hy=>hopd y (by simp [hargs,hy])) h4
   simp only [Rd.sat] at h5
   obtain ⟨haw,h5⟩:=h5
   have hT:∃ T0,lk env s=some ⟨k,.own T0⟩∧T0.isNode=true:=by
    obtain ⟨vs',R3,h7,_⟩:=I9 hI vs (ys.map a.eval) _ R2 (by simp [hl]) (fun j t u hj hu=>by
     obtain ⟨hjl,rfl⟩:=List.getElem?_eq_some_iff.1 hj
     obtain ⟨hju,rfl⟩:=List.getElem?_eq_some_iff.1 hu
     rw [List.getElem_map]
     exact h6 j hjl (by simpa using hju)) h5
    obtain ⟨T0,nd,R4,hs,hg,hnd,_⟩:=Bk h7
    simp only [T.get,Option.some.injEq] at hg
    subst hg
    exact ⟨T0,hs,hnd⟩
   obtain ⟨T0,hs,hnd⟩:=hT
   obtain ⟨s1,cs1,q1,q2⟩:=hv1.cells
   obtain ⟨b,cap,cur0,k1,k2,k3,k4⟩:=hI.addr_eq hs (q:=[]) (n:=T0) (by simp [T.get]) hnd q2
   have hκ:∀ c,boxK b c≠none→∃ p v,κ c=some (s,p,v):=by
    intro c hc
    simp only [boxK] at hc
    split at hc
    ·rename_i e
     subst e
     exact ⟨_,_,k4⟩
    ·exact absurd rfl hc
   obtain ⟨vs',R3,h7,hl',h8⟩:=F0 (κt:=boxK b) (s9:=s) hI hκ vs (ys.map a.eval) _ R2 (fun _=>haw) (by simp [hl]) (fun j t u hj hu=>by
    obtain ⟨hjl,rfl⟩:=List.getElem?_eq_some_iff.1 hj
    obtain ⟨hju,rfl⟩:=List.getElem?_eq_some_iff.1 hu
    rw [List.getElem_map]
    exact h6 j hjl (by simpa using hju)) h5
   obtain ⟨T1,nd,R4,hs',hg,_,h9⟩:=Bk h7
   rw [hs] at hs'
   cases hs'
   simp only [Rd.sat] at h9
   obtain ⟨R5,h10,_⟩:=h9
   split at h10
   ·rename_i kg g hgl
    split at h10
    ·rename_i hgp
     simp only [Rd.sat] at h10
     obtain ⟨R6,⟨r,hA,rfl,_⟩,_⟩:=h10
     obtain ⟨⟨fn,g1,g2,g3⟩,e,ts,ts',rest,g',r1,ea,rfl,hsc,hsc',hlen,hcall⟩:=(Aiu hf).1 hA
     simp only [List.cons.injEq] at ea
     obtain ⟨rfl,rfl,rfl⟩:=ea
     simp only [headOf] at k1 k2 k4
     obtain ⟨hr0,csV,hVs,hCV⟩:=hI.own s k _ hs
     simp only [CR] at k2
     obtain ⟨b',cur,m1,m2,m3,m4,m5,m6⟩:=k2
     simp only [List.cons.injEq,Value.pointer.injEq,Option.some.injEq,Addr.mk.injEq,and_true] at m1
     subst m1
     have hsz:=Ds hsc
     have hcs:cur.size=ts.length:=by rw [m5];simpa [T.size] using hsz
     have hSc:=Cm ts 0 _ hsc m6
     have hx0:a.eval x0=.pointer (some ⟨b,0,none⟩):=by rw [q1,k1];rfl
     obtain ⟨hgno,cg,eg1,eg2⟩:=hI.val _ _ _ hgl
     have hcall':=hcall w b cur (V 3000000) (ys.map a.eval) m2 hcs (by rw [show C.P.cellsOf e=(cx C env w κ).sz e from rfl,← m4];simpa [T.size] using hsz)
      (fun j t v hj hv=>hSc.2 j t v hj (by simpa using hv)) hgp
      (fun s'=>⟨cg,eg1,Av (cx C env w κ) (argCx C.P w (boxK b)) 3000000 s' rfl (fun c hc=>⟨Uk hI hκ hc,rfl⟩) _ [] [] cg hgp eg2⟩) (by simp only [hl']) (fun j t v hj hv=>h8 j t v hj hv)
     have hrun:(execOp a.eval o).run C.P w=.ok (.enter f' (.pointer (some ⟨b,0,none⟩)::ys.map a.eval).toArray) w:=by
      simp only [execOp,ho,Go.resolve,e1,Deferred.ofValue,Sem.run_bind,Sem.run_pure,Result.andThen_ok,invoke,Ci g1 g2 g3]
      congr 2
      apply Array.ext'
      simp [hargs,hx0]
     unfold Oper.wp
     rw [hrun]
     show Calls C.P f' _ w _
     refine hcall'.mono fun x' w' hh=>?_
     obtain ⟨v1,κ',cur',rfl,hB,hκb,hb',hcl',hSc'⟩:=hh
     show FR C n _ (a.put o.dst _) w'
     rw [hdst]
     have hne':∀ c,c≠b→boxK b c=none:=fun c hc=>by simp [boxK,hc]
     have hbF:¬ C.F b:=(hI.col b _ _ _ k4).2
     have hput:=hI.put s k k (.box e (.agg ts)) (.agg ts) (.agg ts') [0] [] (fun _=>none) w' hs (by simp) (by simp [T.get]) rfl
      (by simp only [T.refFree];exact (Cn hsc').2) hB.os hB.tape hB.output hB.size
      (fun c hc=>hB.kept c (Nat.lt_of_lt_of_le hc.1 hI.size) (hne' c (fun e=>hbF (e▸hc))))
      (fun c u p v hk _ hu=>hB.kept c (hI.col c _ _ _ hk).1 (hne' c (fun e=>by subst e;rw [k4] at hk;simp at hk;exact hu hk.1.symm)))
      (fun _ _ _ h=>by cases h) (fun _ _ _ h=>by cases h) (fun _ _ _ _ _ h=>by cases h) (.inr ⟨rfl,X7 hsc'⟩)
      (fun cs X' f1 f2 f3 f4 f5 _ hT=>by
       simp only [T.set,CR] at hT ⊢
       obtain ⟨b2,cur2,n1,n2,n3,n4,n5,n6⟩:=hT
       have hbb:b2=b:=hI.inj b2 b s [] _ _ n3 k4
       subst hbb
       refine ⟨b2,cur',n1,by rw [f2];exact hb',?_,?_,?_,Jw hsc' hcl' hSc'⟩
       ·rw [f4];exact Bs (fun _ _ _ h=>by cases h) n3 (by simp)
       ·rw [f1];simp only [T.size,Ds hsc',hlen];rw [← hsz];exact m4
       ·simp only [T.size,Ds hsc',hcl'])
     have hk0:kill [] env=env:=rfl
     rw [hk0] at hput
     have hset:T.set (.agg ts') [0] (.box e (.agg ts))=.box e (.agg ts'):=by simp [T.set]
     rw [hset] at hput
     have hver:verOf (lk ((s,⟨k,.own (.box e (.agg ts'))⟩)::env) d)=verOf (lk env d):=by rw [Ab _ _ _ _ (fun e=>hne e.symm)]
     have hVd:∀ t,t<1000000→upd V d v1 t=if t=d then v1 else a.tmps.getD t undef:=fun t ht=>by
      by_cases e:t=d
      ·simp [e,upd]
      ·rw [Al _ _ _ _ e,if_neg e];exact hV t ht
     have hcol':∀ {c s q u},κ' c=some (s,q,u)→w.heap.size≤c:=by
      intro c s q u hc
      have h1:=(hB.col c _ _ _ hc).2
      refine h1.resolve_right (fun h=>?_)
      simp only [boxK] at h
      split at h
      ·rename_i e;subst e;rw [hκb] at hc;cases hc
      ·exact h rfl
     have hcolP:∀ {c u q v},recol κ s [0] [] (fun _=>none) c=some (u,q,v)→κ c=some (u,q,v):=by
      intro c u q v hc
      rcases Cg hc with ⟨_,r',_,ho⟩|⟨_,hk,_⟩
      ·cases ho
      ·exact hk
     obtain ⟨cs,w1,w2⟩:=hB.res
     simp only [ioGUps]
     by_cases hno:r1.noOwn=true
     ·have:mkSV r1=.val r1:=by simp [mkSV,hno]
      rw [this]
      have hb2:=hput.bind d (verOf (lk env d)+1) r1 v1 (by rw [hver];omega) hno 0 ⟨cs,w1,Cy (resCx C.P w' κ') (cx C ((s,⟨k,.own (.box e (.agg ts'))⟩)::env) w' (recol κ s [0] [] fun _=>none)) 0 0 rfl (fun b hb=>hb.elim) (fun u k q ho=>ho.elim) r1 [] [] cs hno w2⟩
      exact B6 hd hn hdn hb2 hVd
     ·have:mkSV r1=.own r1:=by simp [mkSV,hno]
      rw [this]
      obtain ⟨κ2,h12,_⟩:=hput.fresh [] d (Small.ne hdn) r1 cs w' (fun b=>match κ' b with|some (0,p,v)=>some (p,v)|_=>none) rfl rfl rfl (Nat.le_refl _) (fun _ _=>rfl) (fun _ _ _ _ _ _ _=>rfl)
       (fun c p v hb=>by
        cases hk:κ' c with
        | none=>simp [hk] at hb
        | some y=>
         obtain ⟨s',q,u⟩:=y
         have hge:=hcol' hk
         refine ⟨(hB.col c s' q u hk).1,fun hF=>by have:=hF.1;have:=hI.size;omega,fun s' p' v' hk'=>?_⟩
         have:=(hI.col c _ _ _ (hcolP hk')).1
         omega)
       (fun b b' p v v' hb hb'=>by
        cases hk:κ' b with
        | none=>simp [hk] at hb
        | some y=>
         obtain ⟨s,q,u⟩:=y
         cases hk':κ' b' with
         | none=>simp [hk'] at hb'
         | some y'=>
          obtain ⟨s',q',u'⟩:=y'
          cases s with
          | succ s=>simp [hk] at hb
          | zero=>
           cases s' with
           | succ s'=>simp [hk'] at hb'
           | zero=>
            simp [hk] at hb
            simp [hk'] at hb'
            obtain ⟨rfl,_⟩:=hb
            obtain ⟨rfl,_⟩:=hb'
            exact hB.inj b b' _ _ _ _ hk hk') hB.refFree
       (fun X' h1 h2 h3 h4=>Bd (X:=resCx C.P w' κ') (s:=0) (p:=[]) h1 (fun b hb=>hb.elim) (fun b q v hk=>⟨h4 b q v (by have hk':κ' b=some (0,q,v):=hk;simp [hk']),by rw [h2];rfl⟩) hB.refFree w2)
      rw [← w1,hver] at h12
      exact B6 hd hn hdn (by simpa [kill] using h12) hVd
    ·simp [Rd.sat] at h10
   ·simp [Rd.sat] at h10
  ·simp [Rd.sat] at h3
 ·simp [Rd.sat] at h3
end
end
section
section
variable {C:Ctx} {env:Env} {V:Nat→Value} {w:World} {κ:Kap} {a:Act} {AF:FuncId→List T→T→Prop} {U:List (Nat×Slot)} {R:List Nat} {n:Nat}
variable {tt:Tt} {P:Program}
theorem P8:∀ (l:List T) (i:Nat) (us:List Value) (X:Cx) (s:Nat) (p:List Nat),CRT X s p i l us→us.length=l.length
 | [],i,us,X,s,p,h=>by simp only [CRT] at h;subst h;rfl
 | t::l,i,us,X,s,p,h=>by
  simp only [CRT] at h
  obtain ⟨⟨v,cs,q1,_,_⟩,h2⟩:=h
  have:=P8 l (i+1) us.tail X s p h2
  cases us with
  | nil=>simp at q1
  | cons u us=>simpa using this
theorem Zy {X : Cx} {s : Nat} {p : List Nat} {e : TypeId} {l : List T} {v : Value} (hsc : ∀ y ∈ l, y.scalar = true) (hsz : X.sz e = 1) (h : CR X s p (.sl true e l) [v]) :
  ∃ b cap cur,v=.slice (some ⟨b,0,none⟩) l.length cap∧X.w.heap[b]? = some (.cells cur e (0,0))∧X.kap b=some (s,p,v)∧l.length≤cap∧cap≤maxLen∧cur.size=cap∧
   ∀ (j:Nat) (y:T) (u:Value),l[j]? = some y→cur[j]? = some u→∀ (X:Cx) (s:Nat) (p:List Nat),CR X s p y [u]:=by
 simp only [CR] at h
 obtain ⟨b,cap,cur,h1,h2,h3,h4,h5,h6,h7,h8⟩:=h
 simp only [List.cons.injEq,and_true] at h1
 rw [hsz,Nat.mul_one] at h6 h8
 have hS:=Cm l 0 _ hsc h8
 refine ⟨b,cap,cur,h1,h2,by rw [h1];exact h3,h4,h5,h6,fun j y u hj hu=>hS.2 j y u hj ?_⟩
 have hjl:j<l.length:=(List.getElem?_eq_some_iff.1 hj).1
 rw [List.getElem?_take_of_lt hjl]
 simpa using hu
theorem Sk {X : Cx} {s : Nat} {p : List Nat} {e : TypeId} {l : List T} {b cap : Nat} {cur : Array Value} (hsc : ∀ y ∈ l, y.scalar = true) (hsz : X.sz e = 1) (h2 : X.w.heap[b]? = some (.cells cur e (0, 0))) (h3 : X.kap b = some (s, p, .slice (some ⟨b, 0, none⟩) l.length cap)) (h4 : l.length ≤ cap) (h5 : cap ≤ maxLen) (h6 : cur.size = cap)
  (h7:∀ (j:Nat) (y:T) (u:Value),l[j]? = some y→cur[j]? = some u→∀ (X:Cx) (s:Nat) (p:List Nat),CR X s p y [u]):CR X s p (.sl true e l) [.slice (some ⟨b,0,none⟩) l.length cap]:=by
 simp only [CR]
 refine ⟨b,cap,cur,rfl,h2,h3,h4,h5,by rw [hsz,Nat.mul_one];exact h6,fun t ht=>by rw [hsz];exact Bm (hsc t ht),?_⟩
 rw [hsz,Nat.mul_one]
 refine Cu l 0 _ (by simp;omega) (fun t ht=>Bm (hsc t ht)) (fun j t v hj hv=>h7 j t v hj ?_ _ _ _)
 have hjl:j<l.length:=(List.getElem?_eq_some_iff.1 hj).1
 rw [List.getElem?_take_of_lt hjl] at hv
 simpa using hv
theorem Se {t:T} (h:t.blank=true):∀ r n,T.get r t=some n→n.isNode=false:=by
 intro r n h1
 cases t with
 | agg l=>
  cases r with
  | nil=>simp [T.get] at h1;subst h1;rfl
  | cons i r=>
   simp only [T.get] at h1
   cases hi:l[i]? with
   | none=>simp [hi] at h1
   | some y=>
    simp only [hi,Option.bind_some] at h1
    have hy:=List.all_eq_true.1 h y (List.mem_of_getElem? hi)
    cases y with
    | nil=>cases r with
     | nil=>simp [T.get] at h1;subst h1;rfl
     | cons j r=>simp [T.get] at h1
    | _=>exact Cz (by simpa using hy) r n h1
 | _=>exact Cz (by simpa [T.blank] using h) r n h1
theorem Mk {e e':TypeId} {t t':T} (h:calm t t'=true):∀ r n,T.get r (.box e' t')=some n→n.isNode=true→∃ n0,T.get r (.box e t)=some n0∧n0.isNode=true:=by
 intro r n h1 h2
 cases r with
 | nil=>exact ⟨_,rfl,rfl⟩
 | cons i r=>
  cases i with
  | succ i=>simp [T.get] at h1
  | zero=>
   simp only [T.get] at h1 ⊢
   simp only [calm,Bool.or_eq_true] at h
   rcases h with h|h
   ·rw [Se h r n h1] at h2;cases h2
   ·cases t with
    | sl o e1 l=>
     cases o with
     | false=>simp at h
     | true=>
      cases l with
      | cons y l=>simp at h
      | nil=>
       cases t' with
       | sl o' e2 l'=>
        cases o' with
        | false=>simp at h
        | true=>
         cases l' with
         | cons y l'=>simp at h
         | nil=>
          cases r with
          | nil=>exact ⟨_,rfl,rfl⟩
          | cons i r=>simp [T.get] at h1
       | _=>simp at h
    | _=>simp at h
theorem Ir {B B':T} (h:sameCells B B'=true):(∃ e t e' t',B=.box e t∧B'=.box e' t')∨∃ e1 t1 e2 t2 e1' t1' e2' t2',B=.agg [.box e1 t1,.box e2 t2]∧B'=.agg [.box e1' t1',.box e2' t2']:=by
 unfold sameCells at h
 split at h
 ·exact .inl ⟨_,_,_,_,rfl,rfl⟩
 ·exact .inr ⟨_,_,_,_,_,_,_,_,rfl,rfl⟩
 ·cases h
theorem Ix {B B':T} (h:sameCells B B'=true):B'.isAgg=B.isAgg:=by
 rcases Ir h with ⟨_,_,_,_,rfl,rfl⟩|⟨_,_,_,_,_,_,_,_,rfl,rfl⟩ <;> rfl
theorem Aa2 {B B':T} (h:calmT B B'=true):∀ r n,T.get r B'=some n→n.isNode=true→∃ n0,T.get r B=some n0∧n0.isNode=true:=by
 intro r n h1 h2
 unfold calmT at h
 split at h
 ·exact Mk h r n h1 h2
 ·simp only [Bool.and_eq_true] at h
  match r with
  | []=>simp [T.get] at h1;subst h1;simp [T.isNode] at h2
  | 0::r=>
   simp only [T.get,List.getElem?_cons_zero,Option.bind_some] at h1 ⊢
   exact Mk h.1 r n h1 h2
  | 1::r=>
   simp only [T.get,List.getElem?_cons_succ,List.getElem?_cons_zero,Option.bind_some] at h1 ⊢
   exact Mk h.2 r n h1 h2
  | (i+2)::r=>simp [T.get] at h1
 ·cases h
theorem Afz {X X':Cx} {s s':Nat} {B B':T} {cs cs':List Value} (hag:B'.isAgg=B.isAgg) (h:CR X s [] B cs) (h':CR X' s' [] B' cs') (hm:mkv B cs=mkv B' cs'):cs'=cs:=by
 have h1:=Bg _ _ _ _ _ h
 have h2:=Bg _ _ _ _ _ h'
 cases hB:B.isAgg with
 | true=>
  rw [hB] at hag
  obtain ⟨l,rfl⟩:∃ l,B=.agg l:=by cases B <;> simp_all [T.isAgg]
  obtain ⟨l',rfl⟩:∃ l,B'=.agg l:=by cases B' <;> simp_all [T.isAgg]
  simpa [mkv] using hm.symm
 | false=>
  rw [hB] at hag
  have e1:B.size=1:=by cases B <;> simp_all [T.isAgg,T.size]
  have e2:B'.size=1:=by cases B' <;> simp_all [T.isAgg,T.size]
  rw [e1] at h1
  rw [e2] at h2
  match cs,cs',h1,h2 with
  | [x],[y],_,_=>
   have:x=y:=by cases B <;> cases B' <;> simp_all [mkv,T.isAgg]
   rw [this]
theorem Inv.putBack (hI : Inv C env V w κ) {s k k' : Nat} {B B' : T} {srcs : List Nat} {κx κ' : Kap} {w' wm : World} (hs : lk env s = some ⟨k, .own B⟩) (hsrc : s ∉ srcs) (hag : B'.isAgg = B.isAgg)
  (hB:Back C.P w κx B' (V s) w' κ') (h1:wm.os=w.os) (h2:wm.tape=w.tape) (h3:wm.output=w.output) (h4:w.heap.size≤wm.heap.size) (h4':wm.heap.size=w'.heap.size)
  (hF:∀ c,C.F c→wm.heap[c]? = w.heap[c]?) (hkept:∀ c u q v,κ c=some (u,q,v)→u ∉ srcs→u≠s→wm.heap[c]? = w.heap[c]?)
  (hnew:∀ c,κ' c≠none→wm.heap[c]? = w'.heap[c]?) (hcol3:∀ c,κ' c≠none→κx c≠none→∃ u q v,κ c=some (u,q,v)∧(u=s∨u∈srcs))
  (hk:k'=k+1∨(k'=k∧calmT B B'=true∧∀ c q v nd,T.get q B'=some nd→nd.isNode=true→κ c=some (s,q,v)→κ' c=some (0,q,v))) :
  ∃ κ2,Inv C ((s,⟨k',.own B'⟩)::kill srcs env) V wm κ2∧∀ c u q v,u≠s→u ∉ srcs→κ c=some (u,q,v)→κ2 c=some (u,q,v):=by
 let κo:Nat→Option (List Nat×Value):=fun c=>match κ' c with|some (0,q,v)=>some (q,v)|_=>none
 have hκo:∀ c r v,κo c=some (r,v)→κ' c=some (0,r,v):=by
  intro c r v hc
  simp only [κo] at hc
  split at hc
  ·rename_i q u h
   simp only [Option.some.injEq,Prod.mk.injEq] at hc
   rw [h,hc.1,hc.2]
  ·cases hc
 have hκn:∀ c r v,κ' c=some (0,r,v)→κo c=some (r,v):=by
  intro c r v hc
  simp only [κo,hc]
 obtain ⟨cs0,q1,q2⟩:=hB.res
 have hcol2:∀ c r v,κo c=some (r,v)→∀ u r v,κ c=some (u,r,v)→(u=s∧[] <+: r)∨u∈srcs:=fun c r v hc u r' v' hk'=>by
  have h5:=hκo c r v hc
  rcases (hB.col c _ _ _ h5).2 with hge|hne
  ·exact absurd (hI.col c _ _ _ hk').1 (Nat.not_lt.2 hge)
  ·obtain ⟨u1,q1,v1,h6,h7⟩:=hcol3 c (by rw [h5];exact fun h=>by cases h) hne
   rw [h6] at hk'
   simp only [Option.some.injEq,Prod.mk.injEq] at hk'
   obtain ⟨rfl,_,_⟩:=hk'
   exact h7.imp (fun e=>⟨e,List.nil_prefix⟩) id
 have hput:=hI.putG s k k' B B B' [] srcs κo wm hs hsrc rfl hag hB.refFree h1 h2 h3 h4 hF hkept
  (fun c r v hc=>by
   have h5:=hκo c r v hc
   refine ⟨by rw [h4'];exact (hB.col c _ _ _ h5).1,fun hFc=>?_⟩
   rcases (hB.col c _ _ _ h5).2 with hge|hne
   ·exact absurd (Nat.lt_of_lt_of_le hFc.1 hI.size) (Nat.not_lt.2 hge)
   ·obtain ⟨u1,q1,v1,h6,h7⟩:=hcol3 c (by rw [h5];exact fun h=>by cases h) hne
    exact (hI.col c _ _ _ h6).2 hFc) hcol2
  (fun c c' r v v' hc hc'=>hB.inj c c' _ _ _ _ (hκo c r v hc) (hκo c' r v' hc'))
  (hk.imp id fun ⟨e1,e2,e3⟩=>⟨e1,fun r n g1 g2=>⟨Aa2 e2 r n g1 g2,fun c v hc=>hκn c r v (e3 c r v n g1 g2 (by simpa using hc))⟩⟩)
  (fun cs X' f1 f2 f3 f4 f5 hV hT=>by
   simp only [T.set]
   have hcs2:cs0=cs:=Afz hag hT q2 (hV.symm.trans q1)
   subst hcs2
   refine Bd (X:=resCx C.P w' κ') (X':=X') (s:=0) (p:=[]) f1 (fun b hb=>hb.elim) (fun c q v hk'=>?_) hB.refFree q2
   have hk2:κ' c=some (0,q,v):=by have h9:=hk';rw [List.nil_append] at h9;exact h9
   refine ⟨by rw [f4];simpa using Ez (κ:=κ) (s:=s) (P:=[]) (srcs:=srcs) (hκn c q v hk2),by rw [f2];exact hnew c (by rw [hk2];exact fun h=>by cases h)⟩)
 refine ⟨_,hput,fun c u q v hu hus hc=>Bs hcol2 hc (by simp [hu,hus])⟩
theorem Inv.putList (hI : Inv C env V w κ) {s k : Nat} {p : List Nat} {T0 : T} {e : TypeId} {l l' : List T} {b cap : Nat} {cur' : Array Value} {w' : World} (hs : lk env s = some ⟨k, .own T0⟩) (hg : T.get p T0 = some (.sl true e l)) (hsc' : ∀ y ∈ l', y.scalar = true) (hlen : l'.length = l.length) (hsz : C.P.cellsOf e = 1)
  (hkb:κ b=some (s,p,.slice (some ⟨b,0,none⟩) l.length cap)) (hc1:l.length≤cap) (hc2:cap≤maxLen)
  (h1:w'.os=w.os) (h2:w'.tape=w.tape) (h3:w'.output=w.output) (h4:w.heap.size≤w'.heap.size) (h5:∀ c,c<w.heap.size→c≠b→w'.heap[c]? = w.heap[c]?) (h6:w'.heap[b]? = some (.cells cur' e (0,0))) (hcs:cur'.size=cap)
  (h7:∀ (j:Nat) (y:T) (u:Value),l'[j]? = some y→cur'[j]? = some u→∀ (X:Cx) (s:Nat) (p:List Nat),CR X s p y [u]) :
  ∃ κ',Inv C ((s,⟨k,.own (T.set (.sl true e l') p T0)⟩)::env) V w' κ'∧(∀ c y,κ' c=some y→κ c=some y)∧∀ c u q v,u≠s→κ c=some (u,q,v)→κ' c=some (u,q,v):=by
 have hbF:¬ C.F b:=(hI.col b _ _ _ hkb).2
 let κo:Nat→Option (List Nat×Value):=fun c=>if c=b then some ([],.slice (some ⟨b,0,none⟩) l.length cap) else none
 have hκo:∀ c r v,κo c=some (r,v)→c=b∧r=[]∧v=.slice (some ⟨b,0,none⟩) l.length cap:=by
  intro c r v hc
  simp only [κo] at hc
  split at hc
  ·rename_i e
   simp only [Option.some.injEq,Prod.mk.injEq] at hc
   exact ⟨e,hc.1.symm,hc.2.symm⟩
  ·cases hc
 have hκb:κo b=some ([],.slice (some ⟨b,0,none⟩) l.length cap):=by simp [κo]
 have hcol2:∀ c r v,κo c=some (r,v)→∀ u r v,κ c=some (u,r,v)→(u=s∧p <+: r)∨u∈([]:List Nat):=fun c r v hc u r' v' hk=>by
  obtain ⟨rfl,rfl,rfl⟩:=hκo c r v hc
  rw [hkb] at hk
  simp only [Option.some.injEq,Prod.mk.injEq] at hk
  obtain ⟨rfl,rfl,_⟩:=hk
  exact .inl ⟨rfl,List.prefix_refl _⟩
 have hF:∀ c,C.F c→w'.heap[c]? = w.heap[c]?:=fun c hc=>h5 c (Nat.lt_of_lt_of_le hc.1 hI.size) (fun e=>hbF (e▸hc))
 have hkeep:∀ c u r v,κ c=some (u,r,v)→¬ (u=s∧p <+: r)→w'.heap[c]? = w.heap[c]?:=fun c u r v hk hnn=>h5 c (hI.col c _ _ _ hk).1 (fun e=>by
  subst e
  rw [hkb] at hk
  simp only [Option.some.injEq,Prod.mk.injEq] at hk
  exact hnn ⟨hk.1.symm,by rw [hk.2.1];exact List.prefix_refl _⟩)
 have hrn:(T.sl true e l').refFree=true:=by simpa [T.refFree] using (Cn hsc').2
 have hput:=hI.putG s k k T0 (.sl true e l) (.sl true e l') p [] κo w' hs (by simp) hg rfl hrn h1 h2 h3 h4 hF (fun c u r v hk _ hu=>hkeep c u r v hk (fun hx=>hu hx.1))
  (fun c r v hc=>by
   obtain ⟨rfl,_,_⟩:=hκo c r v hc
   exact ⟨Nat.lt_of_lt_of_le (hI.col _ _ _ _ hkb).1 h4,hbF⟩) hcol2
  (fun c c' r v v' hc hc'=>(hκo c r v hc).1.trans (hκo c' r v' hc').1.symm)
  (.inr ⟨rfl,fun r n g1 g2=>by
   cases r with
   | nil=>
    refine ⟨⟨_,rfl,rfl⟩,fun c v hk=>?_⟩
    rw [List.append_nil] at hk
    have:=hI.inj c b s p _ _ hk hkb
    subst this
    rw [hkb] at hk
    simp only [Option.some.injEq,Prod.mk.injEq,true_and] at hk
    rw [hκb,hk]
   | cons i r=>
    simp only [T.get] at g1
    cases hi:l'[i]? with
    | none=>simp [hi] at g1
    | some t=>
     simp only [hi,Option.bind_some] at g1
     rw [Cz (hsc' t (List.mem_of_getElem? hi)) r n g1] at g2
     exact absurd g2 (by simp)⟩)
  (fun cs X' f1 f2 f3 f4 f5 _ hT=>by
   obtain ⟨cs0,h8,h9⟩:=Dj (X':=X') p T0 [] cs (.sl true e l) (.sl true e l') hg hT rfl rfl
    ⟨f1,fun c hc=>⟨by rw [f3];exact hc,by rw [f2];exact hF c hc⟩,fun c r v hk hnp=>by
     simp only [List.nil_append] at hk ⊢
     have hnn:¬ (s=s∧p <+: r):=fun hx=>hnp hx.2
     exact ⟨by rw [f4];exact Bs hcol2 hk (by simp [hnp]),by rw [f2];exact hkeep c s r v hk hnn⟩,f5⟩
   refine h9 ?_
   simp only [List.nil_append] at h8 ⊢
   have hcs0:cs0=[.slice (some ⟨b,0,none⟩) l.length cap]:=by
    obtain ⟨b2,cap2,cur2,rfl,_,x2,_⟩:=Ex (n:=.sl true e l) rfl h8
    have hb:=hI.inj b2 b s p _ _ x2 hkb
    subst hb
    have x3:κ b2=some (s,p,_):=x2
    rw [hkb] at x3
    simp only [Option.some.injEq,Prod.mk.injEq,true_and] at x3
    rw [← x3]
   rw [hcs0,← hlen]
   refine Sk hsc' (by rw [f1];exact hsz) (by rw [f2];exact h6) ?_ (by omega) hc2 hcs h7
   rw [f4,hlen]
   simpa using Ez (κ:=κ) (s:=s) (P:=p) (srcs:=[]) hκb)
 have hk0:kill [] env=env:=rfl
 rw [hk0] at hput
 refine ⟨_,hput,fun c y hc=>?_,fun c u q v hu hc=>Bs hcol2 hc (by simp [hu])⟩
 obtain ⟨u,q,v⟩:=y
 rcases Cg hc with ⟨rfl,r',rfl,ho⟩|⟨_,hk,_⟩
 ·obtain ⟨rfl,rfl,rfl⟩:=hκo _ _ _ ho
  rw [List.append_nil]
  exact hkb
 ·exact hk
theorem Tx {t:T} (h:t.scalar=true):t.noOwn=true:=by cases t <;> simp_all [T.scalar,T.noOwn]
theorem Aao {t:T} (h:t.scalar=true) (v:Value):mkv t [v]=v:=by cases t <;> simp_all [T.scalar,mkv]
theorem A6 {σ:Nat→Nat→List Nat→Option (List Nat)} {t t':T} (hd:T.shift σ t=if t.pure then some t else none) (h:T.shift σ t=some t'):t.pure=true∧t'=t:=by
 rw [hd] at h
 split at h
 ·rename_i hp
  simp only [Option.some.injEq] at h
  exact ⟨hp,h.symm⟩
 ·cases h
theorem Mi {σ:Nat→Nat→List Nat→Option (List Nat)}:∀ (l l':List T),T.shiftL σ l=some l'→l'.length=l.length∧∀ (i:Nat) (y':T),l'[i]? = some y'→∃ y,l[i]? = some y∧T.shift σ y=some y'
 | [],l',h=>by
  simp only [T.shiftL,Option.some.injEq] at h
  subst h
  exact ⟨rfl,fun i y' hi=>by simp at hi⟩
 | x::l,l',h=>by
  simp only [T.shiftL] at h
  split at h
  ·rename_i y z hy hz
   simp only [Option.some.injEq] at h
   subst h
   obtain ⟨h1,h2⟩:=Mi l z hz
   refine ⟨by simp [h1],fun i y' hi=>?_⟩
   cases i with
   | zero=>simp only [List.getElem?_cons_zero,Option.some.injEq] at hi;subst hi;exact ⟨x,rfl,hy⟩
   | succ i=>exact h2 i y' hi
  ·cases h
mutual
theorem Ff {σ:Nat→Nat→List Nat→Option (List Nat)}:∀ (t t':T),T.shift σ t=some t'→t'.noOwn=true∧∀ cs,mkv t' cs=mkv t cs
 | .addr u k q off sub,t',h=>by
  simp only [T.shift] at h
  split at h
  ·split at h
   ·simp only [Option.some.injEq] at h;subst h;exact ⟨rfl,fun cs=>rfl⟩
   ·cases h
  ·cases h
 | .fn f l,t',h=>by
  simp only [T.shift] at h
  split at h
  ·rename_i l' hl
   simp only [Option.some.injEq] at h;subst h
   exact ⟨by simpa [T.noOwn] using L1 l l' hl,fun cs=>rfl⟩
  ·cases h
 | .int ..,t',h=>by obtain ⟨h1,rfl⟩:=A6 rfl h;exact ⟨Ba _ h1,fun _=>rfl⟩
 | .bool ..,t',h=>by obtain ⟨h1,rfl⟩:=A6 rfl h;exact ⟨Ba _ h1,fun _=>rfl⟩
 | .str ..,t',h=>by obtain ⟨h1,rfl⟩:=A6 rfl h;exact ⟨Ba _ h1,fun _=>rfl⟩
 | .any,t',h=>by obtain ⟨h1,rfl⟩:=A6 rfl h;exact ⟨Ba _ h1,fun _=>rfl⟩
 | .nil,t',h=>by obtain ⟨h1,rfl⟩:=A6 rfl h;exact ⟨Ba _ h1,fun _=>rfl⟩
 | .sl ..,t',h=>by obtain ⟨h1,rfl⟩:=A6 rfl h;exact ⟨Ba _ h1,fun _=>rfl⟩
 | .win ..,t',h=>by obtain ⟨h1,rfl⟩:=A6 rfl h;exact ⟨Ba _ h1,fun _=>rfl⟩
 | .box ..,t',h=>by obtain ⟨h1,rfl⟩:=A6 rfl h;exact ⟨Ba _ h1,fun _=>rfl⟩
 | .fptr ..,t',h=>by obtain ⟨h1,rfl⟩:=A6 rfl h;exact ⟨Ba _ h1,fun _=>rfl⟩
 | .agg ..,t',h=>by obtain ⟨h1,rfl⟩:=A6 rfl h;exact ⟨Ba _ h1,fun _=>rfl⟩
 | .tup ..,t',h=>by obtain ⟨h1,rfl⟩:=A6 rfl h;exact ⟨Ba _ h1,fun _=>rfl⟩
 | .ref ..,t',h=>by obtain ⟨h1,rfl⟩:=A6 rfl h;exact ⟨Ba _ h1,fun _=>rfl⟩
theorem L1 {σ:Nat→Nat→List Nat→Option (List Nat)}:∀ (l l':List T),T.shiftL σ l=some l'→T.noOwnL l'=true
 | [],l',h=>by simp only [T.shiftL,Option.some.injEq] at h;subst h;rfl
 | x::l,l',h=>by
  simp only [T.shiftL] at h
  split at h
  ·rename_i y z hy hz
   simp only [Option.some.injEq] at h;subst h
   simp only [T.noOwnL,Bool.and_eq_true]
   exact ⟨(Ff x y hy).1,L1 l z hz⟩
  ·cases h
end
mutual
theorem Uy {X Y : Cx} {σ : Nat → Nat → List Nat → Option (List Nat)} (hsz : Y.sz = X.sz) (hF : ∀ b, X.F b → Y.F b ∧ Y.w.heap[b]? = X.w.heap[b]?)
  (hσ:∀ s k p q,σ s k p=some q→X.old s k→Y.old 3000001 0∧(Y.node 3000001 0 q→X.node s k p∧∀ b h,X.kap b=some (s,p,h)→Y.kap b=some (3000001,q,h))) (s s':Nat) :
  ∀ (t t':T) (p p':List Nat) (cs:List Value),T.shift σ t=some t'→CR X s p t cs→CR Y s' p' t' cs
 | .addr u k q off sub,t',p,p',cs,h,hc=>by
  simp only [T.shift] at h
  split at h
  ·rename_i e
   obtain ⟨rfl,rfl⟩:=e
   split at h
   ·rename_i q' hq
    simp only [Option.some.injEq] at h
    subst h
    simp only [CR] at hc ⊢
    obtain ⟨v,rfl,ho,hb⟩:=hc
    obtain ⟨h1,h2⟩:=hσ u k q q' hq ho
    refine ⟨v,rfl,h1,fun hn=>?_⟩
    obtain ⟨h3,h4⟩:=h2 hn
    obtain ⟨b,hd,h5,h6⟩:=hb h3
    exact ⟨b,hd,h4 b hd h5,h6⟩
   ·cases h
  ·cases h
 | .fn f l,t',p,p',cs,h,hc=>by
  simp only [T.shift] at h
  split at h
  ·rename_i l' hl
   simp only [Option.some.injEq] at h;subst h
   simp only [CR] at hc ⊢
   obtain ⟨vs,rfl,h1⟩:=hc
   exact ⟨vs,rfl,Pr hsz hF hσ s s' l l' p p' 0 vs hl h1⟩
  ·cases h
 | .int ..,t',p,p',cs,h,hc=>by obtain ⟨h1,rfl⟩:=A6 rfl h;exact Av X Y s s' hsz hF _ p p' cs h1 hc
 | .bool ..,t',p,p',cs,h,hc=>by obtain ⟨h1,rfl⟩:=A6 rfl h;exact Av X Y s s' hsz hF _ p p' cs h1 hc
 | .str ..,t',p,p',cs,h,hc=>by obtain ⟨h1,rfl⟩:=A6 rfl h;exact Av X Y s s' hsz hF _ p p' cs h1 hc
 | .any,t',p,p',cs,h,hc=>by obtain ⟨h1,rfl⟩:=A6 rfl h;exact Av X Y s s' hsz hF _ p p' cs h1 hc
 | .nil,t',p,p',cs,h,hc=>by obtain ⟨h1,rfl⟩:=A6 rfl h;exact Av X Y s s' hsz hF _ p p' cs h1 hc
 | .sl ..,t',p,p',cs,h,hc=>by obtain ⟨h1,rfl⟩:=A6 rfl h;exact Av X Y s s' hsz hF _ p p' cs h1 hc
 | .win ..,t',p,p',cs,h,hc=>by obtain ⟨h1,rfl⟩:=A6 rfl h;exact Av X Y s s' hsz hF _ p p' cs h1 hc
 | .box ..,t',p,p',cs,h,hc=>by obtain ⟨h1,rfl⟩:=A6 rfl h;exact Av X Y s s' hsz hF _ p p' cs h1 hc
 | .fptr ..,t',p,p',cs,h,hc=>by obtain ⟨h1,rfl⟩:=A6 rfl h;exact Av X Y s s' hsz hF _ p p' cs h1 hc
 | .agg ..,t',p,p',cs,h,hc=>by obtain ⟨h1,rfl⟩:=A6 rfl h;exact Av X Y s s' hsz hF _ p p' cs h1 hc
 | .tup ..,t',p,p',cs,h,hc=>by obtain ⟨h1,rfl⟩:=A6 rfl h;exact Av X Y s s' hsz hF _ p p' cs h1 hc
 | .ref ..,t',p,p',cs,h,hc=>by obtain ⟨h1,rfl⟩:=A6 rfl h;exact Av X Y s s' hsz hF _ p p' cs h1 hc
theorem Pr {X Y : Cx} {σ : Nat → Nat → List Nat → Option (List Nat)} (hsz : Y.sz = X.sz) (hF : ∀ b, X.F b → Y.F b ∧ Y.w.heap[b]? = X.w.heap[b]?)
  (hσ:∀ s k p q,σ s k p=some q→X.old s k→Y.old 3000001 0∧(Y.node 3000001 0 q→X.node s k p∧∀ b h,X.kap b=some (s,p,h)→Y.kap b=some (3000001,q,h))) (s s':Nat) :
  ∀ (l l':List T) (p p':List Nat) (i:Nat) (vs:List Value),T.shiftL σ l=some l'→CRT X s p i l vs→CRT Y s' p' i l' vs
 | [],l',p,p',i,vs,h,hc=>by
  simp only [T.shiftL,Option.some.injEq] at h;subst h
  simpa only [CRT] using hc
 | x::l,l',p,p',i,vs,h,hc=>by
  simp only [T.shiftL] at h
  split at h
  ·rename_i y z hy hz
   simp only [Option.some.injEq] at h;subst h
   simp only [CRT] at hc ⊢
   obtain ⟨⟨v,cs,h1,h2,h3⟩,h4⟩:=hc
   exact ⟨⟨v,cs,h1,by rw [(Ff x y hy).2];exact h2,Uy hsz hF hσ s s' x y (p++[i]) (p'++[i]) cs hy h3⟩,Pr hsz hF hσ s s' l z p p' (i+1) vs.tail hz h4⟩
  ·cases h
end
theorem Oj {X Y : Cx} {σ : Nat → Nat → List Nat → Option (List Nat)} (hsz : Y.sz = X.sz) (hF : ∀ b, X.F b → Y.F b ∧ Y.w.heap[b]? = X.w.heap[b]?)
  (hσ:∀ s k p q,σ s k p=some q→X.old s k→Y.old 3000001 0∧(Y.node 3000001 0 q→X.node s k p∧∀ b h,X.kap b=some (s,p,h)→Y.kap b=some (3000001,q,h))) {t t':T} {v:Value} (h:T.shift σ t=some t') (s0:Nat) (p0:List Nat) (cs:List Value) (hv:v=mkv t cs) (hc:CR X s0 p0 t cs) :
  t'.noOwn=true∧∀ s,VR Y s t' v:=
 ⟨(Ff t t' h).1,fun s=>⟨cs,by rw [(Ff t t' h).2];exact hv,Uy hsz hF hσ s0 s t t' p0 [] cs h hc⟩⟩
theorem Yu {P : Program} {s k : Nat} {B : T} {κc : Kap} (hs : lk env s = some ⟨k, .own B⟩) (hκ : ∀ b q v, κ b = some (s, q, v) → κc b = some (0, q, v)) : ∀ s' k' p q, one3 s k s' k' p = some q → (cx C env w κ).old s' k' →
  (hcx P w κc B).old 3000001 0∧((hcx P w κc B).node 3000001 0 q→(cx C env w κ).node s' k' p∧∀ b h,(cx C env w κ).kap b=some (s',p,h)→(hcx P w κc B).kap b=some (3000001,q,h)):=by
 intro s' k' p q h _
 simp only [one3] at h
 split at h
 ·rename_i e
  obtain ⟨rfl,rfl⟩:=e
  simp only [Option.some.injEq] at h
  subst h
  refine ⟨⟨_,Ak _ _ _,Nat.le_refl _⟩,fun ⟨T0,nd,h1,h2,h3⟩=>?_⟩
  rw [Ak] at h1
  simp only [Option.some.injEq,Slot.mk.injEq,SV.own.injEq,true_and] at h1
  subst h1
  refine ⟨⟨B,nd,hs,h2,h3⟩,fun b hd hb=>?_⟩
  show kapIn κc b=_
  simp [kapIn,hκ b p hd hb]
 ·cases h
theorem M4 {s k:Nat} {c:T→Rd} (h:(rdo s k c).sat AF env U R):∃ B R',lk env s=some ⟨k,.own B⟩∧(c B).sat AF env U R':=by
 simp only [rdo,Rd.sat] at h
 obtain ⟨R',h,_⟩:=h
 split at h
 ·rename_i k' B hl
  split at h
  ·rename_i e
   subst e
   exact ⟨B,R',hl,h⟩
  ·simp [Rd.sat] at h
 ·simp [Rd.sat] at h
theorem Ahf [Small n] {f' : FuncId} (hf : f' < 1000000) (hd : a.defers = []) (hn : a.tmps.size = n) (hI : Inv C env V w κ) (hV : ∀ t, t < 1000000 → V t = a.tmps.getD t undef) {x : Operand} {caps : List T} {args : Array Operand} {ty : Array TypeId} {o : Oper} (ho : o.op = .call { callee := .value x, args := args, argTypes := ty }) (hok : opOk n o = true)
  {d i:Nat} (hdst:o.dst=some d) (hv:HV (cx C env w κ) (.fn f' caps) (a.eval x)) {R':List Nat}
  (h2:(kRd d f' args.toList caps i).sat (AFn C.P) env U R') {Q:Exit→Act→World→Prop} :
  o.wp C.P a w (fun a' w'=>FR C n (U++env) a' w') Q:=by
 have hdn:=Am hok d hdst
 have hdv:d≠virt i:=by have:=Small.le (n:=n);have h:d<n:=hdn;unfold virt;omega
 obtain ⟨s0,cc,e1,e2⟩:=hv.cells
 simp only [CR] at e2
 obtain ⟨us,rfl,hCT⟩:=e2
 simp only [mkv,List.headD,fnVal_lt hf] at e1
 have hopd:∀ y∈args.toList,opndOk y=true:=fun y hy=>Ap hok (by simp [ho,Op.operands,Call.operands];right;simpa using hy)
 unfold kRd at h2
 split at h2
 ·rename_i x0 hargs
  split at h2
  ·rename_i s k hands hh
   split at h2
   ·simp [Rd.sat] at h2
   rename_i hne
   simp only [not_or] at hne
   obtain ⟨hne,hnv⟩:=hne
   split at h2
   ·rename_i cs hcs
    obtain ⟨v0,R0,h5,hv0⟩:=Au hI hV (hopd x0 (by simp [hargs])) h2
    rcases Hy hI (Gi i) hv0 h5 with ⟨_,_,h6⟩|⟨sa,ka,pa,Ta,nda,v',R1,hsv,hsa,hga,hnda,hrf,hag,hsz,h6,κ1,hI1,hkeep⟩
    ·simp [Rd.sat] at h6
    simp only at h6
    split at h6
    ·simp [Rd.sat] at h6
    rename_i hsas
    obtain ⟨B,R2,hs,h7⟩:=M4 h6
    simp only [Rd.sat] at h7
    obtain ⟨R3,⟨R4,⟨r,hA,rfl,_⟩,_⟩,_⟩:=h7
    obtain ⟨⟨fn,g1,g2,g3⟩,B0,B',A,rest,r1,ea,rfl,hno,hsame,hcall⟩:=(Ait hf).1 hA
    simp only [List.cons.injEq] at ea
    obtain ⟨rfl,rfl,rfl⟩:=ea
    have hul:=P8 _ _ _ _ _ _ hCT
    obtain ⟨hcl,hcat⟩:=Mi _ _ hcs
    have hs1:lk ((virt i,(⟨verOf (lk env (virt i))+1,.own v'⟩:Slot))::(sa,⟨ka,.own (T.set .any pa Ta)⟩)::env) s=some ⟨k,.own B⟩:=by
     rw [Ab _ _ _ _ hnv,Ab _ _ _ _ (Ne.symm hsas)];exact hs
    let κc:Kap:=fun c=>match κ1 c with|some (u,q,v)=>if u=s then some (0,q,v) else if u=virt i then some (1,q,v) else none|none=>none
    have hκc:∀ c u q v,κc c=some (u,q,v)→(u=0∧κ1 c=some (s,q,v))∨(u=1∧κ1 c=some (virt i,q,v)):=by
     intro c u q v hc
     simp only [κc] at hc
     cases hk:κ1 c with
     | none=>simp [hk] at hc
     | some y=>
      obtain ⟨u',q',v1⟩:=y
      simp only [hk] at hc
      split at hc
      ·rename_i e
       simp only [Option.some.injEq,Prod.mk.injEq] at hc
       obtain ⟨rfl,rfl,rfl⟩:=hc
       exact .inl ⟨rfl,by rw [e]⟩
      ·split at hc
       ·rename_i e
        simp only [Option.some.injEq,Prod.mk.injEq] at hc
        obtain ⟨rfl,rfl,rfl⟩:=hc
        exact .inr ⟨rfl,by rw [e]⟩
       ·cases hc
    have hκ0:∀ c q v,κ1 c=some (s,q,v)→κc c=some (0,q,v):=fun c q v hc=>by simp [κc,hc]
    have hκ1:∀ c q v,κ1 c=some (virt i,q,v)→κc c=some (1,q,v):=fun c q v hc=>by simp [κc,hc,Ne.symm hnv]
    have hFc:∀ c,C.F c→c<w.heap.size∧κc c=none:=fun c hc=>⟨Nat.lt_of_lt_of_le hc.1 hI.size,by
     cases hk:κc c with
     | none=>rfl
     | some y=>
      obtain ⟨u,q,v⟩:=y
      rcases hκc c u q v hk with ⟨_,h⟩|⟨_,h⟩ <;> exact absurd hc (hI1.col c _ _ _ h).2⟩
    have hVs:upd V (virt i) (a.eval x0) s=V s:=Al _ _ _ _ hnv
    have hcall':=hcall w (V s) (a.eval x0) us κc
     (fun c u q v hc=>by rcases hκc c u q v hc with ⟨e,h⟩|⟨e,h⟩ <;> exact ⟨(hI1.col c _ _ _ h).1,by simp [e]⟩)
     (fun c c' u q v v' hc hc'=>by
      rcases hκc c u q v hc with ⟨e1,h1⟩|⟨e1,h1⟩ <;> rcases hκc c' u q v' hc' with ⟨e2,h2⟩|⟨e2,h2⟩
      ·exact hI1.inj c c' _ _ _ _ h1 h2
      ·omega
      ·omega
      ·exact hI1.inj c c' _ _ _ _ h1 h2)
     (hI1.own s _ _ hs1).1
     (by
      obtain ⟨_,cs,z1,z2⟩:=hI1.own s _ _ hs1
      exact ⟨cs,by rw [← hVs];exact z1,Bd (X:=cx C _ w κ1) (X':=argCx C.P w κc) (s:=s) (p:=[]) rfl (fun c hc=>⟨hFc c hc,rfl⟩) (fun c q v hk=>⟨hκ0 c q v hk,rfl⟩) (hI1.own s _ _ hs1).1 z2⟩)
     hrf
     (by
      obtain ⟨_,cs,z1,z2⟩:=hI1.own (virt i) _ _ (Ak _ _ _)
      rw [By] at z1
      exact ⟨cs,z1,Bd (X:=cx C _ w κ1) (X':=argCx C.P w κc) (s:=virt i) (p:=[]) rfl (fun c hc=>⟨hFc c hc,rfl⟩) (fun c q v hk=>⟨hκ1 c q v hk,rfl⟩) hrf z2⟩)
     (by omega)
     (fun m y v hj hv=>by
      obtain ⟨y0,hy0,hsh⟩:=hcat m y hj
      obtain ⟨cy,z1,z2⟩:=Me caps m 0 us y0 hy0 hCT
      rw [z1] at hv
      simp only [Option.some.injEq] at hv
      exact Oj (X:=cx C env w κ) (Y:=hcx C.P w κc B) rfl (fun c hc=>⟨⟨(hFc c hc).1,fun h=>h (hFc c hc).2⟩,rfl⟩) (Yu hs (fun b q v hb=>hκ0 b q v (hkeep b s q v hnv (Ne.symm hsas) hb))) hsh s0 _ cy hv.symm z2)
    have hrun:(execOp a.eval o).run C.P w=.ok (.enter f' (a.eval x0::us).toArray) w:=by
     simp only [execOp,ho,Go.resolve,e1,Deferred.ofValue,Sem.run_bind,Sem.run_pure,Result.andThen_ok,invoke,Ci g1 g2 g3]
     congr 2
     apply Array.ext'
     simp [hargs]
    unfold Oper.wp
    rw [hrun]
    show Calls C.P f' _ w _
    refine hcall'.mono fun x' w' hh=>?_
    obtain ⟨v1,κ',rfl,hr1,hB,hcalm⟩:=hh
    show FR C n _ (a.put o.dst _) w'
    rw [hdst]
    obtain ⟨κ2,hput,_⟩:=hI1.putBack (k':=if calmT B B' then k else k+1) (srcs:=[virt i]) (κx:=κc) (wm:=w') hs1 (by simpa using hnv) (Ix hsame) (by rw [hVs];exact hB) hB.os hB.tape hB.output hB.size rfl (fun c hc=>hB.kept c (hFc c hc).1 (hFc c hc).2)
     (fun c u q v hc hu1 hu2=>hB.kept c (hI1.col c _ _ _ hc).1 (by simp [κc,hc,hu2,show u≠virt i by simpa using hu1])) (fun _ _=>rfl)
     (fun c _ hx=>by
      cases hk:κc c with
      | none=>exact absurd hk hx
      | some y=>
       obtain ⟨u,q,v⟩:=y
       rcases hκc c u q v hk with ⟨_,h⟩|⟨_,h⟩
       ·exact ⟨_,_,_,h,.inl rfl⟩
       ·exact ⟨_,_,_,h,.inr (by simp)⟩)
     (by
      by_cases hc:calmT B B'=true
      ·rw [if_pos hc]
       exact .inr ⟨rfl,hc,fun c q v nd g1 g2 g3=>hcalm hc c q v nd g1 g2 (hκ0 c q v g3)⟩
      ·rw [if_neg hc];exact .inl rfl)
    simp only [kUps]
    have hVd:∀ t,t<1000000→upd (upd V (virt i) (a.eval x0)) d v1 t=if t=d then v1 else a.tmps.getD t undef:=fun t ht=>by
     by_cases e:t=d
     ·simp [e,upd]
     ·rw [Al _ _ _ _ e,if_neg e,Al _ _ _ _ (by unfold virt;omega)];exact hV t ht
    have hver:verOf (lk ((s,(⟨if calmT B B' then k else k+1,.own B'⟩:Slot))::kill [virt i] ((virt i,(⟨verOf (lk env (virt i))+1,.own v'⟩:Slot))::(sa,⟨ka,.own (T.set .any pa Ta)⟩)::env)) d)=verOf (lk env d):=by
     rw [Ab _ _ _ _ (fun e=>hne e.symm)]
     simp only [kill,List.map_cons,List.map_nil,List.cons_append,List.nil_append]
     rw [Ab _ _ _ _ hdv,Ab _ _ _ _ hdv]
     by_cases e:d=sa
     ·subst e;rw [Ak,hsa];rfl
     ·rw [Ab _ _ _ _ e]
    have hb2:=hput.bind d (verOf (lk env d)+1) r1 v1 (by rw [hver];omega) hno 0 (hr1 _ _)
    refine (B6 (v:=v1) hd hn hdn hb2 hVd).congr (fun u=>?_)
    simp only [kill,List.map_cons,List.map_nil,List.cons_append,List.nil_append,lk,if_true,verOf]
    by_cases q1:d=u
    ·simp [q1]
    ·simp only [q1,if_false]
     by_cases q3:s=u
     ·simp [q3]
     ·simp only [q3,if_false]
      by_cases q2:virt i=u
      ·simp [q2]
      ·simp [q2]
   ·simp [Rd.sat] at h2
  ·simp [Rd.sat] at h2
 ·simp [Rd.sat] at h2
theorem Aia {f' : FuncId} (hf : f' < 1000000) (hd : a.defers = []) (hn : a.tmps.size = n) (hI : Inv C env V w κ) (hV : ∀ t, t < 1000000 → V t = a.tmps.getD t undef) {x : Operand} {args : Array Operand} {ty : Array TypeId} {o : Oper} (ho : o.op = .call { callee := .value x, args := args, argTypes := ty }) (hok : opOk n o = true)
  {d:Nat} (hdst:o.dst=some d) (hv:HV (cx C env w κ) (.fn f' []) (a.eval x)) {R':List Nat}
  (h2:(cRd d f' args.toList).sat (AFn C.P) env U R') {Q:Exit→Act→World→Prop} :
  o.wp C.P a w (fun a' w'=>FR C n (U++env) a' w') Q:=by
 have hdn:=Am hok d hdst
 obtain ⟨s0,cc,e1,e2⟩:=hv.cells
 simp only [CR] at e2
 obtain ⟨us,rfl,hCT⟩:=e2
 simp only [CRT] at hCT
 subst hCT
 simp only [mkv,List.headD,fnVal_nil] at e1
 have hopd:∀ y∈args.toList,opndOk y=true:=fun y hy=>Ap hok (by simp [ho,Op.operands,Call.operands];right;simpa using hy)
 unfold cRd at h2
 split at h2
 ·rename_i x0 x1 x2 hargs
  obtain ⟨v0,R0,h3,hv0⟩:=Au hI hV (hopd x0 (by simp [hargs])) h2
  obtain ⟨v1,R1,h4,hv1⟩:=Au hI hV (hopd x1 (by simp [hargs])) h3
  obtain ⟨v2,R2,h5,hv2⟩:=Au hI hV (hopd x2 (by simp [hargs])) h4
  split at h5
  ·rename_i km m s k p ku nu s2 k2 hands hh
   split at h5
   ·rename_i F hF
    split at h5
    ·simp [Rd.sat] at h5
    rename_i hne
    simp only [not_or] at hne
    obtain ⟨T0,nd,R3,hs,hg,hnd,h7⟩:=Bk h5
    obtain ⟨B,R4,hs2,h8⟩:=M4 h7
    simp only [Rd.sat] at h8
    obtain ⟨R5,⟨r,hA,rfl,_⟩,_⟩:=h8
    obtain ⟨⟨fn,g1,g2,g3⟩,e,l,l',B0,B',km',m',ku',nu',F',r1,ea,rfl,hsz,hlen,hscl,hscl',hsr,hsame,hcall⟩:=(Ana hf).1 hA
    simp only [List.cons.injEq,T.int.injEq,and_true] at ea
    obtain ⟨rfl,rfl,⟨rfl,rfl⟩,⟨rfl,rfl⟩,rfl⟩:=ea
    have hx1:=hv1.int
    obtain ⟨z0,c0,d1,d2⟩:=hv0.cells
    simp only [CR,CRL,T.size] at d2
    obtain ⟨d3,d4,d5⟩:=d2
    have d4':CR (cx C env w κ) z0 ([]++[0+1]) (.ref s k p) ((c0.drop 1).take 1):=by simp only [CR];exact d4
    obtain ⟨b,cap,cur,k1,k3,k4,k5⟩:=hI.ref_eq hs hg rfl d4'
    rw [k1] at k3
    simp only [headOf] at k1 k3 k5
    obtain ⟨b',cap',cur',m1,m2,m3,m4,m5,m6,m7⟩:=Zy hscl hsz k3
    simp only [Value.slice.injEq,Option.some.injEq,Addr.mk.injEq,and_true,true_and] at m1
    obtain ⟨rfl,rfl⟩:=m1
    have hc0:c0=[.int km m,.slice (some ⟨b,0,none⟩) l.length cap]:=by
     rw [← List.take_append_drop 1 c0,d3,← List.take_append_drop 1 (c0.drop 1),k1,d5]
     rfl
    have hx0:a.eval x0=.agg #[.int km m,.slice (some ⟨b,0,none⟩) l.length cap]:=by rw [d1,hc0];rfl
    obtain ⟨z2,c2,n1,n2⟩:=hv2.cells
    have hss:s2≠s:=fun e=>hne.2.2 e.symm
    let κc:Kap:=fun c=>match κ c with|some (u,q,v)=>if u=s2 then some (0,q,v) else none|none=>none
    have hκc:∀ c u q v,κc c=some (u,q,v)→u=0∧κ c=some (s2,q,v):=by
     intro c u q v hc
     simp only [κc] at hc
     cases hk:κ c with
     | none=>simp [hk] at hc
     | some y=>
      obtain ⟨u',q',v1⟩:=y
      simp only [hk] at hc
      split at hc
      ·rename_i e
       simp only [Option.some.injEq,Prod.mk.injEq] at hc
       obtain ⟨rfl,rfl,rfl⟩:=hc
       exact ⟨rfl,by rw [e]⟩
      ·cases hc
    have hκ0:∀ c q v,κ c=some (s2,q,v)→κc c=some (0,q,v):=fun c q v hc=>by simp [κc,hc]
    have hκb:κc b=none:=by simp [κc,k5,Ne.symm hss]
    have hF2:∀ c,C.F c→c<w.heap.size∧kapB b κc c=none:=fun c hc=>⟨Nat.lt_of_lt_of_le hc.1 hI.size,by
     have h1:c≠b:=fun e=>(hI.col b _ _ _ k5).2 (e▸hc)
     cases hk:κc c with
     | none=>simp [kapB,h1,hk]
     | some y=>
      obtain ⟨u,q,v⟩:=y
      exact absurd hc (hI.col c _ _ _ (hκc c u q v hk).2).2⟩
    have hcall':=hcall w b cap cur' (V s2) (a.eval x2) κc hκb
     (fun c u q v hc=>⟨(hI.col c _ _ _ (hκc c u q v hc).2).1,(hκc c u q v hc).1⟩)
     (fun c c' u q v v' hc hc'=>hI.inj c c' _ _ _ _ (hκc c u q v hc).2 (hκc c' u q v' hc').2)
     m2 m4 m5 m6 m7 (hI.own s2 _ _ hs2).1
     (by
      obtain ⟨_,cs,y1,y2⟩:=hI.own s2 _ _ hs2
      refine ⟨cs,y1,Bd (X:=cx C env w κ) (X':=argCx C.P w (kapB b κc)) (s:=s2) (p:=[]) rfl (fun c hc=>⟨hF2 c hc,rfl⟩) (fun c q v hk=>⟨?_,rfl⟩) (hI.own s2 _ _ hs2).1 y2⟩
      have hk':κ c=some (s2,q,v):=hk
      have hcb:c≠b:=fun e=>by subst e;rw [hκ0 c q v hk'] at hκb;cases hκb
      show kapB b κc c=some (0,q,v)
      simp [kapB,hcb,hκ0 c q v hk'])
     (Ff _ _ hF).1
     (Oj (X:=cx C env w κ) (Y:=hcx C.P w (kapB b κc) B) rfl (fun c hc=>⟨⟨(hF2 c hc).1,fun h=>h (hF2 c hc).2⟩,rfl⟩) (Yu hs2 (fun c q v hb=>by
      have hcb:c≠b:=fun e=>by subst e;rw [hκ0 c q v hb] at hκb;cases hκb
      show kapB b κc c=some (0,q,v)
      simp [kapB,hcb,hκ0 c q v hb])) hF z2 [] c2 n1 n2).2
    have hrun:(execOp a.eval o).run C.P w=.ok (.enter f' #[.agg #[.int km m,.slice (some ⟨b,0,none⟩) l.length cap],.int ku nu,a.eval x2]) w:=by
     rw [← hx0,← hx1]
     simp only [execOp,ho,Go.resolve,e1,Deferred.ofValue,Sem.run_bind,Sem.run_pure,Result.andThen_ok,invoke,Ci g1 g2 g3]
     congr 2
     apply Array.ext'
     simp [hargs]
    unfold Oper.wp
    rw [hrun]
    show Calls C.P f' _ w _
    refine hcall'.mono fun x' w' hh=>?_
    obtain ⟨v1,cur3,κ',rfl,hr1,hB,hκ'b,w6,w7,w8,hcalm⟩:=hh
    show FR C n _ (a.put o.dst _) w'
    rw [hdst]
    have hbl:b<w.heap.size:=(hI.col b _ _ _ k5).1
    have hbl':b<w'.heap.size:=Nat.lt_of_lt_of_le hbl hB.size
    let wm:World:={ w' with heap:=w'.heap.setIfInBounds b (.cells cur' e (0,0)) }
    have hmb:wm.heap[b]? = some (.cells cur' e (0,0)):=by simp [wm,hbl']
    have hmo:∀ c,c≠b→wm.heap[c]? = w'.heap[c]?:=fun c hc=>by simp [wm,Array.getElem?_setIfInBounds_ne (Ne.symm hc)]
    have hms:wm.heap.size=w'.heap.size:=by simp [wm]
    have hold:∀ c,c<w.heap.size→κc c=none→wm.heap[c]? = w.heap[c]?:=fun c hc hk=>by
     by_cases e:c=b
     ·subst e;rw [hmb];exact m2.symm
     ·rw [hmo c e];exact hB.kept c hc (by simp [kapB,e,hk])
    obtain ⟨κ1,hI1,hκ1⟩:=hI.putBack (k':=if calmT B B' then k2 else k2+1) (srcs:=[]) (κx:=kapB b κc) (wm:=wm) hs2 (by simp) (Ix hsame) hB hB.os hB.tape hB.output (by rw [hms];exact hB.size) hms
     (fun c hc=>hold c (Nat.lt_of_lt_of_le hc.1 hI.size) (by
      have:=(hF2 c hc).2
      have h1:c≠b:=fun e=>(hI.col b _ _ _ k5).2 (e▸hc)
      simpa [kapB,h1] using this))
     (fun c u q v hc _ hu=>hold c (hI.col c _ _ _ hc).1 (by simp [κc,hc,hu]))
     (fun c hc=>hmo c (fun e=>hc (e▸hκ'b)))
     (fun c hc hx=>by
      have h1:c≠b:=fun e=>hc (e▸hκ'b)
      cases hk:κc c with
      | none=>simp [kapB,h1,hk] at hx
      | some y=>
       obtain ⟨u,q,v⟩:=y
       exact ⟨_,_,_,(hκc c u q v hk).2,.inl rfl⟩)
     (by
      by_cases hc:calmT B B'=true
      ·rw [if_pos hc]
       exact .inr ⟨rfl,hc,fun c q v nd g1 g2 g3=>hcalm hc c q v nd g1 g2 (hκ0 c q v g3)⟩
      ·rw [if_neg hc];exact .inl rfl)
    have hk0:kill [] env=env:=rfl
    rw [hk0] at hI1
    obtain ⟨κ3,hI3,_,_⟩:=hI1.putList (w':=w') (by rw [Ab _ _ _ _ (Ne.symm hss)];exact hs) hg hscl' hlen hsz (hκ1 b s p _ (Ne.symm hss) (by simp) k5) m4 m5 rfl rfl rfl (by rw [hms];exact Nat.le_refl _) (fun c _ hcb=>(hmo c hcb).symm) w6 w7 w8
    have hno:=Tx hsr
    have hmk:mkSV r1=.val r1:=by simp [mkSV,hno]
    simp only [cUps,hmk]
    have hVd:∀ t,t<1000000→upd V d v1 t=if t=d then v1 else a.tmps.getD t undef:=fun t ht=>by
     by_cases e:t=d
     ·simp [e,upd]
     ·rw [Al _ _ _ _ e,if_neg e];exact hV t ht
    have hb2:=hI3.bind d (verOf (lk env d)+1) r1 v1 (by rw [Ab _ _ _ _ (fun e=>hne.1 e.symm),Ab _ _ _ _ (fun e=>hne.2.1 e.symm)];omega) hno 0 ⟨[v1],(Aao hsr v1).symm,hr1 _ _ _⟩
    exact B6 hd hn hdn hb2 hVd
   ·simp [Rd.sat] at h5
  ·simp [Rd.sat] at h5
 ·simp [Rd.sat] at h2
theorem Akb {P : Program} {s k s2 k2 : Nat} {B1 B2 : T} {κc : Kap} (hs : lk env s = some ⟨k, .own B1⟩) (hs2 : lk env s2 = some ⟨k2, .own B2⟩) (hκ : ∀ b q v, κ b = some (s, q, v) → κc b = some (0, 0 :: q, v)) (hκ2 : ∀ b q v, κ b = some (s2, q, v) → κc b = some (0, 1 :: q, v)) : ∀ s' k' p q, two3 s k s2 k2 s' k' p = some q → (cx C env w κ).old s' k' →
  (hcx P w κc (.agg [B1,B2])).old 3000001 0∧((hcx P w κc (.agg [B1,B2])).node 3000001 0 q→(cx C env w κ).node s' k' p∧∀ b h,(cx C env w κ).kap b=some (s',p,h)→(hcx P w κc (.agg [B1,B2])).kap b=some (3000001,q,h)):=by
 intro s' k' p q h _
 refine ⟨⟨_,Ak _ _ _,Nat.le_refl _⟩,fun ⟨T0,nd,h1,h2,h3⟩=>?_⟩
 rw [Ak] at h1
 simp only [Option.some.injEq,Slot.mk.injEq,SV.own.injEq,true_and] at h1
 subst h1
 simp only [two3] at h
 split at h
 ·rename_i e
  obtain ⟨rfl,rfl⟩:=e
  simp only [Option.some.injEq] at h
  subst h
  simp only [T.get,List.getElem?_cons_zero,Option.bind_some] at h2
  refine ⟨⟨B1,nd,hs,h2,h3⟩,fun b hd hb=>?_⟩
  show kapIn κc b=_
  simp [kapIn,hκ b p hd hb]
 ·split at h
  ·rename_i e
   obtain ⟨rfl,rfl⟩:=e
   simp only [Option.some.injEq] at h
   subst h
   simp only [T.get,List.getElem?_cons_succ,List.getElem?_cons_zero,Option.bind_some] at h2
   refine ⟨⟨B2,nd,hs2,h2,h3⟩,fun b hd hb=>?_⟩
   show kapIn κc b=_
   simp [kapIn,hκ2 b p hd hb]
  ·cases h
theorem Ags [Small n] {f' : FuncId} (hf : f' < 1000000) (hd : a.defers = []) (hn : a.tmps.size = n) (hI : Inv C env V w κ) (hV : ∀ t, t < 1000000 → V t = a.tmps.getD t undef) {x : Operand} {args : Array Operand} {ty : Array TypeId} {o : Oper} (ho : o.op = .call { callee := .value x, args := args, argTypes := ty }) (hok : opOk n o = true)
  {d:Nat} (hdst:o.dst=some d) (hv:HV (cx C env w κ) (.fn f' []) (a.eval x)) {R':List Nat}
  (h2:(sRd d f' args.toList).sat (AFn C.P) env U R') {Q:Exit→Act→World→Prop} :
  o.wp C.P a w (fun a' w'=>FR C n (U++env) a' w') Q:=by
 have hdn:=Am hok d hdst
 obtain ⟨s0,cc,e1,e2⟩:=hv.cells
 simp only [CR] at e2
 obtain ⟨us,rfl,hCT⟩:=e2
 simp only [CRT] at hCT
 subst hCT
 simp only [mkv,List.headD,fnVal_nil] at e1
 have hopd:∀ y∈args.toList,opndOk y=true:=fun y hy=>Ap hok (by simp [ho,Op.operands,Call.operands];right;simpa using hy)
 unfold sRd at h2
 obtain ⟨vs,R0,h3,hvl,hvs⟩:=Dy hI hV _ _ _ hopd h2
 split at h3
 ·rename_i s k s2 k2 hh
  split at h3
  ·simp [Rd.sat] at h3
  rename_i hne
  simp only [not_or] at hne
  obtain ⟨hn1,hn2,hss,hs9,hs29⟩:=hne
  split at h3
  ·rename_i A cs hcs
   split at h3
   ·rename_i hAp
    simp only [Bool.and_eq_true] at hAp
    obtain ⟨B1,R1,hs,h4⟩:=M4 h3
    obtain ⟨B2,R2,hs2,h5⟩:=M4 h4
    split at h5
    ·rename_i e1' t1 e2' t2
     simp only [Rd.sat] at h5
     obtain ⟨R3,⟨r,hA,rfl,_⟩,_⟩:=h5
     obtain ⟨⟨fn,g1,g2,g3⟩,B0,B',A0,rest,r1,ea,rfl,hno,hsame,hcall⟩:=(Ait hf).1 hA
     simp only [List.cons.injEq] at ea
     obtain ⟨rfl,rfl,rfl⟩:=ea
     rcases Ir hsame with ⟨_,_,_,_,h,_⟩|⟨_,_,_,_,f1,u1,f2,u2,_,rfl⟩
     ·cases h
     obtain ⟨hcl,hcat⟩:=Mi _ _ hcs
     let κc:Kap:=fun c=>match κ c with|some (u,q,v)=>if u=s then some (0,0::q,v) else if u=s2 then some (0,1::q,v) else none|none=>none
     have hκc:∀ c u q v,κc c=some (u,q,v)→u=0∧∃ q',(q=0::q'∧κ c=some (s,q',v))∨(q=1::q'∧κ c=some (s2,q',v)):=by
      intro c u q v hc
      simp only [κc] at hc
      cases hk:κ c with
      | none=>simp [hk] at hc
      | some y=>
       obtain ⟨u',q',v1⟩:=y
       simp only [hk] at hc
       split at hc
       ·rename_i e
        simp only [Option.some.injEq,Prod.mk.injEq] at hc
        obtain ⟨rfl,rfl,rfl⟩:=hc
        exact ⟨rfl,q',.inl ⟨rfl,by rw [e]⟩⟩
       ·split at hc
        ·rename_i e
         simp only [Option.some.injEq,Prod.mk.injEq] at hc
         obtain ⟨rfl,rfl,rfl⟩:=hc
         exact ⟨rfl,q',.inr ⟨rfl,by rw [e]⟩⟩
        ·cases hc
     have hκ1:∀ c q v,κ c=some (s,q,v)→κc c=some (0,0::q,v):=fun c q v hc=>by simp [κc,hc]
     have hκ2:∀ c q v,κ c=some (s2,q,v)→κc c=some (0,1::q,v):=fun c q v hc=>by simp [κc,hc,Ne.symm hss]
     have hFc:∀ c,C.F c→c<w.heap.size∧κc c=none:=fun c hc=>⟨Nat.lt_of_lt_of_le hc.1 hI.size,by
      cases hk:κc c with
      | none=>rfl
      | some y=>
       obtain ⟨u,q,v⟩:=y
       obtain ⟨_,q',⟨_,h⟩|⟨_,h⟩⟩:=hκc c u q v hk <;> exact absurd hc (hI.col c _ _ _ h).2⟩
     obtain ⟨rf1,cs1,y1,z1⟩:=hI.own s _ _ hs
     obtain ⟨rf2,cs2,y2,z2⟩:=hI.own s2 _ _ hs2
     have w1:cs1=[V s]:=by
      have hq:=z1
      simp only [CR] at hq
      obtain ⟨b1,cur1,m1,_⟩:=hq
      rw [y1,m1];rfl
     have w2:cs2=[V s2]:=by
      have hq:=z2
      simp only [CR] at hq
      obtain ⟨b1,cur1,m1,_⟩:=hq
      rw [y2,m1];rfl
     subst w1;subst w2
     have hsh:∀ (m:Nat) (y:T) (v:Value),(A::cs)[m]? = some y→(args.toList.map a.eval)[m]? = some v→y.noOwn=true∧∀ s,VR (hcx C.P w κc (.agg [.box e1' t1,.box e2' t2])) s y v:=fun m y v hj hv=>by
      obtain ⟨y0,hy0,hsh⟩:=hcat m y hj
      have hml:m<vs.length:=(List.getElem?_eq_some_iff.1 hy0).1
      have hma:m<args.toList.length:=by rw [← hvl];exact hml
      have e0:vs[m]=y0:=by rw [List.getElem?_eq_getElem hml] at hy0;injection hy0
      rw [List.getElem?_map,List.getElem?_eq_getElem hma] at hv
      simp only [Option.map_some,Option.some.injEq] at hv
      obtain ⟨z0,cy,q1,q2⟩:=(hvs m hml hma).cells
      rw [e0] at q1 q2
      exact Oj (X:=cx C env w κ) (Y:=hcx C.P w κc (.agg [.box e1' t1,.box e2' t2])) rfl (fun c hc=>⟨⟨(hFc c hc).1,fun h=>h (hFc c hc).2⟩,rfl⟩) (Akb hs hs2 hκ1 hκ2) hsh z0 [] cy (hv▸q1) q2
     have hal:args.toList.length=cs.length+1:=by rw [← hvl,← hcl];rfl
     obtain ⟨x0,xs,hxs⟩:∃ x0 xs,args.toList=x0::xs:=by
      cases h:args.toList with
      | nil=>rw [h] at hal;simp at hal
      | cons x0 xs=>exact ⟨x0,xs,rfl⟩
     rw [hxs] at hsh hal
     obtain ⟨hA1,hA2⟩:=hsh 0 A (a.eval x0) rfl rfl
     have hcall':=hcall w (.agg #[V s,V s2]) (a.eval x0) (xs.map a.eval) κc
      (fun c u q v hc=>by obtain ⟨e,q',⟨_,h⟩|⟨_,h⟩⟩:=hκc c u q v hc <;> exact ⟨(hI.col c _ _ _ h).1,.inl e⟩)
      (fun c c' u q v v' hc hc'=>by
       obtain ⟨_,q1,⟨e1,h1⟩|⟨e1,h1⟩⟩:=hκc c u q v hc <;> obtain ⟨_,q2,⟨e2,h2⟩|⟨e2,h2⟩⟩:=hκc c' u q v' hc'
       ·rw [e1] at e2;simp only [List.cons.injEq,true_and] at e2;subst e2;exact hI.inj c c' _ _ _ _ h1 h2
       ·rw [e1] at e2;simp at e2
       ·rw [e1] at e2;simp at e2
       ·rw [e1] at e2;simp only [List.cons.injEq,true_and] at e2;subst e2;exact hI.inj c c' _ _ _ _ h1 h2)
      (by simpa [T.refFree,T.refFreeL] using And.intro rf1 rf2)
      ⟨[V s,V s2],rfl,by
       simp only [CR,CRL,T.size,List.take_succ_cons,List.take_zero,List.drop_succ_cons,List.drop_zero,and_true]
       have q1:=Bd (X:=cx C env w κ) (X':=argCx C.P w κc) (s:=s) (p:=[]) (s':=0) (p':=[0]) rfl (fun c hc=>⟨hFc c hc,rfl⟩) (fun c q v hk=>⟨hκ1 c q v hk,rfl⟩) rf1 z1
       have q2:=Bd (X:=cx C env w κ) (X':=argCx C.P w κc) (s:=s2) (p:=[]) (s':=0) (p':=[1]) rfl (fun c hc=>⟨hFc c hc,rfl⟩) (fun c q v hk=>⟨hκ2 c q v hk,rfl⟩) rf2 z2
       simp only [CR] at q1 q2
       exact ⟨q1,q2⟩⟩
      hAp.2
      (by
       obtain ⟨cy,q1,q2⟩:=hA2 0
       exact ⟨cy,q1,Av (hcx C.P w κc (.agg [.box e1' t1,.box e2' t2])) (argCx C.P w κc) 0 1 rfl (fun c hc=>⟨⟨hc.1,Classical.byContradiction fun h=>hc.2 h⟩,rfl⟩) A [] [] cy hAp.1 q2⟩)
      (by simpa using Nat.succ.inj hal)
      (fun m y v hj hv=>hsh (m+1) y v (by simpa using hj) (by simpa using hv))
     have hrun:(execOp a.eval o).run C.P w=.ok (.enter f' (a.eval x0::xs.map a.eval).toArray) w:=by
      simp only [execOp,ho,Go.resolve,e1,Deferred.ofValue,Sem.run_bind,Sem.run_pure,Result.andThen_ok,invoke,Ci g1 g2 g3]
      congr 2
      apply Array.ext'
      simp [hxs]
     unfold Oper.wp
     rw [hrun]
     show Calls C.P f' _ w _
     refine hcall'.mono fun x' w' hh=>?_
     obtain ⟨v1,κ',rfl,hr1,hB,_⟩:=hh
     show FR C n _ (a.put o.dst _) w'
     rw [hdst]
     have hrf:=hB.refFree
     simp only [T.refFree,T.refFreeL,Bool.and_true,Bool.and_eq_true] at hrf
     obtain ⟨csB,p1,p2⟩:=hB.res
     have hcsB:csB=[V s,V s2]:=by simpa [mkv] using p1.symm
     subst hcsB
     rw [CR] at p2
     simp only [CRL,T.size,List.take_succ_cons,List.take_zero,List.drop_succ_cons,List.drop_zero,and_true,List.nil_append] at p2
     obtain ⟨p3,p4⟩:=p2
     have hold:∀ c q v,κ' c=some (0,q,v)→∀ u q v,κ c=some (u,q,v)→u=s2∨u=s:=fun c q v hc u q' v' hk=>by
      rcases (hB.col c _ _ _ hc).2 with hge|hne
      ·exact absurd (hI.col c _ _ _ hk).1 (Nat.not_lt.2 hge)
      ·cases hk2:κc c with
       | none=>exact absurd hk2 hne
       | some y=>
        obtain ⟨u1,q1,v1⟩:=y
        obtain ⟨_,q2,⟨_,h⟩|⟨_,h⟩⟩:=hκc c u1 q1 v1 hk2 <;> rw [h] at hk <;> simp only [Option.some.injEq,Prod.mk.injEq] at hk
        ·exact .inr hk.1.symm
        ·exact .inl hk.1.symm
     let κa:Nat→Option (List Nat×Value):=fun c=>match κ' c with|some (0,0::q,v)=>some (q,v)|_=>none
     let κb:Nat→Option (List Nat×Value):=fun c=>match κ' c with|some (0,1::q,v)=>some (q,v)|_=>none
     have ha:∀ c r v,κa c=some (r,v)→κ' c=some (0,0::r,v):=by
      intro c r v hc
      simp only [κa] at hc
      split at hc
      ·rename_i q u h
       simp only [Option.some.injEq,Prod.mk.injEq] at hc
       rw [h,hc.1,hc.2]
      ·cases hc
     have ha':∀ c r v,κ' c=some (0,0::r,v)→κa c=some (r,v):=fun c r v hc=>by simp only [κa,hc]
     have hb:∀ c r v,κb c=some (r,v)→κ' c=some (0,1::r,v):=by
      intro c r v hc
      simp only [κb] at hc
      split at hc
      ·rename_i q u h
       simp only [Option.some.injEq,Prod.mk.injEq] at hc
       rw [h,hc.1,hc.2]
      ·cases hc
     have hb':∀ c r v,κ' c=some (0,1::r,v)→κb c=some (r,v):=fun c r v hc=>by simp only [κb,hc]
     have hnF:∀ c q v,κ' c=some (0,q,v)→¬ C.F c:=fun c q v hc hF=>by
      rcases (hB.col c _ _ _ hc).2 with hge|hne
      ·exact absurd (Nat.lt_of_lt_of_le hF.1 hI.size) (Nat.not_lt.2 hge)
      ·exact hne (hFc c hF).2
     obtain ⟨κ3,hI3,_,hinv3⟩:=hI.fresh [s2] s hs9 (.box f1 u1) [V s] w' κa hB.os hB.tape hB.output hB.size (fun c hc=>hB.kept c (hFc c hc).1 (hFc c hc).2)
      (fun c u q v hk h1 h2=>hB.kept c (hI.col c _ _ _ hk).1 (by simp [κc,hk,h2,show u≠s2 by simpa using h1]))
      (fun c q v hc=>⟨(hB.col c _ _ _ (ha c q v hc)).1,hnF c _ _ (ha c q v hc),fun u q' v' hk=>by simpa using hold c _ _ (ha c q v hc) u q' v' hk⟩)
      (fun c c' q v v' hc hc'=>hB.inj c c' _ _ _ _ (ha c q v hc) (ha c' q v' hc')) (by simpa [T.refFree] using hrf.1)
      (fun X' f1 f2 f3 f4=>Bd (X:=resCx C.P w' κ') (X':=X') (s:=0) (p:=[0]) (s':=s) (p':=[]) f1 (fun b hb=>hb.elim) (fun c q v hk=>⟨f4 c q v (ha' c q v hk),by rw [f2];rfl⟩) (by simpa [T.refFree] using hrf.1) p3)
     obtain ⟨κ4,hI4,_,_⟩:=hI3.fresh [] s2 hs29 (.box f2 u2) [V s2] w' κb rfl rfl rfl (Nat.le_refl _) (fun _ _=>rfl) (fun _ _ _ _ _ _ _=>rfl)
      (fun c q v hc=>⟨(hB.col c _ _ _ (hb c q v hc)).1,hnF c _ _ (hb c q v hc),fun u q' v' hk=>by
       rcases hinv3 c u q' v' hk with ⟨_,h⟩|⟨h1,h2,h3,_⟩
       ·have:=ha c q' v' h
        rw [hb c q v hc] at this
        simp at this
       ·rcases hold c _ _ (hb c q v hc) u q' v' h3 with e|e
        ·exact absurd (by simp [e]) h2
        ·exact absurd e h1⟩)
      (fun c c' q v v' hc hc'=>hB.inj c c' _ _ _ _ (hb c q v hc) (hb c' q v' hc')) (by simpa [T.refFree] using hrf.2)
      (fun X' f1 f2 f3 f4=>Bd (X:=resCx C.P w' κ') (X':=X') (s:=0) (p:=[1]) (s':=s2) (p':=[]) f1 (fun b hb=>hb.elim) (fun c q v hk=>⟨f4 c q v (hb' c q v hk),by rw [f2];rfl⟩) (by simpa [T.refFree] using hrf.2) p4)
     have hm1:mkv (.box f1 u1) [V s]=V s:=rfl
     have hm2:mkv (.box f2 u2) [V s2]=V s2:=rfl
     rw [hm1,hm2] at hI4
     have hk0:∀ e:Env,kill [] e=e:=fun _=>rfl
     rw [hk0] at hI4
     have hv2:verOf (lk ((s,(⟨verOf (lk env s)+1,.own (.box f1 u1)⟩:Slot))::kill [s2] env) s2)=k2:=by
      rw [Ab _ _ _ _ (Ne.symm hss)]
      simp only [kill,List.map_cons,List.map_nil,List.cons_append,List.nil_append]
      rw [Ak,hs2];rfl
     have hv1:verOf (lk env s)=k:=by rw [hs];rfl
     rw [hv2,hv1] at hI4
     simp only [sUps]
     have hVd:∀ t,t<1000000→upd (upd (upd V s (V s)) s2 (V s2)) d v1 t=if t=d then v1 else a.tmps.getD t undef:=fun t ht=>by
      by_cases e:t=d
      ·simp [e,upd]
      ·rw [Al _ _ _ _ e,if_neg e,← hV t ht]
       simp only [upd]
       by_cases e2:t=s2
       ·rw [if_pos e2,e2]
       ·rw [if_neg e2]
        by_cases e3:t=s
        ·rw [if_pos e3,e3]
        ·rw [if_neg e3]
     have hb2:=hI4.bind d (verOf (lk env d)+1) r1 v1 (by
      rw [Ab _ _ _ _ (fun e=>hn2 e.symm),Ab _ _ _ _ (fun e=>hn1 e.symm)]
      simp only [kill,List.map_cons,List.map_nil,List.cons_append,List.nil_append]
      rw [Ab _ _ _ _ (fun e=>hn2 e.symm)]
      omega) hno 0 (hr1 _ _)
     refine (B6 (v:=v1) hd hn hdn hb2 hVd).congr (fun u=>?_)
     simp only [kill,List.map_cons,List.map_nil,List.cons_append,List.nil_append,lk,verOf]
     by_cases q1:d=u
     ·simp [q1]
     ·simp only [q1,if_false]
      by_cases q2:s2=u
      ·simp [q2]
      ·simp only [q2,if_false]
    ·simp [Rd.sat] at h5
   ·simp [Rd.sat] at h3
  ·simp [Rd.sat] at h3
 ·simp [Rd.sat] at h3
theorem Ahb [Small n] {f' : FuncId} (hf : f' < 1000000) (hd : a.defers = []) (hn : a.tmps.size = n) (hI : Inv C env V w κ) (hV : ∀ t, t < 1000000 → V t = a.tmps.getD t undef) {x : Operand} {args : Array Operand} {ty : Array TypeId} {o : Oper} (ho : o.op = .call { callee := .value x, args := args, argTypes := ty }) (hok : opOk n o = true)
  {d:Nat} (hdst:o.dst=some d) (hv:HV (cx C env w κ) (.fn f' []) (a.eval x)) {R':List Nat}
  (h2:(yRd d f' args.toList).sat (AFn C.P) env U R') {Q:Exit→Act→World→Prop} :
  o.wp C.P a w (fun a' w'=>FR C n (U++env) a' w') Q:=by
 have hdn:=Am hok d hdst
 obtain ⟨s0,cc,e1,e2⟩:=hv.cells
 simp only [CR] at e2
 obtain ⟨us,rfl,hCT⟩:=e2
 simp only [CRT] at hCT
 subst hCT
 simp only [mkv,List.headD,fnVal_nil] at e1
 unfold yRd at h2
 obtain ⟨vs,R0,h3,hvl,hvs⟩:=Dy hI hV _ _ _ (fun y hy=>Ap hok (by simp [ho,Op.operands,Call.operands];right;simpa using hy)) h2
 split at h3
 ·rename_i hp
  simp only [Bool.and_eq_true] at hp
  simp only [Rd.sat] at h3
  obtain ⟨R1,⟨r,hA,rfl,_⟩,_⟩:=h3
  have hat:∀ (j:Nat) (t:T) (u:Value),vs[j]? = some t→(args.toList.map a.eval)[j]? = some u→t.pure=true∧HV (cx C env w κ) t u:=fun j t u hj hu=>by
   have hml:j<vs.length:=(List.getElem?_eq_some_iff.1 hj).1
   have hma:j<args.toList.length:=by rw [← hvl];exact hml
   have e0:vs[j]=t:=by rw [List.getElem?_eq_getElem hml] at hj;injection hj
   rw [List.getElem?_map,List.getElem?_eq_getElem hma] at hu
   simp only [Option.map_some,Option.some.injEq] at hu
   have:=hvs j hml hma
   rw [e0,hu] at this
   exact ⟨(Dc vs).1 hp.1 t (List.mem_of_getElem? hj),this⟩
  have hVR:∀ (j:Nat) (t:T) (u:Value),vs[j]? = some t→(args.toList.map a.eval)[j]? = some u→t.refFree=true∧VR (argCx C.P w (fun _=>none)) j t u:=fun j t u hj hu=>by
   obtain ⟨h1,_,s1,cs,h4,h5⟩:=hat j t u hj hu
   exact ⟨Cj t h1,cs,h4,Av (cx C env w κ) (argCx C.P w (fun _=>none)) s1 j rfl (fun b hb=>⟨⟨Nat.lt_of_lt_of_le hb.1 hI.size,rfl⟩,rfl⟩) t [] [] cs h1 h5⟩
  have run : ∀ fn : Func, C.P.funcs[f']? = some fn → (fn.name == "runtime.NumGoroutine") = false → fn.body.isNone = false → (execOp a.eval o).run C.P w = .ok (.enter f' (args.toList.map a.eval).toArray) w := fun fn g1 g2 g3 => by
   simp only [execOp,ho,Go.resolve,e1,Deferred.ofValue,Sem.run_bind,Sem.run_pure,Result.andThen_ok,invoke,Ci g1 g2 g3]
   congr 2
   apply Array.ext'
   simp
  rcases Zs.1 hA with ⟨j,e,l,rfl,hj,hid⟩|hA2
  ·have hjl:j<(args.toList.map a.eval).length:=by rw [List.length_map,← hvl];exact (List.getElem?_eq_some_iff.1 hj).1
   obtain ⟨hpu,hno,s1,cs,h4,h5⟩:=hat j _ _ hj (List.getElem?_eq_getElem hjl)
   have h5':=h5
   simp only [CR] at h5'
   obtain ⟨ad,cap,rfl,_⟩:=h5'
   have hval:(args.toList.map a.eval)[j]=.slice ad l.length cap:=h4
   obtain ⟨⟨fn,g1,g2,g3⟩,hcall⟩:=hid ad cap
   have hcall':=hcall w (args.toList.map a.eval) (fun _=>none) (fun _ _ _ _ h=>by cases h) (fun _ _ _ _ _ _ h=>by cases h) (by simp [hvl]) (fun m t u hm hu=>by
    by_cases em:m=j
    ·subst em
     rw [List.getElem?_set_self (by rw [hvl];simpa using hjl)] at hm
     simp only [Option.some.injEq] at hm
     subst hm
     rw [List.getElem?_eq_getElem hjl,hval] at hu
     simp only [Option.some.injEq] at hu
     subst hu
     exact ⟨rfl,[.slice ad l.length cap],rfl,by simp [CR,Con.val,Con.ok]⟩
    ·rw [List.getElem?_set_ne (fun e=>em e.symm)] at hm
     exact hVR m t u hm hu)
   unfold Oper.wp
   rw [run fn g1 g2 g3]
   show Calls C.P f' _ w _
   refine hcall'.mono fun z w' hh=>?_
   obtain ⟨v,κ',rfl,hB⟩:=hh
   show FR C n _ (a.put o.dst v) w'
   rw [hdst]
   obtain ⟨cv,q1,q2⟩:=hB.res
   simp only [CR] at q2
   obtain ⟨rfl,_⟩:=q2
   have hv1:v=.slice ad l.length cap:=q1
   have hext:=hI.ext hB.os hB.tape hB.output hB.size (fun b hb=>hB.kept b hb rfl)
   have hmk:mkSV (.sl false e l)=.val (.sl false e l):=by simp [mkSV,T.noOwn]
   have hb2:=hext.bind d (verOf (lk env d)+1) (.sl false e l) v (by omega) rfl s1 ⟨[.slice ad l.length cap],hv1,Cy (cx C env w κ) (cx C env w' κ) s1 s1 rfl (fun b hb=>⟨hb,hB.kept b (Nat.lt_of_lt_of_le hb.1 hI.size) rfl⟩) (fun u k q h=>⟨h,fun hn=>⟨hn,fun _ _ h=>h⟩⟩) _ [] [] _ rfl h5⟩
   rw [hmk]
   exact B6 (v:=v) hd hn hdn hb2 (fun t ht=>by
    by_cases e:t=d
    ·simp [e,upd]
    ·rw [Al _ _ _ _ e,if_neg e];exact hV t ht)
  ·obtain ⟨⟨fn,g1,g2,g3⟩,hcall⟩:=hA2
   have hcall':=hcall w (args.toList.map a.eval) (fun _=>none) (fun _ _ _ _ h=>by cases h) (fun _ _ _ _ _ _ h=>by cases h) (by simp [hvl]) hVR
   unfold Oper.wp
   rw [run fn g1 g2 g3]
   show Calls C.P f' _ w _
   refine hcall'.mono fun z w' hh=>?_
   obtain ⟨v,κ',rfl,hB⟩:=hh
   show FR C n _ (a.put o.dst v) w'
   rw [hdst]
   exact M8 hd hn hI hV hdn hB
 ·simp [Rd.sat] at h3
end
end
section
section
variable {C:Ctx} {env:Env} {V:Nat→Value} {w:World} {κ:Kap} {a:Act} {AF:FuncId→List T→T→Prop} {U:List (Nat×Slot)} {R:List Nat} {n:Nat}
variable {tt:Tt} {P:Program}
theorem Ud {n n':T} {b b' c c':Nat} (hn:n.isNode=true) (hn':n'.isNode=true) (h:headOf n b c=headOf n' b' c'):b=b':=by
 cases n <;> cases n' <;> simp_all [T.isNode,headOf]
theorem Agw {n:T} (hn:n.isNode=true) (v:Value):mkv n [v]=v:=by
 cases n <;> simp_all [T.isNode,mkv]
theorem Afh {f' : FuncId} (hd : a.defers = []) (hn : a.tmps.size = n) (hI : Inv C env V w κ) (hV : ∀ t, t < 1000000 → V t = a.tmps.getD t undef) {d : Nat} (hdn : d < n)
  {s k:Nat} {p q:List Nat} {T0 nd A:T} (hs:lk env s=some ⟨k,.own T0⟩) (hg:T.get p T0=some nd) (hnd:nd.isNode=true) (hne:s≠d) {u1 h:Value} (hrA:A.refFree=true)
  (hcell:CR (cx C env w κ) s p nd [h]) (harg:VR (argCx C.P w (sub0 κ s p q)) 0 A u1)
  (hext:∀ (A':T) (X:Cx),A'.refFree=true→Shape A A'→VR X 0 A' u1→∃ n',T.get q A'=some n'∧n'.isNode=true∧n'.refFree=true∧CR X 0 q n' [h])
  {jw:Nat} {vs':List T} {us:List Value} (hus:us.length=vs'.length) (hrest:∀ (j:Nat) (y:T) (u:Value),vs'[j]? = some y→us[j]? = some u→y.pure=true∧∀ s',VR (argCx C.P w (sub0 κ s p q)) s' y u)
  {r:T} (hf:f'<1000000) (hAF:AFn C.P (8000000+f') (.int .i64 jw::A::vs') r) {o:Oper} (hdst:o.dst=some d)
  (hrun : ∀ (_ : ∃ fn, C.P.funcs[f']? = some fn ∧ (fn.name == "runtime.NumGoroutine") = false ∧ fn.body.isNone = false), (execOp a.eval o).run C.P w = .ok (.enter f' (us.take jw ++ u1 :: us.drop jw).toArray) w) {Q : Exit → Act → World → Prop} :
  o.wp C.P a w (fun a' w'=>FR C n (xUps d (lk env d) s k p T0 q r++env) a' w') Q:=by
 obtain ⟨hfn,jw1,A1,rest1,r1,v1,A',e1,rfl,hno,hr1,hsh,hcall⟩:=(Anc hf).1 hAF
 simp only [List.cons.injEq,T.int.injEq,true_and] at e1
 obtain ⟨ej,rfl,rfl⟩:=e1
 have ej':jw1=jw:=by omega
 subst ej'
 have hc := hcall w u1 us (sub0 κ s p q) (fun b s' p' v hb => by
   obtain ⟨r',h1,h2,_⟩:=Ew hb
   exact ⟨(hI.col b _ _ _ h1).1,h2⟩) (fun b b' s' p' v v' hb hb'=>by
   obtain ⟨r1,h1,_,h2⟩:=Ew hb
   obtain ⟨r2,h3,_,h4⟩:=Ew hb'
   have:r1=r2:=List.append_cancel_left (h2.symm.trans h4)
   subst this
   exact hI.inj b b' _ _ _ _ h1 h3) hrA harg hus hrest
 unfold Oper.wp
 rw [hrun hfn]
 show Calls C.P f' _ w _
 refine hc.mono fun e w' hh=>?_
 obtain ⟨κ',rfl,hB⟩:=hh
 show FR C n _ (a.put o.dst v1) w'
 rw [hdst]
 obtain ⟨n',hq,hn',hrn,hCR⟩:=hext A' _ hB.refFree hsh hB.res
 have hFn:∀ b,C.F b→sub0 κ s p q b=none:=fun b hb=>by
  cases hk:sub0 κ s p q b with
  | none=>rfl
  | some y=>
   obtain ⟨u,r,v⟩:=y
   obtain ⟨r',h1,_,_⟩:=Ew hk
   exact absurd hb (hI.col b _ _ _ h1).2
 have hkF:∀ b,C.F b→w'.heap[b]? = w.heap[b]?:=fun b hb=>hB.kept b (Nat.lt_of_lt_of_le hb.1 hI.size) (hFn b hb)
 have hkeep:∀ b u r v,κ b=some (u,r,v)→¬ (u=s∧p <+: r)→w'.heap[b]? = w.heap[b]?:=fun b u r v hk hnn=>hB.kept b (hI.col b _ _ _ hk).1 (by simp [sub0,hk,hnn])
 let κo:Nat→Option (List Nat×Value):=fun b=>match κ' b with|some (u,r,v)=>if u=0∧q <+: r then some (r.drop q.length,v) else none|none=>none
 have hκo:∀ b r v,κo b=some (r,v)→κ' b=some (0,q++r,v):=by
  intro b r v hb
  simp only [κo] at hb
  cases hk:κ' b with
  | none=>simp [hk] at hb
  | some y=>
   obtain ⟨u1,r1,v1⟩:=y
   simp only [hk] at hb
   split at hb
   ·rename_i hc
    obtain ⟨rfl,r',rfl⟩:=hc
    simp only [List.drop_left,Option.some.injEq,Prod.mk.injEq] at hb
    obtain ⟨rfl,rfl⟩:=hb
    rfl
   ·cases hb
 have hκa:∀ b r v,κ' b=some (0,q++r,v)→κo b=some (r,v):=by
  intro b r v hb
  simp [κo,hb]
 have hcol2:∀ b r v,κo b=some (r,v)→∀ u r v,κ b=some (u,r,v)→(u=s∧p <+: r)∨u∈([]:List Nat):=fun b r v hb u r' v' hk=>by
  rcases (hB.col b _ _ _ (hκo b r v hb)).2 with hge|hne'
  ·exact absurd (hI.col b _ _ _ hk).1 (Nat.not_lt.2 hge)
  ·cases hk2:sub0 κ s p q b with
   | none=>exact absurd hk2 hne'
   | some y=>
    obtain ⟨u2,q2,v2⟩:=y
    obtain ⟨r2,h1,_,_⟩:=Ew hk2
    rw [h1] at hk
    simp only [Option.some.injEq,Prod.mk.injEq] at hk
    obtain ⟨rfl,rfl,_⟩:=hk
    exact .inl ⟨rfl,List.prefix_append _ _⟩
 obtain ⟨b0,cap0,cur0,m1,_,m3,_⟩:=Ex hnd hcell
 obtain ⟨b1,cap1,cur1,l1,_,l3,_⟩:=Ex hn' hCR
 simp only [List.cons.injEq,and_true] at m1 l1
 have hbb:b0=b1:=Ud hnd hn' (m1.symm.trans l1)
 subst hbb
 have hroot:∀ b v,κ b=some (s,p,v)→κo b=some ([],v):=fun b v hb=>by
  have m3':κ b0=some (s,p,headOf nd b0 cap0):=m3
  have:=hI.inj b b0 _ _ _ _ hb m3'
  subst this
  rw [m3'] at hb
  simp only [Option.some.injEq,Prod.mk.injEq,true_and] at hb
  refine hκa b [] v ?_
  rw [List.append_nil,← hb,← m1,l1]
  exact l3
 have hput:=hI.putG s k (if n'.flat then k else k+1) T0 nd n' p [] κo w' hs (by simp) hg (by rw [De hnd,De hn']) hrn hB.os hB.tape hB.output hB.size
  hkF (fun b u r v hk _ hu=>hkeep b u r v hk (fun hx=>hu hx.1))
  (fun b r v hb=>⟨(hB.col b _ _ _ (hκo b r v hb)).1,fun hF=>by
   rcases (hB.col b _ _ _ (hκo b r v hb)).2 with hge|hne'
   ·exact absurd (Nat.lt_of_lt_of_le hF.1 hI.size) (Nat.not_lt.2 hge)
   ·exact hne' (hFn b hF)⟩) hcol2
  (fun b b' r v v' hb hb'=>hB.inj b b' _ _ _ _ (hκo b r v hb) (hκo b' r v' hb'))
  (by
   by_cases hfl:n'.flat=true
   ·rw [if_pos hfl]
    refine .inr ⟨rfl,fun r n g1 g2=>?_⟩
    cases r with
    | nil=>exact ⟨⟨nd,rfl,hnd⟩,fun b v hb=>hroot b v (by simpa using hb)⟩
    | cons i r=>
     exfalso
     cases n' with
     | sl o e l=>
      cases o with
      | false=>simp [T.get] at g1
      | true=>
       simp only [T.get] at g1
       cases hi:l[i]? with
       | none=>simp [hi] at g1
       | some y=>
        simp only [hi,Option.bind_some] at g1
        have hy:y.scalar=true:=List.all_eq_true.1 hfl y (List.mem_of_getElem? hi)
        rw [Cz hy r n g1] at g2
        cases g2
     | _=>simp [T.flat] at hfl
   ·rw [if_neg hfl];exact .inl rfl)
  (fun cs X' f1 f2 f3 f4 f5 _ hT=>by
   obtain ⟨cs0,h6,h7⟩:=Dj (X':=X') p T0 [] cs nd n' hg hT (by rw [Cc hnd,Cc hn']) (by rw [De hnd,De hn'])
    ⟨f1,fun b hb=>⟨by rw [f3];exact hb,by rw [f2];exact hkF b hb⟩,fun b r v hk hnp=>by
     simp only [List.nil_append] at hk ⊢
     have hnn:¬ (s=s∧p <+: r):=fun hx=>hnp hx.2
     exact ⟨by rw [f4];exact Bs hcol2 hk (by simp [hnp]),by rw [f2];exact hkeep b s r v hk hnn⟩,f5⟩
   refine h7 ?_
   simp only [List.nil_append] at h6 ⊢
   have hcs:cs0=[h]:=by
    obtain ⟨b2,cap2,cur2,rfl,_,x2,_⟩:=Ex hnd h6
    have hb:=hI.inj b2 b0 s p _ _ x2 m3
    subst hb
    have x2':κ b2=some (s,p,headOf nd b2 cap2):=x2
    have m3':κ b2=some (s,p,headOf nd b2 cap0):=m3
    rw [x2'] at m3'
    simp only [Option.some.injEq,Prod.mk.injEq,true_and] at m3'
    rw [m3',m1]
   subst hcs
   exact Bd (X:=resCx C.P w' κ') (X':=X') f1 (fun b hb=>hb.elim) (fun b r v hk=>⟨by rw [f4];exact Ez (hκa b r v hk),by rw [f2];rfl⟩) hrn hCR)
 simp only [xUps,hq]
 have hk0:kill [] env=env:=rfl
 rw [hk0] at hput
 obtain ⟨c1,z1,z2⟩:=hr1 (cx C ((s,⟨if n'.flat then k else k+1,.own (T.set n' p T0)⟩)::env) w' (recol κ s p [] κo)) 0
 have hb:=hput.bind d (verOf (lk env d)+1) r1 v1 (by rw [Ab _ _ _ _ (fun e=>hne e.symm)];omega) hno 0 ⟨c1,z1,z2⟩
 refine B6 hd hn hdn hb (fun t ht=>?_)
 by_cases e:t=d
 ·simp [e,upd]
 ·rw [Al _ _ _ _ e,if_neg e];exact hV t ht
theorem Ag7 {f' : FuncId} (hf : f' < 1000000) (hd : a.defers = []) (hn : a.tmps.size = n) (hI : Inv C env V w κ) (hV : ∀ t, t < 1000000 → V t = a.tmps.getD t undef) {x : Operand} {args : Array Operand} {ty : Array TypeId} {o : Oper} (ho : o.op = .call { callee := .value x, args := args, argTypes := ty }) (hok : opOk n o = true)
  {d jw:Nat} (hdst:o.dst=some d) (hv:HV (cx C env w κ) (.fn f' []) (a.eval x)) {R':List Nat}
  (h2:(xRd jw d f' args.toList).sat (AFn C.P) env U R') {Q:Exit→Act→World→Prop} :
  o.wp C.P a w (fun a' w'=>FR C n (U++env) a' w') Q:=by
 have hdn:=Am hok d hdst
 obtain ⟨s0,cc,e1,e2⟩:=hv.cells
 simp only [CR] at e2
 obtain ⟨us,rfl,hCT⟩:=e2
 simp only [CRT] at hCT
 subst hCT
 simp only [mkv,List.headD,fnVal_nil] at e1
 have hopd:∀ y∈args.toList,opndOk y=true:=fun y hy=>Ap hok (by simp [ho,Op.operands,Call.operands];right;simpa using hy)
 unfold xRd at h2
 split at h2
 ·rename_i x0 post hargs
  have hjl:jw<args.toList.length:=by
   refine Nat.lt_of_not_le fun h=>?_
   rw [List.drop_eq_nil_of_le h] at hargs
   cases hargs
  have hal:args.toList=args.toList.take jw++x0::post:=by rw [← hargs,List.take_append_drop]
  have htl:(args.toList.take jw).length=jw:=by rw [List.length_take];omega
  obtain ⟨v,R1,h3,hv1⟩:=Au hI hV (hopd x0 (by rw [hal];simp)) h2
  obtain ⟨vs,R2,h4,hl,h5⟩:=Dy hI hV (args.toList.take jw++post) _ _ (fun y hy=>hopd y (by
   rw [hal]
   rcases List.mem_append.1 hy with h|h
   ·exact List.mem_append.2 (.inl h)
   ·exact List.mem_append.2 (.inr (List.mem_cons_of_mem _ h)))) h3
  let us:List Value:=(args.toList.take jw++post).map a.eval
  have husl:us.length=vs.length:=by simp [us,hl]
  have hrunC : ∀ (_ : ∃ fn, C.P.funcs[f']? = some fn ∧ (fn.name == "runtime.NumGoroutine") = false ∧ fn.body.isNone = false), (execOp a.eval o).run C.P w = .ok (.enter f' (us.take jw ++ a.eval x0 :: us.drop jw).toArray) w := by
   intro ⟨fn,g1,g2,g3⟩
   simp only [execOp,ho,Go.resolve,e1,Deferred.ofValue,Sem.run_bind,Sem.run_pure,Result.andThen_ok,invoke,Ci g1 g2 g3]
   congr 2
   apply Array.ext'
   have h9:us.take jw++a.eval x0::us.drop jw=args.toList.map a.eval:=by
    rw [hal]
    simp only [us,List.map_append,List.map_cons]
    rw [List.take_append_of_le_length (by rw [List.length_map,htl];exact Nat.le_refl _),List.take_of_length_le (by rw [List.length_map,htl];exact Nat.le_refl _),List.drop_append_of_le_length (by rw [List.length_map,htl];exact Nat.le_refl _),List.drop_eq_nil_of_le (by rw [List.length_map,htl];exact Nat.le_refl _),List.nil_append]
   rw [h9]
   simp
  have hdat:∀ {s:Nat} {p q:List Nat} {c:List T→Rd} {R:List Nat},T.awayL s vs→(resolveL vs c).sat (AFn C.P) env U R→∃ vs' R',(c vs').sat (AFn C.P) env U R'∧vs'.length=us.length∧∀ (j:Nat) (t:T) (u:Value),vs'[j]? = some t→us[j]? = some u→t.pure=true∧∀ s',VR (argCx C.P w (sub0 κ s p q)) s' t u:=by
   intro s p q c R haw hs
   exact F0 (κt:=sub0 κ s p q) (s9:=s) hI (fun c hc=>by
    cases hk:sub0 κ s p q c with
    | none=>exact absurd hk hc
    | some y=>
     obtain ⟨u,r,v⟩:=y
     obtain ⟨r',h1,_,_⟩:=Ew hk
     exact ⟨_,_,h1⟩) vs us c R (fun _=>haw) (by simp [us,hl]) (fun j t u hj hu=>by
    obtain ⟨hju,rfl⟩:=List.getElem?_eq_some_iff.1 hu
    have hjl':j<(args.toList.take jw++post).length:=by simpa [us] using hju
    obtain ⟨hjt,rfl⟩:=List.getElem?_eq_some_iff.1 hj
    rw [show us[j]=a.eval ((args.toList.take jw++post)[j]) from List.getElem_map _]
    exact h5 j hjt hjl') hs
  have hFs:∀ {s:Nat} {p q:List Nat} {b:Nat},(cx C env w κ).F b→(argCx C.P w (sub0 κ s p q)).F b∧(argCx C.P w (sub0 κ s p q)).w.heap[b]? = (cx C env w κ).w.heap[b]?:=fun {s p q b} hb=>⟨⟨Nat.lt_of_lt_of_le hb.1 hI.size,by
   cases hk:sub0 κ s p q b with
   | none=>rfl
   | some y=>
    obtain ⟨u,r,v⟩:=y
    obtain ⟨r',h1,_,_⟩:=Ew hk
    exact absurd hb (hI.col b _ _ _ h1).2⟩,rfl⟩
  split at h4
  ·rename_i s k p
   split at h4
   ·simp [Rd.sat] at h4
   ·rename_i hne
    simp only [Rd.sat] at h4
    obtain ⟨haw,h4⟩:=h4
    obtain ⟨vs',R3,h6,hl',hrest⟩:=hdat (q:=[]) (p:=p) haw h4
    obtain ⟨T0,nd,R4,hs,hg,hnd,h7⟩:=Bk h6
    simp only [Rd.sat] at h7
    obtain ⟨R5,⟨r,hA,rfl,_⟩,_⟩:=h7
    have hr0:=Br p T0 nd hg (hI.own s k T0 hs).1
    obtain ⟨s1,hc⟩:=hv1.ref_cells
    obtain ⟨b,cap,cur,k1,k2,k3,k4⟩:=hI.ref_eq hs hg hnd hc
    refine Afh (f':=f') (q:=[]) (A:=nd) (u1:=a.eval x0) (h:=a.eval x0) hd hn hI hV hdn hs hg hnd hne hr0 k2 ?_ ?_ hl'.symm hrest hf hA hdst hrunC
    ·refine ⟨[a.eval x0],(Agw hnd _).symm,?_⟩
     exact Bd (X:=cx C env w κ) (X':=argCx C.P w (sub0 κ s p [])) rfl (fun b hb=>hFs hb) (fun b q v hk=>⟨Y1 hk,rfl⟩) hr0 k2
    ·intro A' X hrf hsh hVR
     have hnA:A'.isNode=true:=by
      rcases hsh with h|⟨l,l',e,_⟩
      ·exact h.2
      ·rw [e] at hnd;simp [T.isNode] at hnd
     obtain ⟨cs,q1,q2⟩:=hVR
     have:=Aju hnA q2 q1
     subst this
     exact ⟨A',by simp [T.get],hnA,hrf,q2⟩
  ·rename_i l
   split at h4
   ·rename_i j s k p hh
    split at h4
    ·simp [Rd.sat] at h4
    ·rename_i hne
     split at h4
     ·rename_i hcond
      simp only [Bool.and_eq_true] at hcond
      simp only [Rd.sat] at h4
      obtain ⟨haw,h4⟩:=h4
      obtain ⟨vs',R3,h6,hl',hrest⟩:=hdat (q:=[j]) (p:=p) haw h4
      obtain ⟨T0,nd,R4,hs,hg,hnd,h7⟩:=Bk h6
      simp only [Rd.sat] at h7
      obtain ⟨R5,⟨r,hA,rfl,_⟩,_⟩:=h7
      have hr0:=Br p T0 nd hg (hI.own s k T0 hs).1
      have hj:=Kw l j s k p hh
      obtain ⟨s1,cs,c1,c2⟩:=hv1.cells
      simp only [CR] at c2
      have c3:=Fe l j 0 cs _ hj c2
      simp only [T.size] at c3
      obtain ⟨b,cap,cur,k1,k2,k3,k4⟩:=hI.ref_eq hs hg hnd c3
      have hrf:(T.agg (l.set j nd)).refFree=true:=by simp only [T.refFree];exact Fr l j nd hcond.2 hr0
      have hcell:CR (cx C env w κ) s p nd [headOf nd b cap]:=by rw [← k1];exact k2
      refine Afh (f':=f') (q:=[j]) (A:=.agg (l.set j nd)) (u1:=a.eval x0) (h:=headOf nd b cap) hd hn hI hV hdn hs hg hnd hne hrf hcell ?_ ?_ hl'.symm hrest hf hA hdst hrunC
      ·refine ⟨cs,by rw [c1];rfl,?_⟩
       simp only [CR]
       refine Oi (X:=cx C env w κ) (X':=argCx C.P w (sub0 κ s p [j])) rfl (fun b hb=>hFs hb) rfl (Cc hnd) l j 0 [] [] cs hj hcond.1 c2 ?_
       rw [k1]
       simpa using Bd (X:=cx C env w κ) (X':=argCx C.P w (sub0 κ s p [j])) (s':=0) (p':=[j]) rfl (fun b hb=>hFs hb) (fun b q v hk=>⟨Y1 hk,rfl⟩) hr0 hcell
      ·intro A' X hrf' hsh hVR
       rcases hsh with hx|⟨l1,l',e1,rfl,hsz,hnode⟩
       ·simp [T.isNode] at hx
       ·simp only [T.agg.injEq] at e1
        subst e1
        have hjl:j<l.length:=(List.getElem?_eq_some_iff.1 hj).1
        obtain ⟨n',g1,g2⟩:=hnode j nd (by simp [hjl]) hnd
        refine ⟨n',by simp [T.get,g1],g2,?_,?_⟩
        ·simp only [T.refFree] at hrf'
         exact (Bp l').1 hrf' n' (List.mem_of_getElem? g1)
        ·obtain ⟨cs',q1,q2⟩:=hVR
         have hcs:cs'=cs:=by
          rw [c1] at q1
          simpa [mkv] using q1.symm
         subst hcs
         simp only [CR] at q2
         have:=Fe l' j 0 cs' n' g1 q2
         rw [Cc g2,hsz j] at this
         have hst:T.sizeL ((l.set j nd).take j)=T.sizeL (l.take j):=by rw [List.take_set_of_le (Nat.le_refl _)]
         rw [hst,k1] at this
         simpa using this
     ·simp [Rd.sat] at h4
   ·simp [Rd.sat] at h4
  ·simp [Rd.sat] at h4
 ·simp [Rd.sat] at h2
end
end
section
section
variable {C:Ctx} {env:Env} {V:Nat→Value} {w:World} {κ:Kap} {a:Act} {U:List (Nat×Slot)} {R:List Nat} {n:Nat}
variable {tt:Tt} {P:Program}
theorem Aaz (hP:TtOk P tt) {t:TypeId} {i:Ty} (h:tyAt tt t=some i):P.underlying t≠none:=by
 obtain ⟨_,_,_,h1⟩:=hP t i h
 obtain ⟨sz,by_,z,k⟩:=i
 intro hn
 cases k <;> simp [hn] at h1
theorem Acb (hP : TtOk C.P tt) (hF : FR C n env a w) (hn1 : n ≤ 1000000) {b : Builtin} {args : Array Operand} {ty : Array TypeId} {i : Nat} {o : Oper} (ho : o.op = .call { callee := .builtin b, args := args, argTypes := ty }) (hok : opOk n o = true)
  (h:(builtinRd tt o b args.toList ty.toList i).sat (AFn C.P) env U R) {Q:Exit→Act→World→Prop}:o.wp C.P a w (fun a' w'=>FR C n (U++env) a' w') Q:=by
 haveI:Small n:=⟨hn1⟩
 unfold builtinRd at h
 split at h
 ·rename_i x t h1 h2
  split at h
  ·rename_i sz by_ z e hit
   have ha:args = #[x]:=by apply Array.ext';simpa using h1
   have ht:ty[0]? = some t:=by rw [← Array.getElem?_toList,h2];rfl
   subst ha
   exact Ald hP hF hit ho ht hok h
  ·simp [Rd.sat] at h
 ·rename_i x y h1
  have ha:args = #[x,y]:=by apply Array.ext';simpa using h1
  subst ha
  exact Alg hF ho hok h
 ·rename_i x y h1
  have ha:args = #[x,y]:=by apply Array.ext';simpa using h1
  subst ha
  exact Amh hF ho hok h
 ·rename_i x y t t' h1 h2
  split at h
  ·rename_i he
   subst he
   split at h
   ·rename_i sz by_ z e hit
    split at h
    ·rename_i ie hie
     have ha:args = #[x,y]:=by apply Array.ext';simpa using h1
     have ht:ty = #[t,t]:=by apply Array.ext';simpa using h2
     subst ha;subst ht
     exact Ae8 hP hF hn1 hit hie ho hok h
    ·simp [Rd.sat] at h
   ·simp [Rd.sat] at h
  ·split at h
   ·rename_i sz by_ z e sz' by' z' k' hit hit'
    split at h
    ·rename_i ie hie
     have ha:args = #[x,y]:=by apply Array.ext';simpa using h1
     have ht:ty = #[t,t']:=by apply Array.ext';simpa using h2
     subst ha;subst ht
     exact Abh hP hF hn1 hit hit' hie ho hok h
    ·simp [Rd.sat] at h
   ·simp [Rd.sat] at h
 ·rename_i x y t t' h1 h2
  split at h
  ·rename_i d sz by_ z e hdst hit
   split at h
   ·rename_i ie hie
    have ha:args = #[x,y]:=by apply Array.ext';simpa using h1
    have ht:ty = #[t,t']:=by apply Array.ext';simpa using h2
    subst ha;subst ht
    exact Ai7 hP hF hit hie hdst ho hok h
   ·simp [Rd.sat] at h
  ·simp [Rd.sat] at h
 ·simp [Rd.sat] at h
theorem Vr (hP : TtOk C.P tt) (md : FuncId → List Bool) (hF : FR C n env a w) (hn1 : n ≤ 1000000) {i : Nat} {o : Oper} (hok : opOk n o = true)
  (h:(opRd tt md i o).sat (AFn C.P) env U R) {Q:Exit→Act→World→Prop}:o.wp C.P a w (fun a' w'=>FRe C n (U++env) a' w') Q:=by
 haveI:Small n:=⟨hn1⟩
 unfold opRd at h
 split at h
 ·rename_i x ho;exact fre (Ai0 hF ho hok h)
 ·rename_i x ho;exact fre (Adf hF ho hok h)
 ·rename_i x ho;exact fre (Xb hF ho hok h)
 ·rename_i c x y ho;exact fre (Aj6 hF ho hok h)
 ·rename_i e ho
  split at h
  ·rename_i ie hie;exact fre (Ahx hP hF hie ho hok h)
  ·simp [Rd.sat] at h
 ·rename_i e x ho
  split at h
  ·rename_i ie hie;exact fre (Ali hP hF hn1 hie ho hok h)
  ·simp [Rd.sat] at h
 ·rename_i t x ho
  split at h
  ·rename_i it hit;exact fre (Aj4 hP hF hit ho hok h)
  ·simp [Rd.sat] at h
 ·rename_i t x y ho
  split at h
  ·rename_i it hit hdst;exact fre (Ag6 hP hF hit ho hdst hok h)
  ·simp [Rd.sat] at h
 ·rename_i t x f ho
  split at h
  ·rename_i sz by_ z fs hit
   split at h
   ·rename_i tf offf szf hf;exact fre (S7 hP hF hit hf ho hok h)
   ·simp [Rd.sat] at h
  ·simp [Rd.sat] at h
 ·rename_i t x f ho
  split at h
  ·rename_i sz by_ z fs hit
   split at h
   ·rename_i tf offf szf hf
    split at h
    ·rename_i itf hitf;exact fre (Agj hP hF hit hf hitf ho hok h)
    ·simp [Rd.sat] at h
   ·simp [Rd.sat] at h
  ·simp [Rd.sat] at h
 ·rename_i t x y ho
  split at h
  ·rename_i sz by_ z e hit
   split at h
   ·rename_i ie hie;exact fre (Th hP hF hit hie ho hok h)
   ·simp [Rd.sat] at h
  ·simp [Rd.sat] at h
 ·rename_i t x y ho
  split at h
  ·rename_i sz by_ z hit;exact fre (Ahp hP hF hit ho hok h)
  ·simp [Rd.sat] at h
 ·rename_i t x lo hi ho
  split at h
  ·rename_i sz by_ z e hit
   split at h
   ·rename_i ie hie;exact Xx hP hF hit hie ho hok h
   ·simp [Rd.sat] at h
  ·simp [Rd.sat] at h
 ·rename_i t x y ho
  split at h
  ·rename_i sz by_ z e hit
   split at h
   ·rename_i ie hie;exact fre (Vq hP hF hit hie ho hok h)
   ·simp [Rd.sat] at h
  ·simp [Rd.sat] at h
 ·rename_i t m parts ho
  split at h
  ·rename_i sz by_ z e hit
   split at h
   ·rename_i ie hie
    split at h
    ·rename_i hc;exact fre (Sq hP hF hit hie ho hok hc.1 hc.2.1 hc.2.2.1 hc.2.2.2.1 h)
    ·split at h
     ·rename_i hps;exact fre (Rf hP hF hn1 hit hie ho (by assumption) hok h)
     ·exact fre (Qv hP hF hit hie ho hok (by assumption) h)
     ·rename_i hps;exact fre (Qn hP hF hit hie ho (by assumption) hok h)
     ·simp [Rd.sat] at h
   ·simp [Rd.sat] at h
  ·simp [Rd.sat] at h
 ·rename_i t parts ho
  split at h
  ·rename_i sz by_ zs fs hit
   split at h
   ·simp [Rd.sat] at h
   ·rename_i hc;exact fre (Ahw hP hF hit ho hok (by revert hc;cases fs.all (fun x=>x.2.2 != 0) <;> simp) h)
  ·simp [Rd.sat] at h
 ·rename_i op t x y t' ho;exact fre (Ag2 hP hF ho hok h)
 ·rename_i op t x ho;exact fre (Aj7 hF ho hok h)
 ·rename_i s t x ho
  split at h
  ·rename_i is his
   split at h
   ·rename_i sz by_ z k hit;exact fre (Z1 hP hF hit (Aaz hP his) ho hok h)
   ·simp [Rd.sat] at h
  ·simp [Rd.sat] at h
 ·rename_i x j ho;exact fre (Aba hF ho hok h)
 ·rename_i f first caps ho
  split at h
  ·rename_i hc;exact fre (Wf hF ho hok hc.1 hc.2 h)
  ·split at h
   ·rename_i hc;exact fre (Vb hF ho hok hc.1 hc.2 h)
   ·simp [Rd.sat] at h
 ·rename_i c ho
  obtain ⟨callee,args,ty⟩:=c
  simp only at h
  cases callee with
  | builtin b=>exact fre (Acb hP hF hn1 ho hok h)
  | invoke r m=>simp [Rd.sat] at h
  | value x=>
   simp only at h
   obtain ⟨hd,hn,κ,V,hI,hV⟩:=hF
   obtain ⟨v,R',h1,hv⟩:=Au hI hV (Ap hok (by simp [ho,Op.operands,Call.operands])) h
   cases v <;> try (simp [Rd.sat] at h1;done)
   rename_i f caps
   simp only [callRd] at h1
   split at h1
   ·simp [Rd.sat] at h1
   ·rename_i d hdst
    by_cases hf:f<1000000
    ·rw [if_pos hf] at h1
     by_cases l9:(md f).length=9
     ·rw [if_pos l9] at h1
      split at h1
      ·rename_i hargs
       obtain ⟨v1,R1,h2,_⟩:=Au hI hV (Ap hok (by simp [ho,Op.operands,Call.operands];right;rw [← Array.mem_toList_iff,hargs];simp)) h1
       split at h2
       ·rw [← hargs] at h2
        exact fre (Ul hf hd hn hI hV ho hok hdst hv h2)
       ·exact fre (Acx hf hd hn hI hV ho hok hdst hv hargs h2)
      ·simp [Rd.sat] at h1
     rw [if_neg l9] at h1
     by_cases l8:(md f).length=8
     ·rw [if_pos l8] at h1
      split at h1
      ·simp [Rd.sat] at h1
      ·simp [Rd.sat] at h1
     rw [if_neg l8] at h1
     by_cases l7:(md f).length=7
     ·rw [if_pos l7] at h1
      split at h1
      ·simp [Rd.sat] at h1
      ·simp [Rd.sat] at h1
     rw [if_neg l7] at h1
     by_cases l6:(md f).length=6
     ·rw [if_pos l6] at h1
      split at h1
      ·exact fre (Aif hf hd hn hI hV ho hok hdst hv h1)
      ·simp [Rd.sat] at h1
     rw [if_neg l6] at h1
     by_cases l10:(md f).length=10
     ·rw [if_pos l10] at h1
      exact fre (Ahf hf hd hn hI hV ho hok hdst hv h1)
     rw [if_neg l10] at h1
     by_cases l11:(md f).length=11
     ·rw [if_pos l11] at h1
      split at h1
      ·exact fre (Aia hf hd hn hI hV ho hok hdst hv h1)
      ·simp [Rd.sat] at h1
     rw [if_neg l11] at h1
     by_cases l14:(md f).length=14
     ·rw [if_pos l14] at h1
      split at h1
      ·exact fre (Ags hf hd hn hI hV ho hok hdst hv h1)
      ·simp [Rd.sat] at h1
     rw [if_neg l14] at h1
     by_cases l15:(md f).length=15
     ·rw [if_pos l15] at h1
      split at h1
      ·exact fre (Ahb hf hd hn hI hV ho hok hdst hv h1)
      ·simp [Rd.sat] at h1
     rw [if_neg l15] at h1
     by_cases l12:12≤(md f).length
     ·rw [if_pos l12] at h1
      split at h1
      ·exact fre (Ag7 hf hd hn hI hV ho hok hdst hv h1)
      ·simp [Rd.sat] at h1
     rw [if_neg l12] at h1
     by_cases la:(md f).any id=true
     ·rw [if_pos la] at h1
      split at h1
      ·exact fre (Ah9 hf hd hn hI hV hn1 ho hok hdst hv h1)
      ·simp [Rd.sat] at h1
     rw [if_neg la] at h1
     exact fre (Ul hf hd hn hI hV ho hok hdst hv h1)
    ·rw [if_neg hf] at h1
     split at h1
     ·rename_i hc;exact fre (Ade hf hc.1 hd hn hI hV hc.2 ho hok hdst hv h1)
     ·simp [Rd.sat] at h1
 ·simp [Rd.sat] at h
end
end
section
def Rd.run (AF:FuncId→List T→T→Prop):Rd→Env→(List (Nat×Slot)→List Nat→Prop)→Prop
 | .fail,_,_=>False
 | .done ups,_,K=>K ups []
 | .rd t k,env,K=>(k (lk env t)).run AF env fun U R=>K U (t::R)
 | .need p k,env,K=>p∧k.run AF env K
 | .call f args ups,_,K=>∃ r,AF f args r∧K (ups r) []
theorem Rd.run_sat {AF:FuncId→List T→T→Prop}:∀ (r:Rd) (env:Env) (K:List (Nat×Slot)→List Nat→Prop),r.run AF env K→∃ U R,r.sat AF env U R∧K U R
 | .fail,_,_,h=>h.elim
 | .done ups,_,_,h=>⟨ups,[],⟨rfl,rfl⟩,h⟩
 | .rd t k,env,K,h=>by
  obtain ⟨U,R,h1,h2⟩:=Rd.run_sat (k (lk env t)) env _ h
  exact ⟨U,t::R,⟨R,h1,rfl⟩,h2⟩
 | .need p k,env,K,h=>by
  obtain ⟨U,R,h1,h2⟩:=Rd.run_sat k env _ h.2
  exact ⟨U,R,⟨h.1,h1⟩,h2⟩
 | .call f args ups,_,K,h=>by
  obtain ⟨r,h1,h2⟩:=h
  exact ⟨ups r,[],⟨r,h1,rfl,rfl⟩,h2⟩
def skipRd (d:Option Nat):Rd:=
 match d with
 | none=>.done []
 | some d=>.rd d fun s=>.done [(d,⟨verOf s,.undef⟩)]
def gRd (tt:Tt) (md:FuncId→List Bool) (ops:Array Oper) (i:Nat) (o:Oper):Rd:=
 match o.guard with
 | none=>opRd tt md i o
 | some (j,want)=>match (ops[j]?).bind (·.dst) with
  | none=>.fail
  | some t=>if t<1000000 then .rd t fun
   | some ⟨_,.val (.bool b)⟩=>if b=want then opRd tt md i o else skipRd o.dst
   | some ⟨_,.undef⟩=>skipRd o.dst
   | _=>.fail
   else .fail
section
variable {C:Ctx} {env:Env} {V:Nat→Value} {w:World} {κ:Kap} {a:Act} {AF:FuncId→List T→T→Prop} {U:List (Nat×Slot)} {R:List Nat} {n:Nat}
variable {tt:Tt} {P:Program}
theorem Yj (hF:FR C n env a w) {t k:Nat} {b:Bool} (ht:t<1000000) (h:lk env t=some ⟨k,.val (.bool b)⟩):a.tmps.getD t undef=.bool b:=by
 obtain ⟨_,_,κ,V,hI,hV⟩:=hF
 obtain ⟨_,h2⟩:=hI.val t k _ h
 rw [← hV t ht]
 exact HV.bool ⟨rfl,t,h2⟩
theorem Aht (hF:FR C n env a w) {t k:Nat} (ht:t<1000000) (h:lk env t=some ⟨k,.undef⟩):a.tmps.getD t undef=undef:=by
 obtain ⟨_,_,κ,V,hI,hV⟩:=hF
 rw [← hV t ht]
 exact hI.und t k h
theorem Yw (hF:FR C n env a w) {d:Option Nat} (hdn:∀ t:Nat,d=some t→t<n) (h:(skipRd d).sat AF env U R):FR C n (U++env) (a.put d undef) w:=by
 obtain ⟨hd,hn,κ,V,hI,hV⟩:=hF
 cases d with
 | none=>
  simp only [skipRd,Rd.sat] at h
  obtain ⟨rfl,_⟩:=h
  exact ⟨hd,hn,κ,V,hI,hV⟩
 | some d=>
  simp only [skipRd,Rd.sat] at h
  obtain ⟨R',⟨rfl,_⟩,_⟩:=h
  refine ⟨by rw [Hi];exact hd,by rw [Kv];exact hn,κ,upd V d undef,hI.bindUndef d _ (Nat.le_refl _),fun t ht=>?_⟩
  rw [Kg (by rw [hn];exact hdn d rfl)]
  by_cases e:t=d
  ·simp [e,upd]
  ·rw [Al _ _ _ _ e,if_neg e];exact hV t ht
theorem Tg {ops:Array Oper} {j t:Nat} {b:Bool} (h:(ops[j]?).bind (·.dst)=some t) (hv:a.tmps.getD t undef=.bool b):yielded ops a.tmps j=some b:=by
 unfold yielded
 rw [h]
 simp only [Option.bind_some]
 rw [Array.getD_eq_getD_getElem?] at hv
 cases hx:a.tmps[t]? with
 | none=>rw [hx] at hv;simp [undef] at hv
 | some x=>rw [hx] at hv;simp at hv;subst hv;rfl
theorem Vk {ops:Array Oper} {j t:Nat} (h:(ops[j]?).bind (·.dst)=some t) (hv:a.tmps.getD t undef=undef):yielded ops a.tmps j=none:=by
 unfold yielded
 rw [h]
 simp only [Option.bind_some]
 rw [Array.getD_eq_getD_getElem?] at hv
 cases hx:a.tmps[t]? with
 | none=>rfl
 | some x=>rw [hx] at hv;simp at hv;subst hv;rfl
theorem Qk {P:Program} {ops:Array Oper} {Q:Exit→Act→World→Prop} {i:Nat} {K:Act→World→Prop} {o:Oper} (ho:ops[i]? = some o) (hw:Region.wanted o (yielded ops a.tmps)=true) (h:o.wp P a w K Q):wpOp P ops Q i K a w:=by
 unfold wpOp
 simp only [ho,hw,if_true]
 exact .inl h
theorem Rr {P:Program} {ops:Array Oper} {Q:Exit→Act→World→Prop} {i:Nat} {K:Act→World→Prop} {o:Oper} (ho:ops[i]? = some o) (hw:Region.wanted o (yielded ops a.tmps)=false) (h:K (a.put o.dst undef) w):wpOp P ops Q i K a w:=by
 unfold wpOp
 simp only [ho,hw,Bool.false_eq_true,if_false]
 exact h
theorem Lv (hP : TtOk C.P tt) (md : FuncId → List Bool) (hF : FR C n env a w) (hn1 : n ≤ 1000000) {ops : Array Oper} {i : Nat} {o : Oper} (ho : ops[i]? = some o) (hok : opOk n o = true)
  (h:(gRd tt md ops i o).sat (AFn C.P) env U R) {Q:Exit→Act→World→Prop} {K:Act→World→Prop} (hK:∀ a' w',FRe C n (U++env) a' w'→K a' w'):wpOp C.P ops Q i K a w:=by
 haveI:Small n:=⟨hn1⟩
 have hdn:∀ t:Nat,o.dst=some t→t<n:=fun t ht=>Am hok t ht
 unfold gRd at h
 split at h
 ·rename_i hg
  exact Qk ho (by simp [Region.wanted,hg]) (Oper.wp_mono hK (Vr hP md hF hn1 hok h))
 ·rename_i j want hg
  split at h
  ·simp [Rd.sat] at h
  ·rename_i t hj
   split at h
   ·rename_i ht
    simp only [Rd.sat] at h
    obtain ⟨R',h,rfl⟩:=h
    split at h
    ·rename_i k b hl
     have hy:=Tg hj (Yj hF ht hl)
     split at h
     ·rename_i hb
      exact Qk ho (by simp [Region.wanted,hg,hy,hb]) (Oper.wp_mono hK (Vr hP md hF hn1 hok h))
     ·rename_i hb
      exact Rr ho (by simpa [Region.wanted,hg,hy] using hb) (hK _ _ (Yw hF hdn h).e)
    ·rename_i k hl
     have hy:=Vk hj (Aht hF ht hl)
     exact Rr ho (by simp [Region.wanted,hg,hy]) (hK _ _ (Yw hF hdn h).e)
    ·simp [Rd.sat] at h
   ·simp [Rd.sat] at h
end
def rgn (AF:FuncId→List T→T→Prop) (chk:List (List Nat×List Nat)→Prop) (Q:Env→Prop):List Rd→Env→List (List Nat×List Nat)→Prop
 | [],env,acc=>chk acc.reverse∧Q env
 | r::rs,env,acc=>r.run AF env fun U R=>rgn AF chk Q rs (U++env) ((U.map (·.1),R)::acc)
inductive Txt (AF:FuncId→List T→T→Prop):List Rd→Env→List (List (Nat×Slot)×List Nat)→Env→Prop where
 | nil (env:Env):Txt AF [] env [] env
 | cons (r:Rd) (rs:List Rd) (env:Env) (U:List (Nat×Slot)) (R:List Nat) (tr:List (List (Nat×Slot)×List Nat)) (env':Env) (h:r.sat AF env U R) (h2:Txt AF rs (U++env) tr env'):Txt AF (r::rs) env ((U,R)::tr) env'
theorem M1 {AF : FuncId → List T → T → Prop} {chk : List (List Nat × List Nat) → Prop} {Q : Env → Prop} : ∀ (rs : List Rd) (env : Env) (acc : List (List Nat × List Nat)), rgn AF chk Q rs env acc →
  ∃ tr env',Txt AF rs env tr env'∧chk (acc.reverse++tr.map fun x=>(x.1.map (·.1),x.2))∧Q env'
 | [],env,acc,h=>⟨[],env,.nil env,by simpa using h.1,h.2⟩
 | r::rs,env,acc,h=>by
  obtain ⟨U,R,h1,h2⟩:=Rd.run_sat r env _ h
  obtain ⟨tr,env',h3,h4,h5⟩:=M1 rs _ _ h2
  exact ⟨_,env',.cons r rs env U R tr env' h1 h3,by simpa using h4,h5⟩
def gRds (tt:Tt) (md:FuncId→List Bool) (ops:Array Oper):List Oper→Nat→List Rd
 | [],_=>[]
 | o::l,i=>gRd tt md ops i o::gRds tt md ops l (i+1)
section
variable {C:Ctx} {n:Nat} {tt:Tt}
theorem Txt.text {P : Program} (hP : TtOk P tt) (md : FuncId → List Bool) (hn1 : n ≤ 1000000) {ops : Array Oper} {C0 : Ctx} {Q : Exit → Act → World → Prop} : ∀ (l : List Oper) (i : Nat) (env : Env) (a : Act) (w : World) (tr : List (List (Nat × Slot) × List Nat)) (env' : Env) (C : Ctx), C.P = P → Ext C0 C →
  (∀ j,ops[i+j]? = l[j]?)→(∀ o∈l,opOk n o=true)→FR C n env a w→Txt (AFn P) (gRds tt md ops l i) env tr env'→(∀ a' w',FRe C0 n env' a' w'→Q .normal a' w')→
  wpOps P ops Q (List.range' i l.length) a w
 | [],i,env,a,w,tr,env',C,hCP,hE,_,_,hF,ht,hQ=>by
  cases ht
  exact hQ a w ⟨C,hE,hF⟩
 | o::l,i,env,a,w,tr,env',C,hCP,hE,hl,hok,hF,ht,hQ=>by
  cases ht with
  | cons _ _ _ U R tr' _ h h2=>
   subst hCP
   rw [List.length_cons,List.range'_succ,wpOps_cons]
   exact Lv hP md hF hn1 (by simpa using hl 0) (hok o (by simp)) h (fun a' w' ⟨C',hE',hF'⟩=>
    Txt.text hP md hn1 l (i+1) _ a' w' tr' env' C' hE'.P (hE.trans hE') (fun j=>by have:=hl (j+1);simpa [Nat.add_assoc,Nat.add_comm 1 j] using this) (fun o ho=>hok o (by simp [ho])) hF' h2 hQ)
theorem Yb (hP : TtOk C.P tt) (md : FuncId → List Bool) (hn1 : n ≤ 1000000) {ops : Array Oper} {id : Nat} {env : Env} {a : Act} {w : World} {Q : Exit → Act → World → Prop} {QE : Env → Prop} (hok : ops.toList.all (opOk n) = true) (hF : FR C n env a w)
  (h:rgn (AFn C.P) (fun _=>True) QE (gRds tt md ops ops.toList 0) env []) (hQ:∀ env' a' w',QE env'→FRe C n env' a' w'→Q .normal a' w'):(Code.region id ops false).wp C.P Q a w:=by
 obtain ⟨tr,env',h1,_,h2⟩:=M1 _ _ _ h
 refine wp_region ?_
 have:=Txt.text (Q:=Q) (C0:=C) hP md hn1 ops.toList 0 env a w tr env' C rfl (.refl C) (fun j=>by simp) (fun o ho=>by simpa using List.all_eq_true.1 hok o ho) hF h1 (fun a' w' hF'=>hQ env' a' w' h2 hF')
 rw [List.range_eq_range']
 simpa using this
end
end
end Go.Proofs.YtapdekacpecgiaaGreat
