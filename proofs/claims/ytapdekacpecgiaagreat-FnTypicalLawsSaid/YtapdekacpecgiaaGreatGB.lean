import Derived.Test.YtapdekacpecgiaaGreatGA
namespace Go.Proofs.YtapdekacpecgiaaGreat
open Go.RowKit
set_option linter.unusedVariables false
set_option linter.unusedSimpArgs false
set_option linter.constructorNameAsVariable false
section
theorem Bp (l:List T):T.refFreeL l=true↔∀ t∈l,t.refFree=true:=by
 induction l with
 | nil=>simp [T.refFreeL]
 | cons x l ih=>simp [T.refFreeL,ih]
theorem Fv (l:List T):T.noOwnL l=true↔∀ t∈l,t.noOwn=true:=by
 induction l with
 | nil=>simp [T.noOwnL]
 | cons x l ih=>simp [T.noOwnL,ih]
theorem Dc (l:List T):T.pureL l=true↔∀ t∈l,t.pure=true:=by
 induction l with
 | nil=>simp [T.pureL]
 | cons x l ih=>simp [T.pureL,ih]
theorem F6 (l:List T) (i:Nat) (u:T) (h:T.refFreeL l=true) (hu:u.refFree=true):T.refFreeL (l.set i u)=true:=by
 rw [Bp] at h ⊢
 intro t ht
 rcases List.mem_or_eq_of_mem_set ht with ht|rfl
 ·exact h t ht
 ·exact hu
theorem D2 (u:T) (hu:u.refFree=true):∀ (P:List Nat) (t t0:T),T.get P t=some t0→t.refFree=true→(T.set u P t).refFree=true
 | [],t,t0,_,h=>by simpa [T.set] using hu
 | i::P,t,t0,hg,h=>by
  cases t with
  | agg l=>
   simp only [T.get] at hg
   cases hl:l[i]? with
   | none=>simp [hl] at hg
   | some x=>
    simp [hl] at hg
    simp only [T.set,T.refFree,Bi l i _ x hl] at h ⊢
    exact F6 l i _ h (D2 u hu P x t0 hg ((Bp l).1 h x (List.mem_of_getElem? hl)))
  | tup l=>
   simp only [T.get] at hg
   cases hl:l[i]? with
   | none=>simp [hl] at hg
   | some x=>
    simp [hl] at hg
    simp only [T.set,T.refFree,Bi l i _ x hl] at h ⊢
    exact F6 l i _ h (D2 u hu P x t0 hg ((Bp l).1 h x (List.mem_of_getElem? hl)))
  | sl o e l=>
   cases o with
   | false=>simp [T.get] at hg
   | true=>
    simp only [T.get] at hg
    cases hl:l[i]? with
    | none=>simp [hl] at hg
    | some x=>
     simp [hl] at hg
     simp only [T.set,T.refFree,Bi l i _ x hl] at h ⊢
     exact F6 l i _ h (D2 u hu P x t0 hg ((Bp l).1 h x (List.mem_of_getElem? hl)))
  | win e k hh l=>
   simp only [T.get] at hg
   cases hl:l[i]? with
   | none=>simp [hl] at hg
   | some x=>
    simp [hl] at hg
    simp only [T.set,T.refFree,Bi l i _ x hl] at h ⊢
    exact F6 l i _ h (D2 u hu P x t0 hg ((Bp l).1 h x (List.mem_of_getElem? hl)))
  | box e t=>
   cases i with
   | zero=>
    simp only [T.get] at hg
    simp only [T.set,T.refFree] at h ⊢
    exact D2 u hu P t t0 hg h
   | succ i=>simp [T.get] at hg
  | _=>simp [T.get] at hg
theorem G1 (u : T) : ∀ (P : List Nat) (t t0 : T), T.get P t = some t0 → ∀ q n, T.get q (T.set u P t) = some n → n.isNode = true →
  (∃ r,q=P++r∧T.get r u=some n)∨(¬ P <+: q∧∃ n0,T.get q t=some n0∧n0.isNode=true)
 | [],t,t0,_,q,n,h,hn=>by
  simp only [T.set] at h
  exact .inl ⟨q,rfl,h⟩
 | i::P,t,t0,hg,q,n,h,hn=>by
  have step : ∀ (l : List T) (x : T), l[i]? = some x → T.get P x = some t0 → ∀ (j : Nat) (q' : List Nat), q = j :: q' → ((l.modify i (T.set u P))[j]?).bind (T.get q') = some n →
    (∃ r,q=(i::P)++r∧T.get r u=some n)∨(¬ (i::P) <+: q∧∃ n0,(l[j]?).bind (T.get q')=some n0∧n0.isNode=true):=by
   intro l x hl hx j q' hq hm
   subst hq
   by_cases e:i=j
   ·subst e
    rw [List.getElem?_modify] at hm
    simp [hl] at hm
    rcases G1 u P x t0 hx q' n hm hn with ⟨r,rfl,hr⟩|⟨h1,n0,h2,h3⟩
    ·exact .inl ⟨r,rfl,hr⟩
    ·refine .inr ⟨?_,n0,by simp [hl,h2],h3⟩
     simpa [List.cons_prefix_cons] using h1
   ·rw [List.getElem?_modify] at hm
    simp [e] at hm
    refine .inr ⟨?_,n,by simpa using hm,hn⟩
    simp [List.cons_prefix_cons,e]
  cases t with
  | agg l=>
   simp only [T.get] at hg
   cases hl:l[i]? with
   | none=>simp [hl] at hg
   | some x=>
    simp [hl] at hg
    cases q with
    | nil=>simp [T.set,T.get] at h;subst h;simp [T.isNode] at hn
    | cons j q'=>
     simp only [T.set,T.get] at h ⊢
     exact step l x hl hg j q' rfl h
  | tup l=>
   simp only [T.get] at hg
   cases hl:l[i]? with
   | none=>simp [hl] at hg
   | some x=>
    simp [hl] at hg
    cases q with
    | nil=>simp [T.set,T.get] at h;subst h;simp [T.isNode] at hn
    | cons j q'=>
     simp only [T.set,T.get] at h ⊢
     exact step l x hl hg j q' rfl h
  | sl o e l=>
   cases o with
   | false=>simp [T.get] at hg
   | true=>
    simp only [T.get] at hg
    cases hl:l[i]? with
    | none=>simp [hl] at hg
    | some x=>
     simp [hl] at hg
     cases q with
     | nil=>exact .inr ⟨by simp,_,rfl,rfl⟩
     | cons j q'=>
      simp only [T.set,T.get] at h ⊢
      exact step l x hl hg j q' rfl h
  | win e k hh l=>
   simp only [T.get] at hg
   cases hl:l[i]? with
   | none=>simp [hl] at hg
   | some x=>
    simp [hl] at hg
    cases q with
    | nil=>exact .inr ⟨by simp,_,rfl,rfl⟩
    | cons j q'=>
     simp only [T.set,T.get] at h ⊢
     exact step l x hl hg j q' rfl h
  | box e t=>
   cases i with
   | succ i=>simp [T.get] at hg
   | zero=>
    simp only [T.get] at hg
    cases q with
    | nil=>exact .inr ⟨by simp,_,rfl,rfl⟩
    | cons j q'=>
     cases j with
     | succ j=>simp [T.set,T.get] at h
     | zero=>
      simp only [T.set,T.get] at h ⊢
      rcases G1 u P t t0 hg q' n h hn with ⟨r,rfl,hr⟩|⟨h1,n0,h2,h3⟩
      ·exact .inl ⟨r,rfl,hr⟩
      ·exact .inr ⟨by simpa [List.cons_prefix_cons] using h1,n0,h2,h3⟩
  | _=>simp [T.get] at hg
def recol (κ:Kap) (s:Nat) (P:List Nat) (srcs:List Nat) (κo:Nat→Option (List Nat×Value)):Kap:=fun b=>
 match κo b with
 | some (r,v)=>some (s,P++r,v)
 | none=>match κ b with
  | some (u,r,v)=>if (u=s∧P <+: r)∨u∈srcs then none else some (u,r,v)
  | none=>none
theorem Ez {κ:Kap} {s:Nat} {P:List Nat} {srcs:List Nat} {κo:Nat→Option (List Nat×Value)} {b:Nat} {r:List Nat} {v:Value} (h:κo b=some (r,v)):recol κ s P srcs κo b=some (s,P++r,v):=by
 simp [recol,h]
theorem Bs {κ : Kap} {s : Nat} {P : List Nat} {srcs : List Nat} {κo : Nat → Option (List Nat × Value)} {b u : Nat} {r : List Nat} {v : Value}
  (hcol:∀ b r v,κo b=some (r,v)→∀ u r v,κ b=some (u,r,v)→(u=s∧P <+: r)∨u∈srcs)
  (h:κ b=some (u,r,v)) (hn:¬ ((u=s∧P <+: r)∨u∈srcs)):recol κ s P srcs κo b=some (u,r,v):=by
 unfold recol
 cases ho:κo b with
 | some y=>obtain ⟨r',v'⟩:=y;exact absurd (hcol b r' v' ho u r v h) hn
 | none=>simp [h,hn]
theorem Cg {κ : Kap} {s : Nat} {P : List Nat} {srcs : List Nat} {κo : Nat → Option (List Nat × Value)} {b u : Nat} {r : List Nat} {v : Value} (h : recol κ s P srcs κo b = some (u, r, v)) :
  (u=s∧∃ r',r=P++r'∧κo b=some (r',v))∨(¬ ((u=s∧P <+: r)∨u∈srcs)∧κ b=some (u,r,v)∧κo b=none):=by
 unfold recol at h
 cases ho:κo b with
 | some y=>
  obtain ⟨r',v'⟩:=y
  simp only [ho,Option.some.injEq,Prod.mk.injEq] at h
  obtain ⟨rfl,rfl,rfl⟩:=h
  exact .inl ⟨rfl,r',rfl,rfl⟩
 | none=>
  cases hk:κ b with
  | none=>simp [ho,hk] at h
  | some y=>
   obtain ⟨u',r',v'⟩:=y
   simp only [ho,hk] at h
   split at h
   ·cases h
   ·rename_i hn
    simp only [Option.some.injEq,Prod.mk.injEq] at h
    obtain ⟨rfl,rfl,rfl⟩:=h
    exact .inr ⟨hn,rfl,rfl⟩
theorem Inv.putG {C : Ctx} {env : Env} {V : Nat → Value} {w : World} {κ : Kap} (h : Inv C env V w κ) (s k k' : Nat) (T0 t0 t1 : T) (P : List Nat) (srcs : List Nat) (κo : Nat → Option (List Nat × Value)) (w' : World)
  (hs:lk env s=some ⟨k,.own T0⟩) (hsrc:s ∉ srcs) (hg:T.get P T0=some t0) (hag:t1.isAgg=t0.isAgg) (hr1:t1.refFree=true)
  (hos:w'.os=w.os) (htape:w'.tape=w.tape) (hout:w'.output=w.output) (hsize:w.heap.size≤w'.heap.size)
  (hfrozen:∀ b,C.F b→w'.heap[b]? = w.heap[b]?) (hkept:∀ b u p v,κ b=some (u,p,v)→u ∉ srcs→u≠s→w'.heap[b]? = w.heap[b]?)
  (hcol:∀ b r v,κo b=some (r,v)→b<w'.heap.size∧¬ C.F b)
  (hcol2:∀ b r v,κo b=some (r,v)→∀ u r v,κ b=some (u,r,v)→(u=s∧P <+: r)∨u∈srcs)
  (hinj:∀ b b' p v v',κo b=some (p,v)→κo b'=some (p,v')→b=b')
  (hk:k'=k+1∨(k'=k∧∀ r n,T.get r t1=some n→n.isNode=true→(∃ n0,T.get r t0=some n0∧n0.isNode=true)∧∀ b v,κ b=some (s,P++r,v)→κo b=some (r,v)))
  (hroot:∀ (cs:List Value) (X':Cx),X'.sz=C.P.cellsOf→X'.w=w'→X'.F=C.F→X'.kap=recol κ s P srcs κo→Refs (cx C env w κ) X'→V s=mkv T0 cs→CR (cx C env w κ) s [] T0 cs→CR X' s [] (T.set t1 P T0) cs) :
  Inv C ((s,⟨k',.own (T.set t1 P T0)⟩)::kill srcs env) V w' (recol κ s P srcs κo):=by
 have hver:verOf (lk env s)=k:=by rw [hs];rfl
 have hrefs:Refs (cx C env w κ) (cx C ((s,⟨k',.own (T.set t1 P T0)⟩)::kill srcs env) w' (recol κ s P srcs κo)):=by
  intro u j q ho
  obtain ⟨y,hy,hj⟩:=ho
  by_cases e:u=s
  ·subst e
   rw [hs] at hy
   simp at hy;subst hy
   refine ⟨⟨_,Ak _ _ _,by show j≤k';have:j≤k:=hj;rcases hk with e|⟨e,_⟩ <;> omega⟩,fun hn=>?_⟩
   obtain ⟨T2,n,h1,h2,h3⟩:=hn
   rw [Ak] at h1
   simp only [Option.some.injEq,Slot.mk.injEq,SV.own.injEq] at h1
   obtain ⟨rfl,rfl⟩:=h1
   rcases hk with e|⟨e,hnn⟩
   ·have:k'≤k:=hj
    omega
   ·subst e
    rcases G1 t1 P T0 t0 hg q n h2 h3 with ⟨r,rfl,hr⟩|⟨h4,n0,h5,h6⟩
    ·obtain ⟨⟨n0,g1,g2⟩,g3⟩:=hnn r n hr h3
     exact ⟨⟨T0,n0,hs,by rw [Hh P r T0 t0 hg];exact g1,g2⟩,fun b v hb=>Ez (g3 b v hb)⟩
    ·exact ⟨⟨T0,n0,hs,h5,h6⟩,fun b v hb=>Bs hcol2 hb (by simp [h4,hsrc])⟩
  ·by_cases e2:u∈srcs
   ·refine ⟨⟨_,by rw [Ab _ _ _ _ e];exact A7 _ _ _ e2,by rw [hy];exact hj⟩,fun hn=>?_⟩
    obtain ⟨T2,n,h1,_⟩:=hn
    rw [Ab _ _ _ _ e,A7 _ _ _ e2] at h1
    simp at h1
   ·refine ⟨⟨y,by rw [Ab _ _ _ _ e,A9 _ _ _ e2];exact hy,hj⟩,fun hn=>?_⟩
    obtain ⟨T2,n,h1,h2⟩:=hn
    rw [Ab _ _ _ _ e,A9 _ _ _ e2] at h1
    exact ⟨⟨T2,n,h1,h2⟩,fun b v hb=>Bs hcol2 hb (by simp [e,e2])⟩
 have hc:∀ t,t≠s→t ∉ srcs→Carry (cx C env w κ) (cx C ((s,⟨k',.own (T.set t1 P T0)⟩)::kill srcs env) w' (recol κ s P srcs κo)) t t [] []:=fun t h1 h2=>
  ⟨rfl,fun b hb=>⟨hb,hfrozen b hb⟩,fun b q v hb=>⟨Bs hcol2 hb (by simp [h1,h2]),hkept b t _ v hb h2 h1⟩,hrefs⟩
 refine ⟨hos.trans h.os,htape.trans h.tape,hout.trans h.output,Nat.le_trans h.size hsize,fun b hb=>(hfrozen b hb).trans (h.frozen b hb),?_,?_,fun t k'' y hy=>?_,fun t k'' y hy=>?_,fun t k'' hy=>?_,H5 h.pin rfl hrefs (fun u0 T0 h0=>by
  by_cases e:u0=s
  ·subst e;exact ⟨_,hs⟩
  ·rw [Ab _ _ _ _ e] at h0
   by_cases e2:u0∈srcs
   ·rw [A7 _ _ _ e2] at h0;simp at h0
   ·rw [A9 _ _ _ e2] at h0;exact ⟨_,h0⟩),fun b v hb k9 T9 h9=>by
  by_cases e:3000001=s
  ·exact h.root b v hb k T0 (by rw [e];exact hs)
  ·rw [Ab _ _ _ _ e] at h9
   by_cases e2:3000001∈srcs
   ·rw [A7 _ _ _ e2] at h9;cases h9
   ·rw [A9 _ _ _ e2] at h9
    exact h.root b v hb k9 T9 h9⟩
 ·intro b u p v hm
  rcases Cg hm with ⟨_,r',_,ho⟩|⟨_,hb,_⟩
  ·exact hcol b r' v ho
  ·exact ⟨Nat.lt_of_lt_of_le (h.col b u p v hb).1 hsize,(h.col b u p v hb).2⟩
 ·intro b b' u p v v' hm hm'
  rcases Cg hm with ⟨e,r,rfl,ho⟩|⟨hn,hb,_⟩
  ·rcases Cg hm' with ⟨_,r',e',ho'⟩|⟨hn',_⟩
   ·have:r=r':=List.append_cancel_left e'
    subst this
    exact hinj b b' r v v' ho ho'
   ·exact absurd (.inl ⟨e,List.prefix_append P r⟩) hn'
  ·rcases Cg hm' with ⟨e',r',rfl,_⟩|⟨_,hb',_⟩
   ·exact absurd (.inl ⟨e',List.prefix_append P r'⟩) hn
   ·exact h.inj b b' u p v v' hb hb'
 ·by_cases e:t=s
  ·subst e;rw [Ak] at hy;simp at hy
  ·rw [Ab _ _ _ _ e] at hy
   by_cases e2:t∈srcs
   ·rw [A7 _ _ _ e2] at hy
    simp at hy
    obtain ⟨_,rfl⟩:=hy
    exact ⟨rfl,Lz _ _ _⟩
   ·rw [A9 _ _ _ e2] at hy
    exact ⟨(h.val t k'' y hy).1,Dh (hc t e e2) (h.val t k'' y hy).2⟩
 ·by_cases e:t=s
  ·subst e
   rw [Ak] at hy
   simp only [Option.some.injEq,Slot.mk.injEq,SV.own.injEq] at hy
   obtain ⟨_,rfl⟩:=hy
   obtain ⟨hr0,cs,hV,hCR⟩:=h.own t k T0 hs
   exact ⟨D2 t1 hr1 P T0 t0 hg hr0,cs,by rw [hV];exact Da (T.isAgg_set t1 P T0 t0 hg hag).symm cs,hroot cs _ rfl rfl rfl rfl hrefs hV hCR⟩
  ·rw [Ab _ _ _ _ e] at hy
   by_cases e2:t∈srcs
   ·rw [A7 _ _ _ e2] at hy
    simp at hy
   ·rw [A9 _ _ _ e2] at hy
    exact ⟨(h.own t k'' y hy).1,Dh (hc t e e2) (h.own t k'' y hy).2⟩
 ·by_cases e:t=s
  ·subst e;rw [Ak] at hy;simp at hy
  ·rw [Ab _ _ _ _ e] at hy
   by_cases e2:t∈srcs
   ·rw [A7 _ _ _ e2] at hy
    simp at hy
   ·rw [A9 _ _ _ e2] at hy
    exact h.und t k'' hy
theorem Inv.put {C : Ctx} {env : Env} {V : Nat → Value} {w : World} {κ : Kap} (h : Inv C env V w κ) (s k k' : Nat) (T0 t0 t1 : T) (P : List Nat) (srcs : List Nat) (κo : Nat → Option (List Nat × Value)) (w' : World)
  (hs:lk env s=some ⟨k,.own T0⟩) (hsrc:s ∉ srcs) (hg:T.get P T0=some t0) (hag:t1.isAgg=t0.isAgg) (hr1:t1.refFree=true)
  (hos:w'.os=w.os) (htape:w'.tape=w.tape) (hout:w'.output=w.output) (hsize:w.heap.size≤w'.heap.size)
  (hfrozen:∀ b,C.F b→w'.heap[b]? = w.heap[b]?) (hkept:∀ b u p v,κ b=some (u,p,v)→u ∉ srcs→u≠s→w'.heap[b]? = w.heap[b]?)
  (hcol:∀ b r v,κo b=some (r,v)→b<w'.heap.size∧¬ C.F b)
  (hcol2:∀ b r v,κo b=some (r,v)→∀ u r v,κ b=some (u,r,v)→(u=s∧P <+: r)∨u∈srcs)
  (hinj:∀ b b' p v v',κo b=some (p,v)→κo b'=some (p,v')→b=b')
  (hk:k'=k+1∨(k'=k∧∀ r n,T.get r t1=some n→n.isNode=false))
  (hroot:∀ (cs:List Value) (X':Cx),X'.sz=C.P.cellsOf→X'.w=w'→X'.F=C.F→X'.kap=recol κ s P srcs κo→Refs (cx C env w κ) X'→V s=mkv T0 cs→CR (cx C env w κ) s [] T0 cs→CR X' s [] (T.set t1 P T0) cs) :
  Inv C ((s,⟨k',.own (T.set t1 P T0)⟩)::kill srcs env) V w' (recol κ s P srcs κo):=
 h.putG s k k' T0 t0 t1 P srcs κo w' hs hsrc hg hag hr1 hos htape hout hsize hfrozen hkept hcol hcol2 hinj (hk.imp id fun ⟨e,hn⟩=>⟨e,fun r n h1 h2=>absurd h2 (by rw [hn r n h1];simp)⟩) hroot
end
section
section
variable {C:Ctx} {env:Env} {V:Nat→Value} {w:World} {κ:Kap}
theorem Inv.node_at (h : Inv C env V w κ) {s k : Nat} {T0 n : T} {q : List Nat} (hs : lk env s = some ⟨k, .own T0⟩) (hg : T.get q T0 = some n) (hn : n.isNode = true) :
  ∃ b cap cur,CR (cx C env w κ) s q n [headOf n b cap]∧w.heap[b]? = some (.cells cur n.elem (0,0))∧κ b=some (s,q,headOf n b cap):=by
 obtain ⟨_,cs,_,hCR⟩:=h.own s k T0 hs
 obtain ⟨cs0,h0⟩:=Ame q T0 [] cs n hg hCR
 simp only [List.nil_append] at h0
 obtain ⟨b,cap,cur,rfl,hb,hk,_⟩:=Ex hn h0
 exact ⟨b,cap,cur,h0,hb,hk⟩
theorem Inv.ref_eq (h : Inv C env V w κ) {s k : Nat} {T0 n : T} {q : List Nat} (hs : lk env s = some ⟨k, .own T0⟩) (hg : T.get q T0 = some n) (hn : n.isNode = true)
  {s0:Nat} {p0:List Nat} {cs:List Value} (hv:CR (cx C env w κ) s0 p0 (.ref s k q) cs) :
  ∃ b cap cur,cs=[headOf n b cap]∧CR (cx C env w κ) s q n cs∧w.heap[b]? = some (.cells cur n.elem (0,0))∧κ b=some (s,q,headOf n b cap):=by
 obtain ⟨b,cap,cur,h1,h2,h3⟩:=h.node_at hs hg hn
 simp only [CR] at hv
 obtain ⟨v,rfl,_,hb⟩:=hv
 obtain ⟨b',hb'⟩:=hb ⟨T0,n,hs,hg,hn⟩
 have e:=h.inj b b' s q _ _ h3 hb'
 subst e
 have:v=headOf n b cap:=by
  have h4:κ b=some (s,q,v):=hb'
  rw [h3] at h4
  simp at h4
  exact h4.symm
 subst this
 exact ⟨b,cap,cur,rfl,h1,h2,h3⟩
theorem Inv.addr_eq (h : Inv C env V w κ) {s k : Nat} {T0 n : T} {q : List Nat} (hs : lk env s = some ⟨k, .own T0⟩) (hg : T.get q T0 = some n) (hn : n.isNode = true)
  {s0:Nat} {p0:List Nat} {cs:List Value} {off:Nat} {sub:List Nat} (hv:CR (cx C env w κ) s0 p0 (.addr s k q off sub) cs) :
  ∃ b cap cur,cs=[adv (headOf n b cap) b off sub]∧CR (cx C env w κ) s q n [headOf n b cap]∧w.heap[b]? = some (.cells cur n.elem (0,0))∧κ b=some (s,q,headOf n b cap):=by
 obtain ⟨b,cap,cur,h1,h2,h3⟩:=h.node_at hs hg hn
 simp only [CR] at hv
 obtain ⟨v,rfl,_,hb⟩:=hv
 obtain ⟨b',hd,hb',rfl⟩:=hb ⟨T0,n,hs,hg,hn⟩
 have e:=h.inj b b' s q _ _ h3 hb'
 subst e
 have e2:hd=headOf n b cap:=by
  have h4:κ b=some (s,q,hd):=hb'
  rw [h3] at h4
  simp at h4
  exact h4.symm
 subst e2
 exact ⟨b,cap,cur,rfl,h1,h2,h3⟩
theorem Hv {h:Value} {b off:Nat} {sub:List Nat} (hs:sub≠[]):adv h b off sub=.pointer (some ⟨b,off,none⟩):=by
 cases sub with
 | nil=>exact absurd rfl hs
 | cons _ _=>rfl
theorem Qw {n t0:T} {sub:List Nat} (h:n.part sub=some t0):sub≠[]:=by
 intro e;subst e;cases n <;> simp [T.part] at h
theorem Mw {t:T} (h:t.isNode=false) (h2:∀ i r,T.get (i::r) t=none):∀ r n,T.get r t=some n→n.isNode=false:=by
 intro r n hr
 cases r with
 | nil=>simp [T.get] at hr;subst hr;exact h
 | cons i r=>rw [h2] at hr;cases hr
def T.scalar:T→Bool
 | .int ..=>true
 | .bool ..=>true
 | .str c=>c.free
 | _=>false
theorem Cz {t:T} (h:t.scalar=true):∀ r n,T.get r t=some n→n.isNode=false:=by
 refine Mw ?_ ?_ <;> cases t <;> simp_all [T.scalar,T.isNode,T.get]
theorem Inv.takeOut (h : Inv C env V w κ) {s k : Nat} {T0 n : T} {q : List Nat} (hs : lk env s = some ⟨k, .own T0⟩) (hg : T.get q T0 = some n) (hn : n.isNode = true) :
  Inv C ((s,⟨k,.own (T.set .any q T0)⟩)::env) V w (recol κ s q [] (fun _=>none)):=by
 have hA:n.isAgg=false:=by cases n <;> simp_all [T.isNode,T.isAgg]
 have hS:n.size=1:=by cases n <;> simp_all [T.isNode,T.size]
 have:=h.put s k k T0 n .any q [] (fun _=>none) w hs (by simp) hg (by rw [hA];rfl) rfl rfl rfl rfl (Nat.le_refl _) (fun _ _=>rfl) (fun _ _ _ _ _ _ _=>rfl)
  (fun _ _ _ h=>by cases h) (fun _ _ _ h=>by cases h) (fun _ _ _ _ _ h=>by cases h)
  (.inr ⟨rfl,Mw rfl (fun _ _=>rfl)⟩) (fun cs X' h1 h2 h3 h4 h5 _ hCR=>by
   obtain ⟨cs0,h6,h7⟩:=Dj (X':=X') q T0 [] cs n .any hg hCR (by rw [hS];rfl) (by rw [hA];rfl)
    ⟨h1,fun b hb=>⟨by rw [h3];exact hb,by rw [h2];rfl⟩,fun b r v hk hnp=>by
     rw [h4,h2]
     simp only [List.nil_append] at hk ⊢
     exact ⟨Bs (fun _ _ _ h=>by cases h) hk (by simp [hnp]),rfl⟩,h5⟩
   refine h7 ?_
   have:=Bg _ _ _ _ _ h6
   rw [hS] at this
   match cs0,this with
   | [v],_=>simp only [CR];exact ⟨v,rfl⟩)
 simpa [kill] using this
theorem Inv.storeOwn (h : Inv C env V w κ) {s k d kd : Nat} {T0 n t0 T1 : T} {p sub : List Nat} (hs : lk env s = some ⟨k, .own T0⟩) (hg : T.get p T0 = some n) (hn : n.isNode = true) (hp : n.part sub = some t0)
  (hd:lk env d=some ⟨kd,.own T1⟩) (hne:s≠d) (hsz:T1.size=t0.size) (hag:T1.isAgg=t0.isAgg) :
  ∃ b cap cur cs1,κ b=some (s,p,headOf n b cap)∧w.heap[b]? = some (.cells cur n.elem (0,0))∧n.offN sub+cs1.length≤cur.size∧V d=mkv T1 cs1∧CR (cx C env w κ) d [] T1 cs1∧
   ∃ κ',Inv C ((s,⟨k+1,.own (T.set T1 (p++sub) T0)⟩)::kill [d] env) V (w.setRow b (splice cur.toList (n.offN sub) cs1).toArray) κ'∧
    ∀ b u q v,κ b=some (u,q,v)→u≠d→¬ (u=s∧(p++sub) <+: q)→κ' b=some (u,q,v):=by
 obtain ⟨b,cap,cur,h1,h2,h3⟩:=h.node_at hs hg hn
 obtain ⟨hr1,cs1,hV,hC1⟩:=h.own d kd T1 hd
 obtain ⟨b',cap',cur',e1,e2,e3,hle,_,_⟩:=G4 (X':=cx C env w κ) hn hp h1
 have hl1:=Bg _ _ _ _ _ hC1
 have hb:b'=b:=h.inj b' b s p _ _ e3 h3
 subst hb
 have hcur:cur'=cur:=by
  have:w.heap[b']? = some (.cells cur' n.elem (0,0)):=e2
  rw [h2] at this;simp at this;exact this.symm
 subst hcur
 refine ⟨b',cap,cur',cs1,h3,h2,by omega,hV,hC1,recol κ s (p++sub) [d] (fun b=>match κ b with|some (u,r,v)=>if u=d then some (r,v) else none|none=>none),?_,fun b u q v hk hu hn=>Bs (fun b r v ho u r' v' hk=>by
  simp only [hk] at ho
  split at ho
  ·rename_i e;exact .inr (by simp [e])
  ·cases ho) hk (by simpa [hu] using fun h1 h2=>hn ⟨h1,h2⟩)⟩
 have hget:T.get (p++sub) T0=some t0:=by rw [Hh p sub T0 n hg];exact Fo hn hp
 have hFb:¬ C.F b':=(h.col b' _ _ _ h3).2
 have hsubne:sub≠[]:=by intro e;subst e;simp [T.part] at hp
 refine h.put s k (k+1) T0 t0 T1 (p++sub) [d] (fun b=>match κ b with|some (u,r,v)=>if u=d then some (r,v) else none|none=>none) _ hs (by simp [hne]) hget hag hr1
  rfl rfl rfl (by simp) (fun b hb=>setRow_other _ _ _ _ (fun e=>hFb (e▸hb))) (fun b u r v hk hu hus=>setRow_other _ _ _ _ (fun e=>by subst e;rw [h3] at hk;simp at hk;exact hus hk.1.symm))
  (fun b r v ho=>?_) (fun b r v ho u r' v' hk=>?_) (fun b1 b2 r v v' ho ho'=>?_) (.inl rfl) (fun cs X' g1 g2 g3 g4 g5 _ hCR=>?_)
 ·cases hk:κ b with
  | none=>simp [hk] at ho
  | some y=>
   obtain ⟨u,r',v'⟩:=y
   exact ⟨by simpa using (h.col b _ _ _ hk).1,(h.col b _ _ _ hk).2⟩
 ·simp only [hk] at ho
  split at ho
  ·rename_i e;exact .inr (by simp [e])
  ·cases ho
 ·cases hk:κ b1 with
  | none=>simp [hk] at ho
  | some y=>
   obtain ⟨u,r1,v1⟩:=y
   cases hk':κ b2 with
   | none=>simp [hk'] at ho'
   | some y'=>
    obtain ⟨u',r2,v2⟩:=y'
    simp only [hk] at ho
    simp only [hk'] at ho'
    split at ho
    ·split at ho'
     ·rename_i e e'
      simp at ho ho'
      obtain ⟨rfl,rfl⟩:=ho
      obtain ⟨rfl,rfl⟩:=ho'
      subst e;subst e'
      exact h.inj b1 b2 _ _ _ _ hk hk'
     ·cases ho'
    ·cases ho
 ·
  have hcol2:∀ b r v,(match κ b with|some (u,r,v)=>if u=d then some (r,v) else none|none=>none)=some (r,v)→∀ u r v,κ b=some (u,r,v)→(u=s∧(p++sub) <+: r)∨u∈[d]:=by
   intro b r v ho u r' v' hk
   simp only [hk] at ho
   split at ho
   ·rename_i e;exact .inr (by simp [e])
   ·cases ho
  have keep:∀ b r v,κ b=some (s,r,v)→¬ (p++sub) <+: r→X'.kap b=some (s,r,v):=by
   intro b r v hk hnp
   rw [g4]
   exact Bs hcol2 hk (by simp [hnp,hne])
  have hfr:∀ b,C.F b→X'.F b∧X'.w.heap[b]? = w.heap[b]?:=fun b hb=>⟨by rw [g3];exact hb,by rw [g2];exact setRow_other _ _ _ _ (fun e=>hFb (e▸hb))⟩
  rw [Pj T1 p sub T0 n hg]
  have hsz':(T.set T1 sub n).size=n.size:=T.size_set T1 sub n t0 (Fo hn hp) hsz
  have hag':(T.set T1 sub n).isAgg=n.isAgg:=T.isAgg_set T1 sub n t0 (Fo hn hp) hag
  have other:∀ b r v,b≠b'→κ b=some (s,r,v)→¬ (p++sub) <+: r→X'.kap b=some (s,r,v)∧X'.w.heap[b]? = w.heap[b]?:=
   fun b r v hb hk hnp=>⟨keep b r v hk hnp,by rw [g2];exact setRow_other _ _ _ _ hb⟩
  obtain ⟨cs0,g6,g7⟩:=Dj (X':=X') p T0 [] cs n (T.set T1 sub n) hg hCR hsz' hag'
   ⟨g1,hfr,fun b r v hk hnp=>by
    simp only [List.nil_append] at hk ⊢
    refine other b r v (fun e=>?_) hk (fun hp'=>hnp ((List.prefix_append p sub).trans hp'))
    subst e
    rw [show (cx C env w κ).kap b=κ b from rfl,h3] at hk
    simp at hk
    exact hnp (by rw [hk.1];exact List.prefix_refl r),g5⟩
  refine g7 ?_
  simp only [List.nil_append] at g6 ⊢
  obtain ⟨b2,cap2,cur2,e4,e5,e6,_,_,hput⟩:=G4 (X':=X') hn hp g6
  have hb2:b2=b':=h.inj b2 b' s p _ _ e6 h3
  subst hb2
  have hcur2:cur2=cur':=by
   have:w.heap[b2]? = some (.cells cur2 n.elem (0,0)):=e5
   rw [h2] at this;simp at this;exact this.symm
  subst hcur2
  refine hput T1 cs1 hsz (by omega) g1 hfr (fun b r v hb hk hnp=>other b _ v hb hk (fun hp'=>hnp (by rwa [List.prefix_append_right_inj] at hp'))) g5 ?_ ?_ ?_
  ·rw [g2];exact setRow_heap _ _ _ _ _ _ h2
  ·rw [show (cx C env w κ).kap b2=κ b2 from rfl,h3,keep b2 p _ h3 (fun hp'=>by have:=hp'.length_le;rw [List.length_append] at this;exact hsubne (List.eq_nil_of_length_eq_zero (by omega)))]
  ·refine Co (cx C env w κ) X' d s T1 [] (p++sub) cs1 ⟨g1,hfr,fun b r v hk=>?_,g5⟩ hC1
   have hk':κ b=some (d,r,v):=hk
   refine ⟨by rw [g4];exact Ez (by simp [hk']),?_⟩
   rw [g2]
   refine setRow_other _ _ _ _ (fun e=>?_)
   subst e
   rw [h3] at hk';simp at hk'
   exact hne hk'.1
theorem Inv.storeVal (h : Inv C env V w κ) {s k k' : Nat} {T0 n t0 T1 : T} {p sub : List Nat} (hs : lk env s = some ⟨k, .own T0⟩) (hg : T.get p T0 = some n) (hn : n.isNode = true) (hp : n.part sub = some t0)
  {cs1:List Value} {s1:Nat} (hv:CR (cx C env w κ) s1 [] T1 cs1) (hpure:T1.pure=true) (hr1:T1.refFree=true) (hsz:T1.size=t0.size) (hag:T1.isAgg=t0.isAgg)
  (hk:k'=k+1∨(k'=k∧T1.scalar=true)) :
  ∃ b cap cur,κ b=some (s,p,headOf n b cap)∧w.heap[b]? = some (.cells cur n.elem (0,0))∧n.offN sub+cs1.length≤cur.size∧
   ∃ κ',Inv C ((s,⟨k',.own (T.set T1 (p++sub) T0)⟩)::env) V (w.setRow b (splice cur.toList (n.offN sub) cs1).toArray) κ':=by
 obtain ⟨b,cap,cur,h1,h2,h3⟩:=h.node_at hs hg hn
 obtain ⟨b',cap',cur',e1,e2,e3,hle,_,_⟩:=G4 (X':=cx C env w κ) hn hp h1
 have hl1:=Bg _ _ _ _ _ hv
 have hb:b'=b:=h.inj b' b s p _ _ e3 h3
 subst hb
 have hcur:cur'=cur:=by
  have:w.heap[b']? = some (.cells cur' n.elem (0,0)):=e2
  rw [h2] at this;simp at this;exact this.symm
 subst hcur
 refine ⟨b',cap,cur',h3,h2,by omega,recol κ s (p++sub) [] (fun _=>none),?_⟩
 have hget:T.get (p++sub) T0=some t0:=by rw [Hh p sub T0 n hg];exact Fo hn hp
 have hFb:¬ C.F b':=(h.col b' _ _ _ h3).2
 have hsubne:sub≠[]:=by intro e;subst e;simp [T.part] at hp
 have key:=h.put s k k' T0 t0 T1 (p++sub) [] (fun _=>none) (w.setRow b' (splice cur'.toList (n.offN sub) cs1).toArray) hs (by simp) hget hag hr1
  rfl rfl rfl (by simp) (fun b hb=>setRow_other _ _ _ _ (fun e=>hFb (e▸hb))) (fun b u r v hk hu hus=>setRow_other _ _ _ _ (fun e=>by subst e;rw [h3] at hk;simp at hk;exact hus hk.1.symm))
  (fun _ _ _ h=>by cases h) (fun _ _ _ h=>by cases h) (fun _ _ _ _ _ h=>by cases h)
  (hk.imp id (fun ⟨e,hsc⟩=>⟨e,Cz hsc⟩)) (fun cs X' g1 g2 g3 g4 g5 _ hCR=>?_)
 ·simpa [kill] using key
 ·have keep : ∀ b r v, κ b = some (s, r, v) → ¬ (p ++ sub) <+: r → X'.kap b = some (s, r, v) := by
   intro b r v hk hnp
   rw [g4]
   exact Bs (fun _ _ _ h=>by cases h) hk (by simp [hnp])
  have hfr:∀ b,C.F b→X'.F b∧X'.w.heap[b]? = w.heap[b]?:=fun b hb=>⟨by rw [g3];exact hb,by rw [g2];exact setRow_other _ _ _ _ (fun e=>hFb (e▸hb))⟩
  rw [Pj T1 p sub T0 n hg]
  have hsz':(T.set T1 sub n).size=n.size:=T.size_set T1 sub n t0 (Fo hn hp) hsz
  have hag':(T.set T1 sub n).isAgg=n.isAgg:=T.isAgg_set T1 sub n t0 (Fo hn hp) hag
  have other:∀ b r v,b≠b'→κ b=some (s,r,v)→¬ (p++sub) <+: r→X'.kap b=some (s,r,v)∧X'.w.heap[b]? = w.heap[b]?:=
   fun b r v hb hk hnp=>⟨keep b r v hk hnp,by rw [g2];exact setRow_other _ _ _ _ hb⟩
  obtain ⟨cs0,g6,g7⟩:=Dj (X':=X') p T0 [] cs n (T.set T1 sub n) hg hCR hsz' hag'
   ⟨g1,hfr,fun b r v hk hnp=>by
    simp only [List.nil_append] at hk ⊢
    refine other b r v (fun e=>?_) hk (fun hp'=>hnp ((List.prefix_append p sub).trans hp'))
    subst e
    rw [show (cx C env w κ).kap b=κ b from rfl,h3] at hk
    simp at hk
    exact hnp (by rw [hk.1];exact List.prefix_refl r),g5⟩
  refine g7 ?_
  simp only [List.nil_append] at g6 ⊢
  obtain ⟨b2,cap2,cur2,e4,e5,e6,_,_,hput⟩:=G4 (X':=X') hn hp g6
  have hb2:b2=b':=h.inj b2 b' s p _ _ e6 h3
  subst hb2
  have hcur2:cur2=cur':=by
   have:w.heap[b2]? = some (.cells cur2 n.elem (0,0)):=e5
   rw [h2] at this;simp at this;exact this.symm
  subst hcur2
  refine hput T1 cs1 hsz (by omega) g1 hfr (fun b r v hb hk hnp=>other b _ v hb hk (fun hp'=>hnp (by rwa [List.prefix_append_right_inj] at hp'))) g5 ?_ ?_ ?_
  ·rw [g2];exact setRow_heap _ _ _ _ _ _ h2
  ·rw [show (cx C env w κ).kap b2=κ b2 from rfl,h3,keep b2 p _ h3 (fun hp'=>by have:=hp'.length_le;rw [List.length_append] at this;exact hsubne (List.eq_nil_of_length_eq_zero (by omega)))]
  ·exact Av (cx C env w κ) X' s1 s g1 hfr T1 [] (p++sub) cs1 hpure hv
end
end
section
inductive TK where
 | plain
 | bool
 | string
 | int (k:IntKind)
 | slice (e:TypeId)
 | struct (fs:List (TypeId×Nat×Nat))
def TK.isSl:TK→Bool
 | .slice _=>true
 | _=>false
structure Ty where
 size:Nat
 bytes:Nat
 zero:T
 kind:TK
abbrev Tt:=List (TypeId×Ty)
def tyAt:Tt→TypeId→Option Ty
 | [],_=>none
 | (u,i)::r,t=>if u=t then some i else tyAt r t
mutual
def T.zc:T→List Value
 | .int k n=>[.int k n]
 | .bool b=>[.bool b]
 | .str s=>[s.val]
 | .nil=>[.slice none 0 0]
 | .agg l=>T.zcL l
 | _=>[]
def T.zcL:List T→List Value
 | []=>[]
 | t::l=>t.zc++T.zcL l
end
mutual
def T.solid:T→Bool
 | .any=>false
 | .tup _=>false
 | .agg l=>T.solidL l
 | _=>true
def T.solidL:List T→Bool
 | []=>true
 | t::l=>t.solid&&T.solidL l
end
mutual
def T.plain:T→Bool
 | .int ..=>true
 | .bool _=>true
 | .str c=>c.free
 | .nil=>true
 | .agg l=>T.plainL l
 | _=>false
def T.plainL:List T→Bool
 | []=>true
 | t::l=>t.plain&&T.plainL l
end
def TyOk (P:Program) (t:TypeId) (i:Ty):Prop:=
 (P.info? t).map (fun x=>(x.zero,x.size,x.bytes))=some (some (mkv i.zero i.zero.zc),i.size,i.bytes)∧i.zero.plain=true∧i.zero.size=i.size∧
 match i.kind with
 | .plain=>(P.underlying t).map (fun d=>match d with|.struct _=>true|.array _ _=>true|_=>false)=some false∧i.zero.isAgg=false
 | .bool=>P.underlying t=some .bool∧i.zero.isAgg=false
 | .string=>P.underlying t=some .string∧i.zero.isAgg=false
 | .int k=>P.underlying t=some (.int k)∧i.zero.isAgg=false
 | .slice e=>P.underlying t=some (.slice e)∧i.zero.isAgg=false
 | .struct fs=>(P.underlying t).bind (fun d=>match d with|.struct fields=>some (fields.toList.map fun f=>(f.type,f.offset,P.cellsOf f.type))|_=>none)=some fs∧i.zero.isAgg=true
def TtOk (P:Program) (tt:Tt):Prop:=∀ t i,tyAt tt t=some i→TyOk P t i
inductive Rd where
 | fail
 | done (ups:List (Nat×Slot))
 | rd (t:Nat) (k:Option Slot→Rd)
 | need (p:Prop) (k:Rd)
 | call (f:FuncId) (args:List T) (ups:T→List (Nat×Slot))
def Rd.sat (AF:FuncId→List T→T→Prop):Rd→Env→List (Nat×Slot)→List Nat→Prop
 | .fail,_,_,_=>False
 | .done ups,_,U,R=>U=ups∧R=[]
 | .rd t k,env,U,R=>∃ R',(k (lk env t)).sat AF env U R'∧R=t::R'
 | .need p k,env,U,R=>p∧k.sat AF env U R
 | .call f args ups,_,U,R=>∃ r,AF f args r∧U=ups r∧R=[]
theorem Rd.sat_local {AF:FuncId→List T→T→Prop}:∀ (r:Rd) (env env':Env) (U:List (Nat×Slot)) (R:List Nat),r.sat AF env U R→(∀ t∈R,lk env' t=lk env t)→r.sat AF env' U R
 | .fail,_,_,_,_,h,_=>h
 | .done _,_,_,_,_,h,_=>h
 | .rd t k,env,env',U,R,h,hl=>by
  obtain ⟨R',h1,rfl⟩:=h
  refine ⟨R',?_,rfl⟩
  rw [hl t (by simp)]
  exact Rd.sat_local (k (lk env t)) env env' U R' h1 (fun u hu=>hl u (by simp [hu]))
 | .need p k,env,env',U,R,h,hl=>⟨h.1,Rd.sat_local k env env' U R h.2 hl⟩
 | .call ..,_,_,_,_,h,_=>h
def constT:Value→Option T
 | .int k n=>some (.int k n)
 | .bool b=>some (.bool b)
 | .string s=>some (.str (.str s))
 | .nilFunc=>some (.str .nilFunc)
 | .pointer none=>some (.str .nilPtr)
 | .slice none 0 0=>some .nil
 | _=>none
def rdv (x:Operand) (c:T→Rd):Rd:=
 match x with
 | .const v=>match constT v with
  | some t=>c t
  | none=>.fail
 | .tmp t=>.rd t fun
  | some ⟨_,.val y⟩=>c y
  | some ⟨k,.own y⟩=>c (T.borrow t k [] y)
  | _=>.fail
 | .func f=>c (.fn f [])
 | .global _=>.fail
def rdvL:List Operand→(List T→Rd)→Rd
 | [],c=>c []
 | x::l,c=>rdv x fun v=>rdvL l fun vs=>c (v::vs)
def rdn (s k:Nat) (p:List Nat) (c:T→T→Rd):Rd:=
 .rd s fun
  | some ⟨k', .own T0⟩ => if k' = k then
    match T.get p T0 with
    | some n=>if n.isNode then c T0 n else .fail
    | none=>.fail
   else .fail
  | _=>.fail
def fin (d:Option Nat) (x:T):Rd:=
 match d with
 | none=>.done []
 | some d=>.rd d fun s=>.done [(d,⟨verOf s,.val x⟩)]
def finOwn (d:Option Nat) (x:T) (ups:List (Nat×Slot)):Rd:=
 match d with
 | none=>.fail
 | some d=>.rd d fun s=>.done ((d,⟨verOf s+1,.own x⟩)::ups)
def holeAt:List T→Option (Nat×Nat×Nat×List Nat)
 | []=>none
 | .ref s k p::_=>some (0,s,k,p)
 | _::l=>(holeAt l).map fun x=>(x.1+1,x.2)
def take (d:Nat) (v:T) (c:T→List (Nat×Slot)→Rd):Rd:=
 if v.pure&&v.refFree then c v []
 else match v with
  | .ref s k p=>if s=d then .fail else rdn s k p fun T0 n=>c n [(s,⟨k,.own (T.set .any p T0)⟩)]
  | .agg l=>match holeAt l with
   | some (j,s,k,p)=>if s=d then .fail else if T.pureL (l.eraseIdx j)&&T.refFreeL (l.eraseIdx j) then rdn s k p fun T0 n=>c (.agg (l.set j n)) [(s,⟨k,.own (T.set .any p T0)⟩)] else .fail
   | none=>.fail
  | _=>.fail
mutual
def resolve:T→(T→Rd)→Rd
 | .ref s k p,c=>rdn s k p fun _ n=>c n.freeze
 | .addr s k p off sub,c=>if sub=[0] then rdn s k p fun _ n=>.need (off=0) (match n with|.box e t=>c (T.freeze (.box e t))|_=>.fail) else if sub.isEmpty then rdn s k p fun _ n=>(match n with|.sl true e l=>.need (off<l.length∧l.all T.scalar=true) (c (.sl false e ((T.freezeL l).drop off)))|_=>.fail) else .fail
 | .agg l,c=>resolveL l fun l'=>c (.agg l')
 | .fn f l,c=>resolveL l fun l'=>c (.fn f l')
 | .sl false e l,c=>c (.sl false e l)
 | .fptr t,c=>c (.fptr t)
 | .int k n,c=>c (.int k n)
 | .bool b,c=>c (.bool b)
 | .str s,c=>c (.str s)
 | .nil,c=>c .nil
 | _,_=>.fail
def resolveL:List T→(List T→Rd)→Rd
 | [],c=>c []
 | t::l,c=>resolve t fun t'=>resolveL l fun l'=>c (t'::l')
end
def pureRd:List Operand→(List T→Rd)→Rd
 | [],c=>c []
 | x::l,c=>rdv x fun v=>if v.pure&&v.refFree then pureRd l fun vs=>c (v::vs) else .fail
def giveRd (d:Nat):List (Operand×Bool)→(List T→List (Nat×Slot)→Rd)→Rd
 | [],c=>c [] []
 | (x,false)::l,c=>rdv x fun v=>if v.pure&&v.refFree then giveRd d l fun vs ups=>c (v::vs) ups else .fail
 | (x,true)::l,c=>rdv x fun v=>take d v fun v' ups=>pureRd (l.map (·.1)) fun vs=>c (v'::vs) ups
def zipB:List Operand→List Bool→List (Operand×Bool)
 | [],_=>[]
 | x::l,[]=>(x,false)::zipB l []
 | x::l,b::bs=>(x,b)::zipB l bs
def mkSV (x:T):SV:=if x.noOwn then .val x else .own x
def wrapInt (op:BinOp) (k:IntKind) (a b:Int):Rd→(T→Rd)→Rd:=fun _ c=>
 match op with
 | .add=>c (.int k (k.wrap (a+b)))
 | .sub=>c (.int k (k.wrap (a-b)))
 | .mul=>c (.int k (k.wrap (a*b)))
 | .quo=>.need (b≠0) (c (.int k (k.wrap (a.tdiv b))))
 | .rem=>.need (b≠0) (c (.int k (a.tmod b)))
 | .eql=>c (.bool (a==b))
 | .neq=>c (.bool (a != b))
 | .lss=>c (.bool (decide (a<b)))
 | .leq=>c (.bool (decide (a≤b)))
 | .gtr=>c (.bool (decide (a>b)))
 | .geq=>c (.bool (decide (a≥b)))
 | .and=>c (.int k (k.wrap ((BitVec.ofInt k.bits a &&& BitVec.ofInt k.bits b).toNat:Int)))
 | .or=>c (.int k (k.wrap ((BitVec.ofInt k.bits a ||| BitVec.ofInt k.bits b).toNat:Int)))
 | _=>.fail
def isBoolTy (tt:Tt) (t:TypeId):Bool:=
 match tyAt tt t with
 | some ⟨_,_,_,.bool⟩=>true
 | _=>false
def shrI (k:IntKind) (a b:Int):Int:=a.fdiv (2^(min b.toNat k.bits))
def shlI (k:IntKind) (a b:Int):Int:=k.wrap (a*2^(min b.toNat k.bits))
def binRd (isB:Bool) (op:BinOp) (x y:T) (c:T→Rd):Rd:=
 match x,y with
 | .int k a,.int k' b=>(match op with
  | .shr=>.need (0≤b) (c (.int k (shrI k a b)))
  | .shl=>.need (0≤b) (c (.int k (shlI k a b)))
  | op=>if k=k' then wrapInt op k a b .fail c else .fail)
 | .bool a, .bool b => if isB then
   (match op with
   | .eql=>c (.bool (a==b))
   | .neq=>c (.bool (!(a==b)))
   | _=>.fail)
  else .fail
 | _,_=>.fail
def unRd (op:UnOp) (x:T) (c:T→Rd):Rd:=
 match op,x with
 | .neg,.int k a=>c (.int k (k.wrap (0-a)))
 | .not,.bool b=>c (.bool (!b))
 | _,_=>.fail
def ghost (a:Option Addr) (n cp:Nat) (c:List Int→Rd):Rd:=.rd 3000000 fun
 | some ⟨_,.val (.str (.src a' cp' l))⟩=>.need (a'=a∧cp'=cp∧l.length=n) (c l)
 | _=>.fail
def elems (v:T) (c:List T→Rd):Rd:=
 match v with
 | .sl false _ l=>c l
 | .nil=>c []
 | .str (.src _ _ l)=>c (l.map (T.int .u8))
 | .str (.raw a n cp)=>ghost a n cp fun l=>c (l.map (T.int .u8))
 | .ref s k p=>rdn s k p fun _ n=>match n with
  | .sl true _ l=>c l
  | .win _ k h l=>c ((l.take h).drop k)
  | _=>.fail
 | _=>.fail
def elemsE (e:TypeId) (v:T) (c:List T→Rd):Rd:=
 match v with
 | .sl false e' l=>if e'=e then c l else .fail
 | .nil=>c []
 | .ref s k p=>rdn s k p fun _ n=>match n with
  | .sl true e' l=>if e'=e then c l else .fail
  | _=>.fail
 | _=>.fail
def virt (i:Nat):Nat:=1000000+2*i
theorem Gi (i:Nat):virt i≠3000001:=by unfold virt;omega
def appendBase (e:TypeId) (d:Nat) (x:T) (c:List T→List (Nat×Slot)→Rd):Rd:=
 match x with
 | .nil=>c [] []
 | .ref s k p=>if s=d then .fail else rdn s k p fun T0 n=>match n with
  | .sl true e' l=>if e'=e then c l [(s,⟨k,.own (T.set .any p T0)⟩)] else .fail
  | _=>.fail
 | _=>.fail
def appendOwn (vi:Nat) (dst:Option Nat) (ie:Ty) (e:TypeId) (u:T) (l:List T) (ups:List (Nat×Slot)):Rd:=
 match u with
 | .ref s2 k2 []=>rdn s2 k2 [] fun _ n2=>match n2 with
  | .sl true e' l2 => if e' = e ∧ T.solidL l2 = true ∧ s2 ≠ vi ∧ l2.isEmpty = false then
    .need (0<ie.size∧l.length+l2.length≤1099511627776∧(l.length+l2.length)*ie.bytes≤140737488355328) (match ups with
    | []=>finOwn dst (.sl true e l2) [(s2,⟨k2,.val .any⟩)]
    | (s,x)::_=>if s=s2 then .fail else .rd vi fun sv=>finOwn dst (.sl true e (l++l2)) [(vi,⟨verOf sv+1,.val .any⟩),(s,x),(s2,⟨k2,.val .any⟩)])
   else .fail
  | _=>.fail
 | _=>.fail
def ioUps (d:Nat) (sd:Option Slot) (s k:Nat) (p:List Nat) (T0:T) (q:List Nat) (r:T):List (Nat×Slot):=
 match r with
 | .tup [r1,A]=>match T.get q A with
  | some n=>[(d,⟨verOf sd+1,.val r1⟩),(s,⟨k+1,.own (T.set n p T0)⟩)]
  | none=>[]
 | _=>[]
def itUps (d:Nat) (sd:Option Slot) (s k:Nat) (p:List Nat) (T0:T) (r:T):List (Nat×Slot):=
 match r with
 | .tup [r1,A]=>[(d,⟨verOf sd+1,.val r1⟩),(s,⟨k,.own (T.set A p T0)⟩)]
 | _=>[]
def wtUps (d:Nat) (sd sv:Option Slot) (r:T):List (Nat×Slot):=
 match r with
 | .tup [.int _ k,.sl true e l,r2]=>[(d,⟨verOf sd+1,.val (.tup [.addr (2000000+d) (verOf sv+1) [] k.toNat [],r2])⟩),(2000000+d,⟨verOf sv+1,.own (.sl true e l)⟩)]
 | .tup [.nil,r2]=>[(d,⟨verOf sd+1,.val (.tup [.nil,r2])⟩)]
 | _=>[]
def ioRd (d:Nat) (f:FuncId) (x y:Operand):Rd:=
 .fail
mutual
def T.away (s:Nat):T→Prop
 | .ref u _ _=>u≠s
 | .addr u _ _ _ _=>u≠s
 | .agg l=>T.awayL s l
 | .fn _ l=>T.awayL s l
 | _=>True
def T.awayL (s:Nat):List T→Prop
 | []=>True
 | t::l=>t.away s∧T.awayL s l
end
def ioGUps (d:Nat) (sd:Option Slot) (s k:Nat) (r:T):List (Nat×Slot):=
 match r with
 | .tup [r1,A]=>[(d,⟨verOf sd+1,mkSV r1⟩),(s,⟨k,.own A⟩)]
 | _=>[]
def ioGRd (d:Nat) (f:FuncId) (args:List Operand):Rd:=
 match args with
 | []=>.fail
 | x::ys=>rdv x fun v=>match v with
  | .addr s k p off sub => if s = d then .fail else if sub = [0] then
    .need (off=0∧p=[])<|rdvL ys fun vs=>.need (T.awayL s vs)<|resolveL vs fun vs'=>rdn s k [] fun T0 _=>.rd 3000000 fun
     | some ⟨_,.val g⟩=>if g.pure then .rd d fun sd=>.call (5000000+f) (g::T0::vs') (ioGUps d sd s k) else .fail
     | _=>.fail
    else .fail
  | _=>.fail
mutual
def T.hands:T→List (Nat×Nat)
 | .addr s k _ _ _=>[(s,k)]
 | .fn _ l=>T.handsL l
 | _=>[]
def T.handsL:List T→List (Nat×Nat)
 | []=>[]
 | x::l=>T.hands x++T.handsL l
end
mutual
def T.shift (σ:Nat→Nat→List Nat→Option (List Nat)):T→Option T
 | .addr s k p off sub=>if off=0∧sub=[0] then (match σ s k p with
  | some q=>some (.addr 3000001 0 q 0 [0])
  | none=>none) else none
 | .fn f l=>(match T.shiftL σ l with
  | some l'=>some (.fn f l')
  | none=>none)
 | x=>if x.pure then some x else none
def T.shiftL (σ:Nat→Nat→List Nat→Option (List Nat)):List T→Option (List T)
 | []=>some []
 | x::l=>(match T.shift σ x,T.shiftL σ l with
  | some y,some z=>some (y::z)
  | _,_=>none)
end
def one3 (s k:Nat):Nat→Nat→List Nat→Option (List Nat):=fun s' k' p=>if s'=s∧k'=k then some p else none
def two3 (s k s2 k2:Nat):Nat→Nat→List Nat→Option (List Nat):=fun s' k' p=>if s'=s∧k'=k then some (0::p) else if s'=s2∧k'=k2 then some (1::p) else none
def T.blank:T→Bool
 | .agg l=>l.all (fun x=>match x with
  | .nil=>true
  | x=>x.scalar)
 | t=>t.scalar
def calm (t t':T):Bool:=t'.blank||(match t,t' with
 | .sl true e [],.sl true e' []=>e==e'
 | _,_=>false)
def calmT:T→T→Bool
 | .box _ t,.box _ t'=>calm t t'
 | .agg [.box _ t,.box _ u],.agg [.box _ t',.box _ u']=>calm t t'&&calm u u'
 | _,_=>false
def sameCells:T→T→Bool
 | .box _ _,.box _ _=>true
 | .agg [.box _ _,.box _ _],.agg [.box _ _,.box _ _]=>true
 | _,_=>false
def rdo (s k:Nat) (c:T→Rd):Rd:=
 .rd s fun
  | some ⟨k',.own B⟩=>if k'=k then c B else .fail
  | _=>.fail
def kUps (d:Nat) (sd:Option Slot) (s k:Nat) (B:T) (vi:Nat) (sv:Option Slot) (ups:List (Nat×Slot)) (r:T):List (Nat×Slot):=
 match r with
 | .tup [r1,B']=>(d,⟨verOf sd+1,.val r1⟩)::(s,⟨if calmT B B' then k else k+1,.own B'⟩)::(vi,⟨verOf sv+1,.val .any⟩)::ups
 | _=>[]
def kRd (d:Nat) (f:FuncId) (args:List Operand) (caps:List T) (i:Nat):Rd:=
 match args with
 | [x]=>(match T.handsL caps with
  | (s,k)::_=>if s=d∨s=virt i then .fail else (match T.shiftL (one3 s k) caps with
   | some cs => rdv x fun v => take (virt i) v fun v' ups => (match ups with
     | (sa,u)::[]=>if sa=s then .fail else rdo s k fun B=>.rd d fun sd=>.rd (virt i) fun sv=>.call (6000000+f) (B::v'::cs) (kUps d sd s k B (virt i) sv [(sa,u)])
     | _=>.fail)
   | none=>.fail)
  | []=>.fail)
 | _=>.fail
def cUps (d:Nat) (sd:Option Slot) (s k:Nat) (p:List Nat) (T0:T) (s2 k2:Nat) (B:T) (r:T):List (Nat×Slot):=
 match r with
 | .tup [r1,L,B']=>[(d,⟨verOf sd+1,.val r1⟩),(s,⟨k,.own (T.set L p T0)⟩),(s2,⟨if calmT B B' then k2 else k2+1,.own B'⟩)]
 | _=>[]
def cRd (d:Nat) (f:FuncId) (args:List Operand):Rd:=
 match args with
 | [x0,x1,x2]=>rdv x0 fun v0=>rdv x1 fun v1=>rdv x2 fun v2=>(match v0,v1,T.hands v2 with
  | .agg [.int km m,.ref s k p],.int ku nu,(s2,k2)::_=>(match T.shift (one3 s2 k2) v2 with
   | some F=>if s=d∨s2=d∨s=s2 then .fail else rdn s k p fun T0 n=>rdo s2 k2 fun B=>.rd d fun sd=>.call (7000000+f) [n,B,.int km m,.int ku nu,F] (cUps d sd s k p T0 s2 k2 B)
   | none=>.fail)
  | _,_,_=>.fail)
 | _=>.fail
def sUps (d:Nat) (sd:Option Slot) (s k s2 k2:Nat) (r:T):List (Nat×Slot):=
 match r with
 | .tup [r1,.agg [b1,b2]]=>[(d,⟨verOf sd+1,.val r1⟩),(s2,⟨k2+1,.own b2⟩),(s,⟨k+1,.own b1⟩)]
 | _=>[]
def yRd (d:Nat) (f:FuncId) (args:List Operand):Rd:=
 rdvL args fun vs=>if T.pureL vs&&T.refFreeL vs then .rd d fun s=>.call (9000000+f) vs fun r=>[(d,⟨verOf s+1,mkSV r⟩)] else .fail
def sRd (d:Nat) (f:FuncId) (args:List Operand):Rd:=
 rdvL args fun vs=>(match T.handsL vs with
  | [(s,k),(s2,k2)]=>if s=d∨s2=d∨s=s2∨s=3000001∨s2=3000001 then .fail else (match T.shiftL (two3 s k s2 k2) vs with
   | some (A::cs)=>if A.pure&&A.refFree then rdo s k fun B1=>rdo s2 k2 fun B2=>(match B1,B2 with
    | .box e1 t1,.box e2 t2=>.rd d fun sd=>.call (6000000+f) (.agg [.box e1 t1,.box e2 t2]::A::cs) (sUps d sd s k s2 k2)
    | _,_=>.fail) else .fail
   | _=>.fail)
  | _=>.fail)
def T.flat:T→Bool
 | .sl true _ l=>l.all T.scalar
 | _=>false
def xUps (d:Nat) (sd:Option Slot) (s k:Nat) (p:List Nat) (T0:T) (q:List Nat) (r:T):List (Nat×Slot):=
 match r with
 | .tup [r1,A]=>match T.get q A with
  | some n=>[(d,⟨verOf sd+1,.val r1⟩),(s,⟨if n.flat then k else k+1,.own (T.set n p T0)⟩)]
  | none=>[]
 | _=>[]
def xRd (jw d:Nat) (f:FuncId) (args:List Operand):Rd:=
 match args.drop jw with
 | x::post=>rdv x fun v=>rdvL (args.take jw++post) fun vs=>(match v with
  | .ref s k p=>if s=d then .fail else .need (T.awayL s vs)<|resolveL vs fun vs'=>rdn s k p fun T0 n=>.rd d fun sd=>.call (8000000+f) (.int .i64 jw::n::vs') (xUps d sd s k p T0 [])
  | .agg l=>(match holeAt l with
   | some (j, s, k, p) => if s = d then .fail else if T.pureL (l.eraseIdx j) && T.refFreeL (l.eraseIdx j) then
     .need (T.awayL s vs)<|resolveL vs fun vs'=>rdn s k p fun T0 n=>.rd d fun sd=>.call (8000000+f) (.int .i64 jw::.agg (l.set j n)::vs') (xUps d sd s k p T0 [j])
    else .fail
   | none=>.fail)
  | _=>.fail)
 | []=>.fail
def callRd (md:FuncId→List Bool) (o:Oper) (f:FuncId) (args:List Operand) (caps:List T) (i:Nat):Rd:=
 match o.dst with
 | none=>.fail
 | some d=>if f<1000000 then
  if (md f).length=9 then
   (match caps,args with
   | [], [x, y] => rdv x fun v => if v.pure && v.refFree then
     rdvL [x,y] fun vs=>resolveL vs fun vs'=>resolveL [] fun cs=>.rd d fun s=>.call f (vs'++cs) fun r=>[(d,⟨verOf s+1,mkSV r⟩)]
    else ioRd d f x y
   | _,_=>.fail)
  else if (md f).length=8 then
   (match caps with
   | []=>.fail
   | _=>.fail)
  else if (md f).length=7 then
   (match caps with
   | []=>.fail
   | _=>.fail)
  else if (md f).length=6 then
   (match caps with
   | []=>ioGRd d f args
   | _=>.fail)
  else if (md f).length=10 then kRd d f args caps i
  else if (md f).length=11 then
   (match caps with
   | []=>cRd d f args
   | _=>.fail)
  else if (md f).length=14 then
   (match caps with
   | []=>sRd d f args
   | _=>.fail)
  else if (md f).length=15 then
   (match caps with
   | []=>yRd d f args
   | _=>.fail)
  else if 12≤(md f).length then
   (match caps with
   | []=>xRd ((md f).length-12) d f args
   | _=>.fail)
  else if (md f).any id then
   (match caps with
   | []=>giveRd (virt i) (zipB args (md f)) fun vs ups=>.rd d fun s=>.rd (virt i) fun sv=>.call f vs fun r=>(d,⟨verOf s+1,mkSV r⟩)::(match ups with|[]=>[]|u::us=>(virt i,⟨verOf sv+1,.val .any⟩)::u::us)
   | _=>.fail)
  else rdvL args fun vs=>resolveL vs fun vs'=>resolveL caps fun cs=>.rd d fun s=>.call f (vs'++cs) fun r=>[(d,⟨verOf s+1,mkSV r⟩)]
  else if f-1000000<1000000∧caps.isEmpty=false then
   rdvL args fun vs=>resolveL vs fun vs'=>resolveL caps fun cs=>.rd d fun s=>.call (f-1000000) (cs++vs') fun r=>[(d,⟨verOf s+1,mkSV r⟩)]
  else .fail
def builtinRd (tt:Tt) (o:Oper) (b:Builtin) (args:List Operand) (argTypes:List TypeId) (i:Nat):Rd:=
 match b,args,argTypes with
 | .len,[x],[t]=>match tyAt tt t with
  | some ⟨_,_,_,.slice _⟩=>rdv x fun v=>elems v fun l=>fin o.dst (.int .i64 l.length)
  | _=>.fail
 | .max,[x,y],_=>rdv x fun v=>rdv y fun u=>match v,u with
  | .int k a,.int _ b=>fin o.dst (.int k (if b>a then b else a))
  | _,_=>.fail
 | .min,[x,y],_=>rdv x fun v=>rdv y fun u=>match v,u with
  | .int k a,.int _ b=>fin o.dst (.int k (if b<a then b else a))
  | _,_=>.fail
 | .append,[x,y],[t,t']=>if t=t' then match tyAt tt t with
  | some ⟨_,_,_,.slice e⟩=>match tyAt tt e with
   | some ie => rdv x fun v => rdv y fun u => appendBase e (virt i) v fun l ups => elemsE e u fun l2 =>
     .need (0<ie.size∧l.length+l2.length≤1099511627776∧(l.length+l2.length)*ie.bytes≤140737488355328) <|
     (if T.pureL l2&&T.refFreeL l2&&l2.all T.plain then
      match ups with
      | []=>if l2.isEmpty then fin o.dst .nil else finOwn o.dst (.sl true e l2) []
      | _=>.rd (virt i) fun sv=>finOwn o.dst (.sl true e (l++l2)) ((virt i,⟨verOf sv+1,.val .any⟩)::ups)
     else appendOwn (virt i) o.dst ie e u l ups)
   | _=>.fail
  | _=>.fail
  else match tyAt tt t,tyAt tt t' with
   | some ⟨_,_,_,.slice e⟩,some ⟨_,_,_,.int _⟩=>(match tyAt tt e with
    | some ie=>rdv x fun v=>rdv y fun u=>match v,u with
     | .ref s k p,.int _ m=>if s=virt i then .fail else rdn s k p fun T0 nd=>match nd with
      | .sl true e' l => .need (e' = e ∧ ie.size = 1 ∧ ie.zero.scalar = true ∧ l.all T.scalar = true ∧ 0 ≤ m ∧ l.length + m.toNat ≤ 1099511627776 ∧ (l.length + m.toNat) * ie.bytes ≤ 140737488355328)
        (.rd (virt i) fun sv=>finOwn o.dst (.sl true e (l++List.replicate m.toNat ie.zero)) [(virt i,⟨verOf sv+1,.val .any⟩),(s,⟨k,.own (T.set .any p T0)⟩)])
      | _=>.fail
     | _,_=>.fail
    | none=>.fail)
   | _,_=>.fail
 | .copy,[x,y],[t,_]=>match o.dst,tyAt tt t with
  | some d,some ⟨_,_,_,.slice e⟩=>match tyAt tt e with
   | some ie=>rdv x fun v=>rdv y fun u=>elemsE e u fun l2=>match v with
    | .ref s k p=>if s=d then .fail else rdn s k p fun T0 nd=>match nd with
     | .sl true e' l => .need (e' = e ∧ ie.size = 1 ∧ l2.all T.scalar = true ∧ l.all T.scalar = true ∧ 0 < l2.length)
       (.rd d fun sd=>.done [(d,⟨verOf sd,.val (.int .i64 (min l2.length l.length:Nat))⟩),(s,⟨k,.own (T.set (.sl true e (l2.take l.length++l.drop l2.length)) p T0)⟩)])
     | _=>.fail
    | _=>.fail
   | none=>.fail
  | _,_=>.fail
 | _,_,_=>.fail
def T.rawed:T→T
 | .str (.src a c l)=>.str (.raw a l.length c)
 | t=>t
def vetted (v:T) (c:Rd):Rd:=
 match v with
 | .ref s k p=>rdn s k p fun _ _=>c
 | v=>if v.solid&&v.refFree then c else .fail
def buildRd (fs:List (TypeId×Nat×Nat)):List (Nat×Operand)→List T→(List T→Rd)→Rd
 | [],acc,c=>c acc
 | (j,x)::l,acc,c=>rdv x fun v=>vetted v<|match acc[j]?,fs[j]? with
  | some z,some (_,offf,szf)=>.need (T.sizeL (acc.take j)=offf∧z.size=szf∧v.size=szf) (buildRd fs l (acc.set j v.rawed) c)
  | _,_=>.fail
def intRd (v:T) (c:Int→Rd):Rd:=
 match v with
 | .int _ n=>c n
 | _=>.fail
def boundRd (x:Option Operand) (dflt:Int) (c:Int→Rd):Rd:=
 match x with
 | none=>c dflt
 | some y=>rdv y fun v=>intRd v c
def cutB:Option Operand→Option Operand→Bool
 | none,some (.const _)=>true
 | _,_=>false
def notPre:List Nat→List Nat→Bool
 | [],_=>false
 | _::_,[]=>true
 | a::l,b::m=>!(a==b)||notPre l m
theorem Pf:∀ (l m:List Nat),notPre l m=true→¬ l <+: m
 | [],m,h=>by simp [notPre] at h
 | a::l,[],h=>by simp
 | a::l,b::m,h=>by
  simp only [notPre,Bool.or_eq_true,Bool.not_eq_true',beq_eq_false_iff_ne] at h
  rintro ⟨r,hr⟩
  simp only [List.cons_append,List.cons.injEq] at hr
  rcases h with h|h
  ·exact h hr.1
  ·exact Pf l m h ⟨r,hr.2⟩
def refresh (s k i u:Nat) (p:List Nat) (c:List (Nat×Slot)→Rd):Rd:=
 .rd 3000002 fun
  | some ⟨_,.val (.str (.raw none t _))⟩=>.rd t fun
   | some ⟨kt,.val (.addr s' k' q 0 [0])⟩=>if s'=s∧k'=k∧t≠s∧t≠virt i∧t≠u∧t<1000000∧notPre p q=true then c [(t,⟨kt,.val (.addr s (k+1) q 0 [0])⟩)] else c []
   | _=>c []
  | _=>c []
def strN (b:ByteArray):Nat:=b.size
def strI (b:ByteArray) (n:Int):Int:=((b[n.toNat]?).getD 0).toNat
def opRd (tt:Tt) (md:FuncId→List Bool) (i:Nat) (o:Oper):Rd:=
 match o.op with
 | .move x=>rdv x (fin o.dst)
 | .assign x=>rdv x fun v=>match v,o.dst with
  | .ref s k p, some d => if s = d then fin o.dst v else rdn s k p fun T0 n =>
    match p,T0 with
    | [],_=>.rd d fun sd=>.done [(s,⟨k,.val (.ref d (verOf sd+1) [])⟩),(d,⟨verOf sd+1,.own n⟩)]
    | [_],.tup _=>.rd d fun sd=>.done [(d,⟨verOf sd+1,.own n⟩),(s,⟨k,.own (T.set .any p T0)⟩)]
    | _,_=>fin o.dst v
  | v,_=>fin o.dst v
 | .nilCheck x=>rdv x fun v=>match v with
  | .addr s k p _ sub=>if sub.isEmpty then .fail else rdn s k p fun _ _=>fin o.dst v
  | .fptr _=>fin o.dst v
  | _=>.fail
 | .pick c a b=>rdv c fun
  | .bool t=>if t then rdv a (fin o.dst) else rdv b (fin o.dst)
  | _=>.fail
 | .alloc e=>match tyAt tt e with
  | some ie=>finOwn o.dst (.box e ie.zero) []
  | none=>.fail
 | .box e x=>match tyAt tt e with
  | some ie=>rdv x fun v=>take (virt i) v fun v' ups=>.need (v'.size=ie.size∧v'.solid=true)<|match ups with
   | []=>finOwn o.dst (.box e v') []
   | _=>.rd (virt i) fun sv=>finOwn o.dst (.box e v') ((virt i,⟨verOf sv+1,.val .any⟩)::ups)
  | none=>.fail
 | .load t x=>match tyAt tt t with
  | some it=>rdv x fun
   | .addr s k p off sub=>rdn s k p fun _ n=>match n.part sub with
    | some t0=>.need (off=n.offN sub∧t0.size=it.size∧t0.isAgg=it.zero.isAgg) (fin o.dst (T.borrow s k (p++sub) t0))
    | none=>.fail
   | .fptr t0=>.need (t0.size=it.size∧t0.isAgg=it.zero.isAgg) (fin o.dst t0)
   | _=>.fail
  | none=>.fail
 | .store t x y=>match tyAt tt t,o.dst with
  | some it,none=>rdv x fun
   | .addr s k p off sub=>rdv y fun v=>take (virt i) v fun v' ups=>rdn s k p fun T0 n=>match n.part sub with
    | some t0=>.need (off=n.offN sub∧t0.size=it.size∧v'.size=t0.size∧v'.isAgg=t0.isAgg∧v'.solid=true)<|match ups with
     | []=>.done [(s,⟨if v'.scalar&&t0.scalar then k else k+1,.own (T.set v' (p++sub) T0)⟩)]
     | (u,_)::_=>if u=s∨s=virt i then .fail else .rd (virt i) fun sv=>refresh s k i u (p++sub) fun more=>.done (more++(s,⟨k+1,.own (T.set v' (p++sub) T0)⟩)::(virt i,⟨verOf sv+1,.val .any⟩)::ups)
    | none=>.fail
   | _=>.fail
  | _,_=>.fail
 | .fieldAddr t x f=>match tyAt tt t with
  | some ⟨_,_,_,.struct fs⟩=>match fs[f]? with
   | some (_,offf,szf)=>.need (szf≠0)<|rdv x fun
    | .addr s k p off sub=>if sub.isEmpty then .fail else rdn s k p fun _ _=>fin o.dst (.addr s k p (off+offf) (sub++[f]))
    | .fptr (.agg l)=>match l[f]? with
     | some t0=>.need (T.sizeL (l.take f)=offf) (fin o.dst (.fptr t0))
     | none=>.fail
    | _=>.fail
   | none=>.fail
  | _=>.fail
 | .field t x f=>match tyAt tt t with
  | some ⟨_,_,_,.struct fs⟩=>match fs[f]? with
   | some (tf,offf,szf)=>match tyAt tt tf with
    | some itf=>rdv x fun
     | .agg l=>match l[f]? with
      | some t0=>.need (T.sizeL (l.take f)=offf∧t0.size=szf∧t0.isAgg=itf.zero.isAgg) (fin o.dst t0)
      | none=>.fail
     | _=>.fail
    | none=>.fail
   | none=>.fail
  | _=>.fail
 | .indexAddr t x y=>match tyAt tt t with
  | some ⟨_,_,_,.slice e⟩=>match tyAt tt e with
   | some ie=>rdv x fun v=>rdv y fun u=>intRd u fun n=>match v with
    | .ref s k p=>rdn s k p fun _ nd=>match nd with
     | .sl true e' l=>.need (e'=e∧0≤n∧n<l.length) (fin o.dst (.addr s k p (n.toNat*ie.size) [n.toNat]))
     | .win e' kk hh l=>.need (e'=e∧0≤n∧n<((hh-kk:Nat):Int)∧ie.size=1) (fin o.dst (.addr s k p (kk+n.toNat) [kk+n.toNat]))
     | _=>.fail
    | .sl false e' l=>.need (e'=e∧0≤n∧n<l.length) (fin o.dst (.fptr (l.getD n.toNat .any)))
    | .str (.src _ _ l)=>.need (ie.size=1∧0≤n∧n<l.length) (fin o.dst (.fptr (.int .u8 (l.getD n.toNat 0))))
    | .str (.raw a m cp)=>ghost a m cp fun l=>.need (ie.size=1∧0≤n∧n<l.length) (fin o.dst (.fptr (.int .u8 (l.getD n.toNat 0))))
    | _=>.fail
   | none=>.fail
  | _=>.fail
 | .index t x y=>match tyAt tt t with
  | some ⟨_,_,_,.string⟩=>rdv x fun v=>rdv y fun u=>intRd u fun n=>match v with
   | .str (.str b)=>.need (0≤n∧n<(strN b:Int)) (fin o.dst (.int .u8 (strI b n)))
   | _=>.fail
  | _=>.fail
 | .slice t x lo hi none=>match tyAt tt t with
  | some ⟨_,_,_,.slice e⟩=>match tyAt tt e with
   | some _ie=>rdv x fun
    | .sl false e' l=>
     boundRd lo 0 fun a=>boundRd hi l.length fun b=>.need (e'=e∧0≤a∧a≤b∧b≤l.length) (fin o.dst (.sl false e ((l.take b.toNat).drop a.toNat)))
    | .ref s k p=>(match o.dst with
     | some d=>if s=d then .fail else rdn s k p fun T0 nd=>match nd with
      | .sl true e' l => if _ie.kind.isSl then boundRd lo 0 fun a => boundRd hi l.length fun b => .need (e' = e ∧ 0 ≤ a ∧ a ≤ b ∧ b ≤ l.length ∧ a < l.length ∧ _ie.size = 1)
        (.rd d fun sd=>.done [(d,⟨verOf sd+1,.own (.win e a.toNat b.toNat l)⟩),(s,⟨k,.own (T.set .any p T0)⟩)]) else
       if cutB lo hi then boundRd hi l.length fun c=>.need (e'=e∧0≤c∧c≤l.length∧_ie.size=1∧l.all T.scalar=true)
        (.rd d fun sd=>.done [(d,⟨verOf sd+1,.own (.sl true e (l.take c.toNat))⟩),(s,⟨k,.own (T.set .any p T0)⟩)]) else
       boundRd lo 0 fun a=>if hi.isNone then .need (e'=e∧0≤a∧a<l.length∧_ie.size=1) (fin o.dst (.addr s k p a.toNat [])) else boundRd hi l.length fun b=>.need (e'=e∧0≤a∧a≤b∧b≤l.length)
        (.rd d fun sd=>.done [(d,⟨verOf sd,.val (.sl false e (((T.freezeL l).take b.toNat).drop a.toNat))⟩),(s,⟨k,.val T0.freeze⟩)])
      | _=>.fail
     | none=>.fail)
    | _=>.fail
   | none=>.fail
  | _=>.fail
 | .makeSlice t x y=>match tyAt tt t with
  | some ⟨_,_,_,.slice e⟩=>match tyAt tt e with
   | some ie=>rdv x fun v=>rdv y fun u=>match v,u with
    | .int .i64 n,.int .i64 m=>.need (n=m∧0≤n∧n≤1099511627776∧ie.bytes≤64∧ie.size=1∧ie.zero.isAgg=false) (finOwn o.dst (.sl true e (List.replicate n.toNat ie.zero)) [])
    | _,_=>.fail
   | none=>.fail
  | _=>.fail
 | .buildSlice t n parts=>match tyAt tt t with
  | some ⟨_,_,_,.slice e⟩=>match tyAt tt e with
   | some ie => if ie.size = 1 ∧ parts.toList.map (·.1) = List.range n ∧ n ≤ 1000 ∧ ie.zero.isAgg = false ∧ (n ≠ 1 ∨ ie.zero.scalar = true) then
     rdvL (parts.toList.map (·.2)) fun vs=>if vs.all (fun v=>v.pure&&v.refFree&&v.solid && !v.isAgg) then .need (∀ v∈vs,v.size=1) (finOwn o.dst (.sl true e vs) []) else .fail
    else (match n,parts.toList with
     | 1,[(0,x)]=>rdv x fun v=>take (virt i) v fun v' ups=>.need (v'.size=ie.size∧v'.solid=true∧0<ie.size∧ie.size≤1000)<|match ups with
      | []=>finOwn o.dst (.sl true e [v']) []
      | _=>.rd (virt i) fun sv=>finOwn o.dst (.sl true e [v']) ((virt i,⟨verOf sv+1,.val .any⟩)::ups)
     | 0,[]=>finOwn o.dst (.sl true e []) []
     | 2,[(0,x),(1,y)]=>rdv x fun v=>rdv y fun u=>if v.pure&&v.refFree&&v.solid&&(u.pure&&u.refFree&&u.solid) then .need (v.size=ie.size∧u.size=ie.size∧0<ie.size∧ie.size≤1000) (finOwn o.dst (.sl true e [v,u]) []) else .fail
     | _,_=>.fail)
   | none=>.fail
  | _=>.fail
 | .build t parts=>match tyAt tt t with
  | some ⟨_, _, .agg zs, .struct fs⟩ => if fs.all (fun x => x.2.2 != 0) = false then .fail else
    buildRd fs parts.toList zs fun l=>fin o.dst (.agg l)
  | _=>.fail
 | .binOp op t x y _=>rdv x fun v=>rdv y fun u=>binRd (isBoolTy tt t) op v u (fin o.dst)
 | .unOp op _ x=>rdv x fun v=>unRd op v (fin o.dst)
 | .convert s t x=>match tyAt tt s with
  | some _=>match tyAt tt t with
   | some ⟨_,_,_,.int k⟩=>rdv x fun v=>intRd v fun n=>fin o.dst (.int k (k.wrap n))
   | _=>.fail
  | none=>.fail
 | .extract x j=>rdv x fun
  | .tup l=>match l[j]? with
   | some t=>fin o.dst t
   | none=>.fail
  | _=>.fail
 | .makeFunc (.func f) first caps => if first.size = 0 ∧ f < 1000000 then
   rdvL caps.toList fun vs=>fin o.dst (.fn f vs) else if caps.size=0∧first.size≠0 then
   rdvL first.toList fun vs=>fin o.dst (.fn (1000000+f) vs) else .fail
 | .call c=>match c.callee with
  | .builtin b=>builtinRd tt o b c.args.toList c.argTypes.toList i
  | .value x=>rdv x fun
   | .fn f caps=>callRd md o f c.args.toList caps i
   | _=>.fail
  | .invoke ..=>.fail
 | _=>.fail
end
section
structure FR (C:Ctx) (n:Nat) (env:Env) (a:Act) (w:World):Prop where
 defers:a.defers=[]
 size:a.tmps.size=n
 inv:∃ κ V,Inv C env V w κ∧∀ t,t<1000000→V t=a.tmps.getD t undef
class Small (n:Nat):Prop where
 le:n≤1000000
theorem Small.ne {n d:Nat} [h:Small n] (hd:d<n):d≠3000001:=by have:=h.le;omega
def opndOk:Operand→Bool
 | .tmp t=>decide (t<1000000)
 | _=>true
def opOk (n:Nat) (o:Oper):Bool:=
 (match o.dst with|some d=>decide (d<n)|none=>true)&&o.op.operands.all opndOk
def HV (X:Cx) (x:T) (v:Value):Prop:=x.noOwn=true∧∃ s0,VR X s0 x v
section
variable {C:Ctx} {env:Env} {V:Nat→Value} {w:World} {κ:Kap} {a:Act} {AF:FuncId→List T→T→Prop} {U:List (Nat×Slot)} {R:List Nat} {n:Nat}
theorem HV.cells {X:Cx} {x:T} {v:Value} (h:HV X x v):∃ s0 cs,v=mkv x cs∧CR X s0 [] x cs:=
 let ⟨_,s0,cs,h1,h2⟩:=h
 ⟨s0,cs,h1,h2⟩
theorem HV.int {X:Cx} {k:IntKind} {m:Int} {v:Value} (h:HV X (.int k m) v):v=.int k m:=by
 obtain ⟨s0,cs,h1,h2⟩:=h.cells
 simp only [CR] at h2
 subst h2
 simpa [mkv] using h1
theorem HV.bool {X:Cx} {b:Bool} {v:Value} (h:HV X (.bool b) v):v=.bool b:=by
 obtain ⟨s0,cs,h1,h2⟩:=h.cells
 simp only [CR] at h2
 subst h2
 simpa [mkv] using h1
theorem HV.mk_int (X:Cx) (k:IntKind) (m:Int):HV X (.int k m) (.int k m):=⟨rfl,0,[.int k m],rfl,by simp only [CR]⟩
theorem HV.mk_bool (X:Cx) (b:Bool):HV X (.bool b) (.bool b):=⟨rfl,0,[.bool b],rfl,by simp only [CR]⟩
theorem HV.mk_nil (X:Cx):HV X .nil (.slice none 0 0):=⟨rfl,0,[.slice none 0 0],rfl,by simp only [CR]⟩
theorem HV.of_CR {X:Cx} {x:T} {s:Nat} {p:List Nat} {cs:List Value} (hn:x.noOwn=true) (h:CR X s p x cs):HV X x (mkv x cs):=
 ⟨hn,s,cs,rfl,Cy X X s s rfl (fun _ h=>⟨h,rfl⟩) (fun _ _ _ h=>⟨h,fun hn=>⟨hn,fun _ _ h=>h⟩⟩) x p [] cs hn h⟩
theorem HV.of_borrow {s k : Nat} {x : T} {p : List Nat} {cs : List Value} (hk : ∃ y, lk env s = some y ∧ k ≤ y.ver) (hx : CR (cx C env w κ) s p x cs) :
  HV (cx C env w κ) (T.borrow s k p x) (mkv x cs):=by
 rw [Da (Mx s k x p).symm cs]
 exact HV.of_CR (L3 s k x p) (I0 (X:=cx C env w κ) hk x p cs s [] hx)
theorem Afj (X:Cx) {v:Value} {t:T} (h:constT v=some t):HV X t v:=by
 cases v with
 | int k n=>simp [constT] at h;subst h;exact HV.mk_int X k n
 | bool b=>simp [constT] at h;subst h;exact HV.mk_bool X b
 | string s=>simp [constT] at h;subst h;exact ⟨rfl,0,[.string s],rfl,by simp [CR,Con.val,Con.ok]⟩
 | pointer q=>
  cases q with
  | none=>simp [constT] at h;subst h;exact ⟨rfl,0,[.pointer none],rfl,by simp [CR,Con.val,Con.ok]⟩
  | some q=>simp [constT] at h
 | nilFunc=>simp [constT] at h;subst h;exact ⟨rfl,0,[.nilFunc],rfl,by simp [CR,Con.val,Con.ok]⟩
 | slice a l c=>
  cases a with
  | some a=>simp [constT] at h
  | none=>
   cases l with
   | succ l=>simp [constT] at h
   | zero=>
    cases c with
    | succ c=>simp [constT] at h
    | zero=>simp [constT] at h;subst h;exact HV.mk_nil X
 | _=>simp [constT] at h
theorem Au (hI : Inv C env V w κ) (hV : ∀ t, t < 1000000 → V t = a.tmps.getD t undef) {x : Operand} {c : T → Rd} (hx : opndOk x = true) (h : (rdv x c).sat AF env U R) :
  ∃ v R',(c v).sat AF env U R'∧HV (cx C env w κ) v (a.eval x):=by
 cases x with
 | const v=>
  simp only [rdv] at h
  cases hc:constT v with
  | none=>simp [hc,Rd.sat] at h
  | some t=>simp only [hc] at h;exact ⟨t,R,h,Afj _ hc⟩
 | tmp t=>
  have ht:t<1000000:=by simpa [opndOk] using hx
  simp only [rdv,Rd.sat] at h
  obtain ⟨R',h,_⟩:=h
  cases hl:lk env t with
  | none=>simp [hl,Rd.sat] at h
  | some sl=>
   obtain ⟨k,sv⟩:=sl
   cases sv with
   | undef=>simp [hl,Rd.sat] at h
   | val y=>
    simp only [hl] at h
    obtain ⟨h1,h2⟩:=hI.val t k y hl
    refine ⟨y,R',h,h1,t,?_⟩
    rw [show a.eval (.tmp t)=V t from (hV t ht).symm]
    exact h2
   | own y=>
    simp only [hl] at h
    obtain ⟨h1,cs,h2,h3⟩:=hI.own t k y hl
    refine ⟨_,R',h,?_⟩
    rw [show a.eval (.tmp t)=V t from (hV t ht).symm,h2]
    exact HV.of_borrow ⟨_,hl,Nat.le_refl _⟩ h3
 | func f=>
  simp only [rdv] at h
  refine ⟨_,R,h,rfl,0,[.func (.func f) #[] #[]],rfl,?_⟩
  simp only [CR]
  exact ⟨[],by rw [fnVal_nil],by simp only [CRT]⟩
 | global g=>simp [rdv,Rd.sat] at h
theorem Bk {s k : Nat} {p : List Nat} {c : T → T → Rd} (h : (rdn s k p c).sat AF env U R) :
  ∃ T0 nd R',lk env s=some ⟨k,.own T0⟩∧T.get p T0=some nd∧nd.isNode=true∧(c T0 nd).sat AF env U R':=by
 simp only [rdn,Rd.sat] at h
 obtain ⟨R',h,_⟩:=h
 cases hl:lk env s with
 | none=>simp [hl,Rd.sat] at h
 | some sl=>
  obtain ⟨k',sv⟩:=sl
  cases sv with
  | undef=>simp [hl,Rd.sat] at h
  | val y=>simp [hl,Rd.sat] at h
  | own T0=>
   simp only [hl] at h
   by_cases e:k'=k
   ·subst e
    rw [if_pos rfl] at h
    cases hg:T.get p T0 with
    | none=>simp [hg,Rd.sat] at h
    | some nd=>
     simp only [hg] at h
     by_cases hn:nd.isNode=true
     ·rw [if_pos hn] at h
      exact ⟨T0,nd,R',rfl,hg,hn,h⟩
     ·rw [if_neg hn] at h;simp [Rd.sat] at h
   ·rw [if_neg e] at h;simp [Rd.sat] at h
theorem Kg {d:Nat} {v:Value} (hd:d<a.tmps.size) (t:Nat):(a.put (some d) v).tmps.getD t undef=if t=d then v else a.tmps.getD t undef:=by
 simp only [Act.put,Array.getD_eq_getD_getElem?]
 by_cases e:t=d
 ·subst e;simp [hd]
 ·simp [e,Array.getElem?_setIfInBounds_ne (fun h=>e h.symm)]
theorem Kv (d:Option Nat) (v:Value):(a.put d v).tmps.size=a.tmps.size:=by cases d <;> simp [Act.put]
theorem Hi (d:Option Nat) (v:Value):(a.put d v).defers=a.defers:=by cases d <;> simp [Act.put]
theorem Ay (hd : a.defers = []) (hn : a.tmps.size = n) (hI : Inv C env V w κ) (hV : ∀ t, t < 1000000 → V t = a.tmps.getD t undef)
  {d:Option Nat} (hdn:∀ t:Nat,d=some t→t<n) {x:T} {v:Value} (hx:HV (cx C env w κ) x v) (h:(fin d x).sat AF env U R):FR C n (U++env) (a.put d v) w:=by
 cases d with
 | none=>
  simp only [fin,Rd.sat] at h
  obtain ⟨rfl,_⟩:=h
  exact ⟨hd,hn,κ,V,hI,hV⟩
 | some d=>
  simp only [fin,Rd.sat] at h
  obtain ⟨R',⟨rfl,_⟩,_⟩:=h
  obtain ⟨h1,s0,h2⟩:=hx
  refine ⟨by rw [Hi];exact hd,by rw [Kv];exact hn,κ,upd V d v,hI.bind d _ x v (Nat.le_refl _) h1 s0 h2,fun t ht=>?_⟩
  rw [Kg (by rw [hn];exact hdn d rfl)]
  by_cases e:t=d
  ·simp [e,upd]
  ·rw [Al _ _ _ _ e,if_neg e];exact hV t ht
theorem B6 {env' : Env} {w' : World} {κ' : Kap} {V' : Nat → Value} {d : Nat} {v : Value} (hd : a.defers = []) (hn : a.tmps.size = n) (hdn : d < n)
  (hI:Inv C env' V' w' κ') (hV:∀ t,t<1000000→V' t=if t=d then v else a.tmps.getD t undef):FR C n env' (a.put (some d) v) w':=
 ⟨by rw [Hi];exact hd,by rw [Kv];exact hn,κ',V',hI,fun t ht=>by rw [Kg (by rw [hn];exact hdn)];exact hV t ht⟩
theorem Ah {o:Oper} {P:Program} {K:Act→World→Prop} {Q:Exit→Act→World→Prop} {v:Value} {w':World} (h:(execOp a.eval o).run P w=.ok (.value v) w') (hk:K (a.put o.dst v) w'):o.wp P a w K Q:=by
 unfold Oper.wp
 rw [h]
 exact hk
theorem S9 {o:Oper} {P:Program} {K:Act→World→Prop} {Q:Exit→Act→World→Prop} {w':World} (h:(execOp a.eval o).run P w=.ok .skip w') (hk:K (a.put o.dst undef) w'):o.wp P a w K Q:=by
 unfold Oper.wp
 rw [h]
 exact hk
theorem Dd {tt:Tt} (hP:TtOk C.P tt) {e:TypeId} {i:Ty} (h:tyAt tt e=some i):C.P.cellsOf e=i.size:=by
 obtain ⟨h1,_⟩:=hP e i h
 unfold Program.cellsOf
 cases hi:C.P.info? e with
 | none=>simp [hi] at h1
 | some ti=>simp [hi] at h1 ⊢;exact h1.2.1
theorem Dn {P:Program} {tt:Tt} (hP:TtOk P tt) {e:TypeId} {i:Ty} (h:tyAt tt e=some i):∃ ti,P.info? e=some ti∧ti.zero=some (mkv i.zero i.zero.zc)∧ti.size=i.size∧ti.bytes=i.bytes:=by
 obtain ⟨h1,_⟩:=hP e i h
 cases hi:P.info? e with
 | none=>simp [hi] at h1
 | some ti=>simp [hi] at h1;exact ⟨ti,rfl,h1.1,h1.2.1,h1.2.2⟩
end
end
section
mutual
theorem Ba:∀ (t:T),t.pure=true→t.noOwn=true
 | .int ..,_=>rfl
 | .bool ..,_=>rfl
 | .str ..,_=>rfl
 | .any,_=>rfl
 | .nil,_=>rfl
 | .sl true _ _,h=>by simp [T.pure] at h
 | .sl false _ _,_=>rfl
 | .win ..,h=>by simp [T.pure] at h
 | .box ..,h=>by simp [T.pure] at h
 | .fptr _,_=>rfl
 | .agg l,h=>by simpa [T.noOwn] using B9 l (by simpa [T.pure] using h)
 | .tup l,h=>by simpa [T.noOwn] using B9 l (by simpa [T.pure] using h)
 | .fn _ l,h=>by simpa [T.noOwn] using B9 l (by simpa [T.pure] using h)
 | .ref ..,h=>by simp [T.pure] at h
 | .addr ..,h=>by simp [T.pure] at h
theorem B9:∀ (l:List T),T.pureL l=true→T.noOwnL l=true
 | [],_=>rfl
 | t::l,h=>by
  simp only [T.pureL,Bool.and_eq_true] at h
  simp [T.noOwnL,Ba t h.1,B9 l h.2]
end
section
variable {C:Ctx} {env:Env} {V:Nat→Value} {w:World} {κ:Kap} {a:Act} {AF:FuncId→List T→T→Prop} {U:List (Nat×Slot)} {R:List Nat} {n:Nat}
variable {tt:Tt} {P:Program}
theorem Bu (b off j:Nat):(⟨b,off,none⟩:Addr).add j=⟨b,off+j,none⟩:=by
 unfold Addr.add;split <;> simp_all
theorem Fw (hP : TtOk P tt) {t : TypeId} {sz by_ : Nat} {z : T} {fs : List (TypeId × Nat × Nat)} (h : tyAt tt t = some ⟨sz, by_, z, .struct fs⟩) :
  ∃ fields,P.underlying t=some (.struct fields)∧fields.toList.map (fun f=>(f.type,f.offset,P.cellsOf f.type))=fs∧z.isAgg=true:=by
 obtain ⟨_,_,_,h1,h2⟩:=hP t _ h
 cases hu:P.underlying t with
 | none=>simp [hu] at h1
 | some d=>
  cases d with
  | struct fields=>simp [hu] at h1;exact ⟨fields,rfl,h1,h2⟩
  | _=>simp [hu] at h1
theorem Rn (hP:TtOk P tt) {t:TypeId} {i:Ty} (h:tyAt tt t=some i) (w:World):(isAgg t).run P w=.ok i.zero.isAgg w:=by
 obtain ⟨_,_,_,h1⟩:=hP t i h
 obtain ⟨sz,by_,z,k⟩:=i
 cases k with
 | plain=>
  obtain ⟨h1,h2⟩:=h1
  cases hu:P.underlying t with
  | none=>simp [hu] at h1
  | some d=>
   simp only [h2]
   simp only [isAgg,Sem.run_bind,run_underlying hu,Result.andThen_ok]
   cases d <;> simp [hu] at h1 <;> rfl
 | bool=>
  obtain ⟨h1,h2⟩:=h1
  simp only [h2]
  simp only [isAgg,Sem.run_bind,run_underlying h1,Result.andThen_ok]
  rfl
 | string=>
  obtain ⟨h1,h2⟩:=h1
  simp only [h2]
  simp only [isAgg,Sem.run_bind,run_underlying h1,Result.andThen_ok]
  rfl
 | int k=>
  obtain ⟨h1,h2⟩:=h1
  simp only [h2]
  simp only [isAgg,Sem.run_bind,run_underlying h1,Result.andThen_ok]
  rfl
 | slice e=>
  obtain ⟨h1,h2⟩:=h1
  simp only [h2]
  simp only [isAgg,Sem.run_bind,run_underlying h1,Result.andThen_ok]
  rfl
 | struct fs=>
  obtain ⟨fields,hu,_,h2⟩:=Fw hP h
  simp only [h2]
  simp only [isAgg,Sem.run_bind,run_underlying hu,Result.andThen_ok]
  rfl
theorem C8 (hP:TtOk P tt) {t:TypeId} {i:Ty} (h:tyAt tt t=some i) (w:World):(sizeOf t).run P w=.ok i.size w:=by
 obtain ⟨ti,h1,_,h3,_⟩:=Dn hP h
 simp [sizeOf,typeInfo,h1,h3]
theorem Iq {t:T} (h:t.isAgg=false):t.size=1:=by cases t <;> simp_all [T.isAgg,T.size]
theorem J0 (hP : TtOk P tt) {t : TypeId} {it : Ty} (ht : tyAt tt t = some it) {b off : Nat} {cur : Array Value} {e : TypeId} {fz : Nat × Nat} (hb : w.heap[b]? = some (.cells cur e fz))
  (t0:T) (hs:t0.size=it.size) (ha:t0.isAgg=it.zero.isAgg) (hle:off+t0.size≤cur.size) :
  (Instr.loadAt t (.pointer (some ⟨b,off,none⟩))).run P w=.ok (mkv t0 ((cur.toList.drop off).take t0.size)) w:=by
 have hcell:∀ j,w.cell? ⟨b,off+j,none⟩=cur[off+j]?:=fun j=>cell_of_row w b (off+j) cur e fz hb
 simp only [Instr.loadAt,Instr.sureAddr,Sem.run_bind,Sem.run_pure,Result.andThen_ok,loadVar,Rn hP ht]
 cases hag:it.zero.isAgg with
 | false=>
  rw [hag] at ha
  have h1:=Iq ha
  have h0:=hcell 0
  simp only [Nat.add_zero] at h0
  rw [h1] at hle
  have hlt:off<cur.size:=by omega
  simp only [Bool.false_eq_true,if_false]
  have hm:mkv t0 ((cur.toList.drop off).take t0.size)=cur[off]:=by
   rw [h1]
   have:(cur.toList.drop off).take 1=[cur[off]]:=by
    rw [List.drop_eq_getElem_cons (by simpa using hlt)];simp
   rw [this]
   cases t0 <;> simp_all [mkv,T.isAgg]
  rw [hm]
  have hc:w.cell? ⟨b,off,none⟩=some cur[off]:=by rw [h0];simp [hlt]
  simp [hc]
 | true=>
  rw [hag] at ha
  simp only [if_true,Sem.run_bind,C8 hP ht,Result.andThen_ok]
  have hl:=run_loadCells_list (P:=P) w ⟨b,off,none⟩ ((cur.toList.drop off).take t0.size) (fun j v hj=>by
   rw [Bu,hcell j]
   rw [List.getElem?_take] at hj
   split at hj
   ·rw [List.getElem?_drop] at hj;simpa using hj
   ·cases hj)
  have hlen:((cur.toList.drop off).take t0.size).length=it.size:=by simp;omega
  rw [hlen] at hl
  rw [hl]
  simp only [Result.andThen_ok,Sem.run_pure]
  cases t0 <;> simp_all [mkv,T.isAgg]
theorem Ai0 (hF : FR C n env a w) {x : Operand} {o : Oper} (ho : o.op = .move x) (hok : opOk n o = true) (h : (rdv x (fin o.dst)).sat AF env U R) {Q : Exit → Act → World → Prop} :
  o.wp C.P a w (fun a' w'=>FR C n (U++env) a' w') Q:=by
 obtain ⟨hd,hn,κ,V,hI,hV⟩:=hF
 simp only [opOk,ho,Op.operands,Bool.and_eq_true] at hok
 obtain ⟨v,R',h1,hv⟩:=Au hI hV (by simpa using hok.2) h
 refine Ah (v:=a.eval x) (w':=w) ?_ (Ay hd hn hI hV (fun t ht=>by have:=hok.1;simp [ht] at this;exact this) hv h1)
 simp [execOp,ho]
theorem Am {o:Oper} (hok:opOk n o=true):∀ t:Nat,o.dst=some t→t<n:=fun t ht=>by
 simp only [opOk,Bool.and_eq_true] at hok
 have:=hok.1
 simp [ht] at this
 exact this
theorem Ap {o:Oper} (hok:opOk n o=true) {x:Operand} (hx:x∈o.op.operands):opndOk x=true:=by
 simp only [opOk,Bool.and_eq_true,Array.all_eq_true_iff_forall_mem] at hok
 exact hok.2 x hx
theorem Aj6 (hF : FR C n env a w) {x y z : Operand} {o : Oper} (ho : o.op = .pick x y z) (hok : opOk n o = true)
  (h:(rdv x fun|.bool t=>if t then rdv y (fin o.dst) else rdv z (fin o.dst)|_=>.fail).sat AF env U R) {Q:Exit→Act→World→Prop} :
  o.wp C.P a w (fun a' w'=>FR C n (U++env) a' w') Q:=by
 obtain ⟨hd,hn,κ,V,hI,hV⟩:=hF
 obtain ⟨v,R',h1,hv⟩:=Au hI hV (Ap hok (by simp [ho,Op.operands])) h
 cases v <;> try (simp [Rd.sat] at h1;done)
 rename_i t
 have hb:=hv.bool
 cases t with
 | true=>
  simp only [if_true] at h1
  obtain ⟨u,R'',h2,hu⟩:=Au hI hV (Ap hok (by simp [ho,Op.operands])) h1
  refine Ah (v:=a.eval y) (w':=w) ?_ (Ay hd hn hI hV (Am hok) hu h2)
  simp [execOp,ho,hb,asBool]
 | false=>
  simp only [Bool.false_eq_true,if_false] at h1
  obtain ⟨u,R'',h2,hu⟩:=Au hI hV (Ap hok (by simp [ho,Op.operands])) h1
  refine Ah (v:=a.eval z) (w':=w) ?_ (Ay hd hn hI hV (Am hok) hu h2)
  simp [execOp,ho,hb,asBool]
theorem HV.addr_cells {X:Cx} {s k off:Nat} {p sub:List Nat} {v:Value} (h:HV X (.addr s k p off sub) v):∃ s0,CR X s0 [] (.addr s k p off sub) [v]:=by
 obtain ⟨s0,cs,h1,h2⟩:=h.cells
 have:=Bg _ _ _ _ _ h2
 match cs,this with
 | [u],_=>simp [mkv] at h1;subst h1;exact ⟨s0,h2⟩
theorem HV.ref_cells {X:Cx} {s k:Nat} {p:List Nat} {v:Value} (h:HV X (.ref s k p) v):∃ s0,CR X s0 [] (.ref s k p) [v]:=by
 obtain ⟨s0,cs,h1,h2⟩:=h.cells
 have:=Bg _ _ _ _ _ h2
 match cs,this with
 | [u],_=>simp [mkv] at h1;subst h1;exact ⟨s0,h2⟩
theorem Aj4 (hP : TtOk C.P tt) (hF : FR C n env a w) {t : TypeId} {it : Ty} (hit : tyAt tt t = some it) {x : Operand} {o : Oper} (ho : o.op = .load t x) (hok : opOk n o = true)
  (h:(rdv x fun
   | .addr s k p off sub=>rdn s k p fun _ n=>match n.part sub with
    | some t0=>.need (off=n.offN sub∧t0.size=it.size∧t0.isAgg=it.zero.isAgg) (fin o.dst (T.borrow s k (p++sub) t0))
    | none=>.fail
   | .fptr t0=>.need (t0.size=it.size∧t0.isAgg=it.zero.isAgg) (fin o.dst t0)
   | _=>.fail).sat AF env U R) {Q:Exit→Act→World→Prop} :
  o.wp C.P a w (fun a' w'=>FR C n (U++env) a' w') Q:=by
 obtain ⟨hd,hn,κ,V,hI,hV⟩:=hF
 obtain ⟨v,R',h1,hv⟩:=Au hI hV (Ap hok (by simp [ho,Op.operands])) h
 cases v <;> try (simp [Rd.sat] at h1;done)
 case addr s k p off sub=>
  obtain ⟨T0,nd,R'',hs,hg,hnn,h2⟩:=Bk h1
  cases hp:nd.part sub with
  | none=>simp [hp,Rd.sat] at h2
  | some t0=>
   simp only [hp,Rd.sat] at h2
   obtain ⟨⟨ho1,ho2,ho3⟩,h3⟩:=h2
   obtain ⟨s0,hc⟩:=hv.addr_cells
   obtain ⟨b,cap,cur,e1,e2,e3,e4⟩:=hI.addr_eq hs hg hnn hc
   rw [Hv (Qw hp)] at e1
   obtain ⟨b2,cap2,cur2,f1,f2,f3,f4,f5,_⟩:=G4 (X':=cx C env w κ) hnn hp e2
   have hb2:b2=b:=hI.inj b2 b s p _ _ f3 e4
   subst hb2
   have hcur:cur2=cur:=by
    have:w.heap[b2]? = some (.cells cur2 nd.elem (0,0)):=f2
    rw [e3] at this;simp at this;exact this.symm
   subst hcur
   subst ho1
   simp at e1
   refine Ah (v:=mkv t0 ((cur2.toList.drop (nd.offN sub)).take t0.size)) (w':=w) ?_
    (Ay hd hn hI hV (Am hok) (HV.of_borrow ⟨_,hs,Nat.le_refl _⟩ f5) h3)
   simp [execOp,ho,e1,J0 hP hit e3 t0 ho2 ho3 f4]
 case fptr t0=>
  simp only [Rd.sat] at h1
  obtain ⟨⟨ho2,ho3⟩,h3⟩:=h1
  obtain ⟨s0,cs,e1,e2⟩:=hv.cells
  simp only [CR] at e2
  obtain ⟨b,off,cur,e,fz,rfl,hFb,hb,hle,hpure,hC⟩:=e2
  simp [mkv] at e1
  have hno:t0.noOwn=true:=Ba t0 hpure
  refine Ah (v:=mkv t0 ((cur.toList.drop off).take t0.size)) (w':=w) ?_ (Ay hd hn hI hV (Am hok) (HV.of_CR hno hC) h3)
  simp [execOp,ho,e1,J0 (w:=w) hP hit hb t0 ho2 ho3 hle]
theorem Mr {fields : Array Field} {P : Program} {fs : List (TypeId × Nat × Nat)} {f : Nat} {x : TypeId × Nat × Nat} (h : fields.toList.map (fun f => (f.type, f.offset, P.cellsOf f.type)) = fs) (hf : fs[f]? = some x) :
  ∃ fd,fields[f]? = some fd∧fd.type=x.1∧fd.offset=x.2.1∧P.cellsOf fd.type=x.2.2:=by
 subst h
 rw [List.getElem?_map] at hf
 cases hx:fields.toList[f]? with
 | none=>simp [hx] at hf
 | some fd=>
  simp [hx] at hf
  subst hf
  exact ⟨fd,by simpa using hx,rfl,rfl,rfl⟩
theorem Ny {t:TypeId} (h:P.cellsOf t≠0) (w:World):(sizeOf t).run P w=.ok (P.cellsOf t) w:=by
 unfold Program.cellsOf at h ⊢
 cases hi:P.info? t with
 | none=>simp [hi] at h
 | some ti=>simp [sizeOf,typeInfo,hi]
theorem S7 (hP : TtOk C.P tt) (hF : FR C n env a w) {t : TypeId} {sz by_ : Nat} {z : T} {fs : List (TypeId × Nat × Nat)} (hit : tyAt tt t = some ⟨sz, by_, z, .struct fs⟩) {x : Operand} {f : Nat}
  {tf:TypeId} {offf szf:Nat} (hf:fs[f]? = some (tf,offf,szf)) {o:Oper} (ho:o.op=.fieldAddr t x f) (hok:opOk n o=true)
  (h : (Rd.need (szf ≠ 0) <| rdv x fun
    | .addr s k p off sub=>if sub.isEmpty then .fail else rdn s k p fun _ _=>fin o.dst (.addr s k p (off+offf) (sub++[f]))
    | .fptr (.agg l)=>match l[f]? with
     | some t0=>.need (T.sizeL (l.take f)=offf) (fin o.dst (.fptr t0))
     | none=>.fail
    | _=>.fail).sat AF env U R) {Q:Exit→Act→World→Prop} :
  o.wp C.P a w (fun a' w'=>FR C n (U++env) a' w') Q:=by
 obtain ⟨hd,hn,κ,V,hI,hV⟩:=hF
 simp only [Rd.sat] at h
 obtain ⟨hsz,h⟩:=h
 obtain ⟨fields,hu,hfs,_⟩:=Fw hP hit
 obtain ⟨fd,g1,g2,g3,g4⟩:=Mr hfs hf
 have hrun:∀ (b off:Nat),(Instr.fieldAt t (.pointer (some ⟨b,off,none⟩)) f).run C.P w=.ok (.pointer (some ⟨b,off+offf,none⟩)) w:=fun b off=>by
  have hs':C.P.cellsOf fd.type≠0:=by rw [g4];exact hsz
  have hi0:¬ (C.P.cellsOf fd.type=0):=hs'
  simp only [Instr.fieldAt,Sem.run_bind,run_underlying hu,Result.andThen_ok,g1,Instr.sureAddr,Sem.run_pure,fieldPlace,Ny hs',hi0,if_false,Bu,g3]
 obtain ⟨v,R',h1,hv⟩:=Au hI hV (Ap hok (by simp [ho,Op.operands])) h
 cases v <;> try (simp [Rd.sat] at h1;done)
 case addr s k p off sub=>
  simp only at h1
  split at h1
  ·simp [Rd.sat] at h1
  rename_i hse
  have hsub:sub≠[]:=fun e=>hse (by rw [e];rfl)
  obtain ⟨T0,nd,R'',hs,hg,hnn,h2⟩:=Bk h1
  obtain ⟨s0,hc⟩:=hv.addr_cells
  obtain ⟨b,cap,cur,e1,e2,e3,e4⟩:=hI.addr_eq hs hg hnn hc
  rw [Hv hsub] at e1
  simp at e1
  refine Ah (v:=.pointer (some ⟨b,off+offf,none⟩)) (w':=w) (by simp [execOp,ho,e1,hrun]) (Ay hd hn hI hV (Am hok) ⟨rfl,0,[.pointer (some ⟨b,off+offf,none⟩)],rfl,?_⟩ h2)
  simp only [CR]
  exact ⟨_,rfl,⟨_,hs,Nat.le_refl _⟩,fun _=>⟨b,_,e4,by rw [Hv (by simp)]⟩⟩
 case fptr t0=>
  cases t0 <;> try (simp [Rd.sat] at h1;done)
  rename_i l
  cases hl:l[f]? with
  | none=>simp [hl,Rd.sat] at h1
  | some t0=>
   simp only [hl,Rd.sat] at h1
   obtain ⟨hoff,h3⟩:=h1
   obtain ⟨s0,cs,e1,e2⟩:=hv.cells
   simp only [CR] at e2
   obtain ⟨b,off,cur,e,fz,rfl,hFb,hb,hle,hpure,hC⟩:=e2
   simp [mkv] at e1
   have h4:=Fe l f 0 _ t0 hl hC
   have h5:=Du l f t0 hl
   simp only [T.size] at hle h4
   refine Ah (v:=.pointer (some ⟨b,off+offf,none⟩)) (w':=w) (by simp [execOp,ho,e1,hrun]) (Ay hd hn hI hV (Am hok) ⟨rfl,0,[.pointer (some ⟨b,off+offf,none⟩)],rfl,?_⟩ h3)
   simp only [CR]
   have hp0:t0.pure=true:=by
    simp only [T.pure] at hpure
    exact (Dc l).1 hpure t0 (List.mem_of_getElem? hl)
   refine ⟨b,off+offf,cur,e,fz,rfl,hFb,hb,by omega,hp0,?_⟩
   rw [hoff] at h4 h5
   rw [List.drop_take,List.drop_drop,List.take_take,show min t0.size (T.sizeL l-offf)=t0.size by omega] at h4
   exact Av _ (cx C env w κ) s0 0 rfl (fun _ h=>⟨h,rfl⟩) t0 _ [] _ hp0 h4
end
end
section
section
variable {C:Ctx} {env:Env} {V:Nat→Value} {w:World} {κ:Kap} {a:Act} {AF:FuncId→List T→T→Prop} {U:List (Nat×Slot)} {R:List Nat} {n:Nat}
variable {tt:Tt} {P:Program}
theorem Age {t:T} (h:t.isAgg=false) (c:Value) (l:List Value):mkv t ((c::l).take 1)=c:=by
 cases t <;> simp_all [mkv,T.isAgg]
theorem I3 {v:T} {c:Int→Rd} (h:(intRd v c).sat AF env U R):∃ k m,v=.int k m∧(c m).sat AF env U R:=by
 cases v <;> try (simp [intRd,Rd.sat] at h;done)
 rename_i k m
 exact ⟨k,m,rfl,h⟩
theorem A8 (hP:TtOk P tt) {t:TypeId} {sz by_:Nat} {z:T} {e:TypeId} (h:tyAt tt t=some ⟨sz,by_,z,.slice e⟩):P.underlying t=some (.slice e):=(hP t _ h).2.2.2.1
theorem Aed (hP:TtOk P tt) {t:TypeId} {sz by_:Nat} {z:T} {k:IntKind} (h:tyAt tt t=some ⟨sz,by_,z,.int k⟩):P.underlying t=some (.int k):=(hP t _ h).2.2.2.1
theorem Agj (hP : TtOk C.P tt) (hF : FR C n env a w) {t : TypeId} {sz by_ : Nat} {z : T} {fs : List (TypeId × Nat × Nat)} (hit : tyAt tt t = some ⟨sz, by_, z, .struct fs⟩) {x : Operand} {f : Nat}
  {tf:TypeId} {offf szf:Nat} (hf:fs[f]? = some (tf,offf,szf)) {itf:Ty} (hitf:tyAt tt tf=some itf) {o:Oper} (ho:o.op=.field t x f) (hok:opOk n o=true)
  (h : (rdv x fun
     | .agg l=>match l[f]? with
      | some t0=>.need (T.sizeL (l.take f)=offf∧t0.size=szf∧t0.isAgg=itf.zero.isAgg) (fin o.dst t0)
      | none=>.fail
     | _=>.fail).sat AF env U R) {Q:Exit→Act→World→Prop} :
  o.wp C.P a w (fun a' w'=>FR C n (U++env) a' w') Q:=by
 obtain ⟨hd,hn,κ,V,hI,hV⟩:=hF
 obtain ⟨fields,hu,hfs,_⟩:=Fw hP hit
 obtain ⟨fd,g1,g2,g3,g4⟩:=Mr hfs hf
 simp only at g2 g3 g4
 obtain ⟨v,R',h1,hv⟩:=Au hI hV (Ap hok (by simp [ho,Op.operands])) h
 cases v <;> try (simp [Rd.sat] at h1;done)
 rename_i l
 cases hl:l[f]? with
 | none=>simp [hl,Rd.sat] at h1
 | some t0=>
  simp only [hl,Rd.sat] at h1
  obtain ⟨⟨ho1,ho2,ho3⟩,h3⟩:=h1
  have hno:=hv.1
  obtain ⟨s0,cs,e1,e2⟩:=hv.cells
  simp only [CR] at e2
  have h4:=Fe l f 0 cs t0 hl e2
  have h5:=Du l f t0 hl
  have h6:=D4 _ _ _ _ _ _ e2
  simp only [T.noOwn] at hno
  have hno0:=(Fv l).1 hno t0 (List.mem_of_getElem? hl)
  refine Ah (v:=mkv t0 ((cs.drop (T.sizeL (l.take f))).take t0.size)) (w':=w) ?_ (Ay hd hn hI hV (Am hok) (HV.of_CR hno0 h4) h3)
  simp only [mkv] at e1
  have hsz:itf.size=szf:=by rw [← Dd hP hitf,← g2,g4]
  have hpart:(part fd.type cs.toArray fd.offset).run C.P w=.ok (mkv t0 ((cs.drop (T.sizeL (l.take f))).take t0.size)) w:=by
   rw [g2]
   simp only [part,Sem.run_bind,Rn hP hitf,Result.andThen_ok]
   cases hag:itf.zero.isAgg with
   | true=>
    rw [hag] at ho3
    simp only [if_true,Sem.run_bind,C8 hP hitf,Result.andThen_ok,Sem.run_pure]
    cases t0 <;> simp [T.isAgg] at ho3
    simp only [mkv]
    congr 2
    rw [g3,ho1,hsz,ho2]
    simp [List.extract_toArray]
   | false=>
    rw [hag] at ho3
    have h1:=Iq ho3
    simp only [Bool.false_eq_true,if_false]
    have hlt:T.sizeL (l.take f)<cs.length:=by omega
    have hx:cs.toArray[fd.offset]? = some cs[T.sizeL (l.take f)]:=by
     rw [g3,← ho1];simp [hlt]
    simp only [hx,Sem.run_pure]
    have hm:mkv t0 ((cs.drop (T.sizeL (l.take f))).take t0.size)=cs[T.sizeL (l.take f)]:=by
     rw [h1,List.drop_eq_getElem_cons hlt]
     exact Age ho3 _ _
    rw [hm]
  simp only [execOp,ho,e1,Sem.run_bind,Instr.field,run_underlying hu,Result.andThen_ok,g1,asAgg,Sem.run_pure,hpart]
theorem Xb (hF : FR C n env a w) {x : Operand} {o : Oper} (ho : o.op = .nilCheck x) (hok : opOk n o = true)
  (h:(rdv x fun v=>match v with
  | .addr s k p _ sub=>if sub.isEmpty then .fail else rdn s k p fun _ _=>fin o.dst v
  | .fptr _=>fin o.dst v
  | _=>.fail).sat AF env U R) {Q:Exit→Act→World→Prop} :
  o.wp C.P a w (fun a' w'=>FR C n (U++env) a' w') Q:=by
 obtain ⟨hd,hn,κ,V,hI,hV⟩:=hF
 obtain ⟨v,R',h1,hv⟩:=Au hI hV (Ap hok (by simp [ho,Op.operands])) h
 have key:∀ q R'',a.eval x=.pointer (some q)→(fin o.dst v).sat AF env U R''→o.wp C.P a w (fun a' w'=>FR C n (U++env) a' w') Q:=fun q R'' hq h2=>
  Ah (v:=a.eval x) (w':=w) (by simp only [execOp,ho,hq,Sem.run_pure]) (Ay hd hn hI hV (Am hok) hv h2)
 cases v <;> try (simp [Rd.sat] at h1;done)
 case addr s k p off sub=>
  simp only at h1
  split at h1
  ·simp [Rd.sat] at h1
  ·rename_i hsub
   obtain ⟨T0,nd,R'',hs,hg,hnd,h2⟩:=Bk h1
   obtain ⟨s0,hc⟩:=hv.addr_cells
   obtain ⟨b,cap,cur,e1,_⟩:=hI.addr_eq hs hg hnd hc
   simp only [List.cons.injEq,and_true] at e1
   rw [Hv (by simpa using hsub)] at e1
   exact key _ _ e1 h2
 case fptr t=>
  obtain ⟨s0,cs,e1,e2⟩:=hv.cells
  simp only [CR] at e2
  obtain ⟨b,off,cur,e,fz,rfl,_⟩:=e2
  exact key _ _ e1 h1
theorem R8 (hI : Inv C env V w κ) {ad : Option Addr} {m cp : Nat} {c : List Int → Rd} (h : (ghost ad m cp c).sat AF env U R) :
  ∃ l R',(c l).sat AF env U R'∧l.length=m∧Con.ok (cx C env w κ) (.src ad cp l):=by
 simp only [ghost,Rd.sat] at h
 obtain ⟨R',h1,_⟩:=h
 split at h1
 ·rename_i k a' cp' l hl
  simp only [Rd.sat] at h1
  obtain ⟨⟨rfl,rfl,h2⟩,h3⟩:=h1
  obtain ⟨_,cs,_,e2⟩:=hI.val _ _ _ hl
  simp only [CR] at e2
  exact ⟨l,R',h3,h2,e2.2⟩
 ·simp [Rd.sat] at h1
theorem HV.str {X:Cx} {b:Con} {v:Value} (h:HV X (.str b) v):v=b.val∧b.ok X:=by
 obtain ⟨s0,cs,h1,h2⟩:=h.cells
 simp only [CR] at h2
 obtain ⟨rfl,h3⟩:=h2
 exact ⟨by simpa [mkv] using h1,h3⟩
theorem Aku {X : Cx} {ad : Option Addr} {cp : Nat} {l : List Int} (h : Con.ok X (.src ad cp l)) {m : Nat} (hm : m < l.length) (s : Nat) :
  ∃ b off,ad=some ⟨b,off,none⟩∧CR X s [] (.fptr (.int .u8 (l.getD m 0))) [.pointer (some ⟨b,off+m,none⟩)]:=by
 obtain ⟨_,_,h3⟩:=h
 obtain ⟨b,off,rfl,hF,cur,e,fz,hb,h4,h5⟩:=h3 (by intro e;subst e;simp at hm)
 refine ⟨b,off,rfl,?_⟩
 simp only [CR,T.size]
 refine ⟨b,off+m,cur,e,fz,rfl,hF,hb,by omega,rfl,?_⟩
 have hv:=h5 m (l.getD m 0) (by simp [List.getD_eq_getElem?_getD,hm])
 obtain ⟨hlt,hx⟩:=Array.getElem?_eq_some_iff.1 hv
 rw [List.drop_eq_getElem_cons (by simpa using hlt)]
 simp [hx]
theorem Th (hP : TtOk C.P tt) (hF : FR C n env a w) {t : TypeId} {sz by_ : Nat} {z : T} {e : TypeId} (hit : tyAt tt t = some ⟨sz, by_, z, .slice e⟩) {ie : Ty} (hie : tyAt tt e = some ie)
  {x y:Operand} {o:Oper} (ho:o.op=.indexAddr t x y) (hok:opOk n o=true)
  (h : (rdv x fun v => rdv y fun u => intRd u fun n => match v with
    | .ref s k p=>rdn s k p fun _ nd=>match nd with
     | .sl true e' l=>.need (e'=e∧0≤n∧n<l.length) (fin o.dst (.addr s k p (n.toNat*ie.size) [n.toNat]))
     | .win e' kk hh l=>.need (e'=e∧0≤n∧n<((hh-kk:Nat):Int)∧ie.size=1) (fin o.dst (.addr s k p (kk+n.toNat) [kk+n.toNat]))
     | _=>.fail
    | .sl false e' l=>.need (e'=e∧0≤n∧n<l.length) (fin o.dst (.fptr (l.getD n.toNat .any)))
    | .str (.src _ _ l)=>.need (ie.size=1∧0≤n∧n<l.length) (fin o.dst (.fptr (.int .u8 (l.getD n.toNat 0))))
    | .str (.raw a m cp)=>ghost a m cp fun l=>.need (ie.size=1∧0≤n∧n<l.length) (fin o.dst (.fptr (.int .u8 (l.getD n.toNat 0))))
    | _=>.fail).sat AF env U R) {Q:Exit→Act→World→Prop} :
  o.wp C.P a w (fun a' w'=>FR C n (U++env) a' w') Q:=by
 obtain ⟨hd,hn,κ,V,hI,hV⟩:=hF
 have hu:=A8 hP hit
 obtain ⟨v,R',h1,hv⟩:=Au hI hV (Ap hok (by simp [ho,Op.operands])) h
 obtain ⟨u,R'',h2,hu2⟩:=Au hI hV (Ap hok (by simp [ho,Op.operands])) h1
 obtain ⟨k0,m,rfl,h3⟩:=I3 h2
 have hy:=hu2.int
 have hrun:∀ (b off len cap:Nat),0≤m→m<len→(Instr.indexAt t (.slice (some ⟨b,off,none⟩) len cap) (.int k0 m)).run C.P w=.ok (.pointer (some ⟨b,off+m.toNat*ie.size,none⟩)) w:=by
  intro b off len cap hm0 hm1
  simp only [Instr.indexAt,asIntOf,Sem.run_bind,Sem.run_pure,Result.andThen_ok,run_underlying hu]
  rw [if_pos ⟨hm0,hm1⟩]
  simp only [Sem.run_bind,C8 hP hie,Result.andThen_ok,Sem.run_pure,Bu]
 cases v <;> try (simp [Rd.sat] at h3;done)
 case str c=>
  have key : ∀ (ad : Option Addr) (cp : Nat) (l : List Int) (R' : List Nat), a.eval x = .slice ad l.length cp → Con.ok (cx C env w κ) (.src ad cp l) → (Rd.need (ie.size = 1 ∧ 0 ≤ m ∧ m < l.length) (fin o.dst (.fptr (.int .u8 (l.getD m.toNat 0))))).sat AF env U R' →
    o.wp C.P a w (fun a' w'=>FR C n (U++env) a' w') Q:=by
   intro ad cp l R' he hok' hh
   simp only [Rd.sat] at hh
   obtain ⟨⟨q1,q2,q3⟩,h5⟩:=hh
   obtain ⟨b,off,rfl,hc⟩:=Aku hok' (m:=m.toNat) (by omega) 0
   refine Ah (v:=.pointer (some ⟨b,off+m.toNat,none⟩)) (w':=w) ?_ (Ay hd hn hI hV (Am hok) ⟨rfl,0,_,rfl,hc⟩ h5)
   simp only [execOp,ho,he,hy,Sem.run_bind,hrun b off l.length cp q2 q3,Result.andThen_ok,Sem.run_pure,q1,Nat.mul_one]
  cases c with
  | src ad cp l=>
   obtain ⟨e1,e2⟩:=hv.str
   exact key ad cp l _ e1 e2 h3
  | raw ad m' cp=>
   obtain ⟨l,R3,h4,rfl,e2⟩:=R8 hI h3
   exact key ad cp l _ hv.str.1 e2 h4
  | _=>simp [Rd.sat] at h3
 case ref s k p=>
  obtain ⟨T0,nd,R3,hs,hg,hnn,h4⟩:=Bk h3
  cases nd <;> try (simp [T.isNode] at hnn;done)
  case box=>simp [Rd.sat] at h4
  case win e' kk hh l=>
   simp only [Rd.sat] at h4
   obtain ⟨⟨rfl,hm0,hm1,hz⟩,h5⟩:=h4
   obtain ⟨s0,hc⟩:=hv.ref_cells
   obtain ⟨b,cap,cur,e1,e2,e3,e4⟩:=hI.ref_eq hs hg hnn hc
   simp only [headOf,List.cons.injEq,and_true] at e1
   refine Ah (v:=.pointer (some ⟨b,kk+m.toNat*ie.size,none⟩)) (w':=w) ?_ (Ay hd hn hI hV (Am hok) ⟨rfl,0,[.pointer (some ⟨b,kk+m.toNat*ie.size,none⟩)],rfl,?_⟩ h5)
   ·simp only [execOp,ho,e1,hy,Sem.run_bind,hrun b kk (hh-kk) (cap-kk) hm0 (by omega),Result.andThen_ok,Sem.run_pure]
   ·simp only [CR,hz,Nat.mul_one]
    exact ⟨_,rfl,⟨_,hs,Nat.le_refl _⟩,fun _=>⟨b,_,e4,rfl⟩⟩
  case sl o' e' l=>
   cases o' with
   | false=>simp [T.isNode] at hnn
   | true=>
    simp only [Rd.sat] at h4
    obtain ⟨⟨rfl,hm0,hm1⟩,h5⟩:=h4
    obtain ⟨s0,hc⟩:=hv.ref_cells
    obtain ⟨b,cap,cur,e1,e2,e3,e4⟩:=hI.ref_eq hs hg hnn hc
    simp only [headOf,List.cons.injEq,and_true] at e1
    refine Ah (v:=.pointer (some ⟨b,0+m.toNat*ie.size,none⟩)) (w':=w) ?_ (Ay hd hn hI hV (Am hok) ⟨rfl,0,[.pointer (some ⟨b,0+m.toNat*ie.size,none⟩)],rfl,?_⟩ h5)
    ·simp only [execOp,ho,e1,hy,Sem.run_bind,hrun b 0 l.length cap hm0 hm1,Result.andThen_ok,Sem.run_pure]
    ·simp only [CR,Nat.zero_add]
     exact ⟨_,rfl,⟨_,hs,Nat.le_refl _⟩,fun _=>⟨b,_,e4,rfl⟩⟩
 case sl o' e' l=>
  cases o' with
  | true=>simp [Rd.sat] at h3
  | false=>
   simp only [Rd.sat] at h3
   obtain ⟨⟨rfl,hm0,hm1⟩,h5⟩:=h3
   obtain ⟨s0,cs,e1,e2⟩:=hv.cells
   simp only [CR] at e2
   obtain ⟨ad,cap,rfl,g1,g2,g3,g4,g5⟩:=e2
   have hlt:m.toNat<l.length:=by omega
   obtain ⟨b,off,rfl,hFb,cur,e'',fz,hb,hle,hC⟩:=g5 (by intro h;subst h;simp at hlt)
   simp only [mkv,List.headD] at e1
   have hsz:(cx C env w κ).sz e'=ie.size:=Dd hP hie
   rw [hsz] at hle hC g3
   have hl:l[m.toNat]? = some (l.getD m.toNat .any):=by simp [List.getD,hlt]
   have hall:=g3 (l.getD m.toNat .any) (List.mem_of_getElem? hl)
   have h6:=Fe l m.toNat 0 _ _ hl hC
   have htk:T.sizeL (l.take m.toNat)=m.toNat*ie.size:=by
    rw [Bj (n:=ie.size) (fun t ht=>g3 t (List.mem_of_mem_take ht)),List.length_take,Nat.min_eq_left (by omega)]
   have hpos:m.toNat*ie.size+ie.size≤l.length*ie.size:=by
    have:=Nat.mul_le_mul_right ie.size (show m.toNat+1≤l.length by omega)
    rwa [Nat.add_mul,Nat.one_mul] at this
   have hp0:(l.getD m.toNat .any).pure=true:=(Dc l).1 g4 _ (List.mem_of_getElem? hl)
   refine Ah (v:=.pointer (some ⟨b,off+m.toNat*ie.size,none⟩)) (w':=w) ?_ (Ay hd hn hI hV (Am hok) ⟨rfl,0,[.pointer (some ⟨b,off+m.toNat*ie.size,none⟩)],rfl,?_⟩ h5)
   ·simp only [execOp,ho,e1,hy,Sem.run_bind,hrun b off l.length cap hm0 hm1,Result.andThen_ok,Sem.run_pure]
   ·simp only [CR]
    refine ⟨b,off+m.toNat*ie.size,cur,e'',fz,rfl,hFb,hb,by omega,hp0,?_⟩
    rw [htk,List.drop_take,List.drop_drop,List.take_take,show min (l.getD m.toNat T.any).size (l.length*ie.size-m.toNat*ie.size)=(l.getD m.toNat T.any).size by omega] at h6
    exact Av _ (cx C env w κ) s0 0 rfl (fun _ h=>⟨h,rfl⟩) _ _ [] _ hp0 h6
theorem Ahp (hP : TtOk C.P tt) (hF : FR C n env a w) {t : TypeId} {sz by_ : Nat} {z : T} (hit : tyAt tt t = some ⟨sz, by_, z, .string⟩) {x y : Operand} {o : Oper} (ho : o.op = .index t x y) (hok : opOk n o = true)
  (h : (rdv x fun v => rdv y fun u => intRd u fun n => match v with
    | .str (.str b)=>.need (0≤n∧n<(strN b:Int)) (fin o.dst (.int .u8 (strI b n)))
    | _=>.fail).sat AF env U R) {Q:Exit→Act→World→Prop} :
  o.wp C.P a w (fun a' w'=>FR C n (U++env) a' w') Q:=by
 obtain ⟨hd,hn,κ,V,hI,hV⟩:=hF
 have hu:C.P.underlying t=some .string:=(hP _ _ hit).2.2.2.1
 obtain ⟨v,R',h1,hv⟩:=Au hI hV (Ap hok (by simp [ho,Op.operands])) h
 obtain ⟨u,R'',h2,hu2⟩:=Au hI hV (Ap hok (by simp [ho,Op.operands])) h1
 obtain ⟨k0,m,rfl,h3⟩:=I3 h2
 have hy:=hu2.int
 cases v <;> try (simp [Rd.sat] at h3;done)
 rename_i c
 cases c <;> try (simp [Rd.sat] at h3;done)
 rename_i b
 have hx:a.eval x=.string b:=hv.str.1
 simp only [Rd.sat] at h3
 obtain ⟨⟨q1,q2⟩,h5⟩:=h3
 have hlt:m.toNat<b.size:=by unfold strN at q2;omega
 refine Ah (v:=.int .u8 (strI b m)) (w':=w) ?_ (Ay hd hn hI hV (Am hok) (HV.mk_int _ _ _) h5)
 have hs:b[m.toNat]? = some (b[m.toNat]'hlt):=by simp [hlt]
 simp only [execOp,ho,hx,hy,Instr.index,asIntOf,Sem.run_bind,Sem.run_pure,Result.andThen_ok,run_underlying hu,if_pos q1,hs,strI,Option.getD_some]
theorem Ag2 (hP : TtOk C.P tt) (hF : FR C n env a w) {op : BinOp} {t t' : TypeId} {x y : Operand} {o : Oper} (ho : o.op = .binOp op t x y t') (hok : opOk n o = true)
  (h:(rdv x fun v=>rdv y fun u=>binRd (isBoolTy tt t) op v u (fin o.dst)).sat AF env U R) {Q:Exit→Act→World→Prop} :
  o.wp C.P a w (fun a' w'=>FR C n (U++env) a' w') Q:=by
 obtain ⟨hd,hn,κ,V,hI,hV⟩:=hF
 obtain ⟨v,R',h1,hv⟩:=Au hI hV (Ap hok (by simp [ho,Op.operands])) h
 obtain ⟨u,R'',h2,hu⟩:=Au hI hV (Ap hok (by simp [ho,Op.operands])) h1
 cases v <;> try (simp [binRd,Rd.sat] at h2;done)
 all_goals (cases u <;> try (simp [binRd,Rd.sat] at h2;done))
 case bool.bool b b'=>
  simp only [binRd] at h2
  split at h2
  ·rename_i hB
   have hu':C.P.underlying t=some .bool:=by
    unfold isBoolTy at hB
    split at hB
    ·rename_i hit
     exact (hP _ _ hit).2.2.2.1
    ·cases hB
   have hx:=hv.bool
   have hy:=hu.bool
   have hg:(eqGuard op t x y (.bool b) (.bool b')).run C.P w=.ok () w:=by
    unfold eqGuard
    cases op <;> simp
   have hq:(Op.equal t (.bool b) (.bool b')).run C.P w=.ok (b==b') w:=by
    have key:∀ d,(Op.equalIn (d+1) t (.bool b) (.bool b')).run C.P w=.ok (b==b') w:=fun d=>by
     simp [Op.equalIn,run_underlying hu']
    exact key 9999
   cases op <;> simp only [Rd.sat] at h2 <;> try (exact h2.elim)
   case eql=>exact Ah (w':=w) (by simp only [execOp,ho,hx,hy,Sem.run_bind,hg,Result.andThen_ok,binOp,hq,Sem.run_pure]) (Ay hd hn hI hV (Am hok) (HV.mk_bool _ _) h2)
   case neq=>exact Ah (w':=w) (by simp only [execOp,ho,hx,hy,Sem.run_bind,hg,Result.andThen_ok,binOp,hq,Sem.run_pure]) (Ay hd hn hI hV (Am hok) (HV.mk_bool _ _) h2)
  ·simp [Rd.sat] at h2
 rename_i k m k' m'
 simp only [binRd] at h2
 have hx0:=hv.int
 have hy0:=hu.int
 have hg0:(eqGuard op t x y (.int k m) (.int k' m')).run C.P w=.ok () w:=by
  unfold eqGuard
  cases op <;> simp
 split at h2
 ·simp only [Rd.sat] at h2
  exact Ah (w':=w) (by simp only [execOp,ho,hx0,hy0,Sem.run_bind,hg0,Result.andThen_ok];simp [binOp,Op.shift,shrI,Int.not_lt.2 h2.1]) (Ay hd hn hI hV (Am hok) (HV.mk_int _ _ _) h2.2)
 ·simp only [Rd.sat] at h2
  exact Ah (w':=w) (by simp only [execOp,ho,hx0,hy0,Sem.run_bind,hg0,Result.andThen_ok];simp [binOp,Op.shift,shlI,Int.not_lt.2 h2.1]) (Ay hd hn hI hV (Am hok) (HV.mk_int _ _ _) h2.2)
 clear hx0 hy0 hg0
 split at h2
 ·rename_i e
  subst e
  have hx:=hv.int
  have hy:=hu.int
  have hg:(eqGuard op t x y (.int k m) (.int k m')).run C.P w=.ok () w:=by
   unfold eqGuard
   cases op <;> simp
  cases op <;> simp only [wrapInt,Rd.sat] at h2 <;> try (exact h2.elim)
  case add=>exact Ah (w':=w) (by simp only [execOp,ho,hx,hy,Sem.run_bind,hg,Result.andThen_ok];simp [binOp,Op.intArith]) (Ay hd hn hI hV (Am hok) (HV.mk_int _ _ _) h2)
  case sub=>exact Ah (w':=w) (by simp only [execOp,ho,hx,hy,Sem.run_bind,hg,Result.andThen_ok];simp [binOp,Op.intArith]) (Ay hd hn hI hV (Am hok) (HV.mk_int _ _ _) h2)
  case mul=>exact Ah (w':=w) (by simp only [execOp,ho,hx,hy,Sem.run_bind,hg,Result.andThen_ok];simp [binOp,Op.intArith]) (Ay hd hn hI hV (Am hok) (HV.mk_int _ _ _) h2)
  case quo=>exact Ah (w':=w) (by simp only [execOp,ho,hx,hy,Sem.run_bind,hg,Result.andThen_ok];simp [binOp,Op.intDiv,h2.1]) (Ay hd hn hI hV (Am hok) (HV.mk_int _ _ _) h2.2)
  case rem=>exact Ah (w':=w) (by simp only [execOp,ho,hx,hy,Sem.run_bind,hg,Result.andThen_ok];simp [binOp,Op.intDiv,h2.1]) (Ay hd hn hI hV (Am hok) (HV.mk_int _ _ _) h2.2)
  case and=>exact Ah (w':=w) (by simp only [execOp,ho,hx,hy,Sem.run_bind,hg,Result.andThen_ok];simp [binOp,Op.intBits]) (Ay hd hn hI hV (Am hok) (HV.mk_int _ _ _) h2)
  case or=>exact Ah (w':=w) (by simp only [execOp,ho,hx,hy,Sem.run_bind,hg,Result.andThen_ok];simp [binOp,Op.intBits]) (Ay hd hn hI hV (Am hok) (HV.mk_int _ _ _) h2)
  case eql=>exact Ah (w':=w) (by simp only [execOp,ho,hx,hy,Sem.run_bind,hg,Result.andThen_ok];simp only [binOp,Op.intCmp,ne_eq,not_true,if_false,Sem.run_pure,Result.andThen_ok]) (Ay hd hn hI hV (Am hok) (HV.mk_bool _ _) h2)
  case neq=>exact Ah (w':=w) (by simp only [execOp,ho,hx,hy,Sem.run_bind,hg,Result.andThen_ok];simp only [binOp,Op.intCmp,ne_eq,not_true,if_false,Sem.run_pure,Result.andThen_ok]) (Ay hd hn hI hV (Am hok) (HV.mk_bool _ _) h2)
  case lss=>exact Ah (w':=w) (by simp only [execOp,ho,hx,hy,Sem.run_bind,hg,Result.andThen_ok];simp only [binOp,Op.intCmp,ne_eq,not_true,if_false,Sem.run_pure,Result.andThen_ok]) (Ay hd hn hI hV (Am hok) (HV.mk_bool _ _) h2)
  case leq=>exact Ah (w':=w) (by simp only [execOp,ho,hx,hy,Sem.run_bind,hg,Result.andThen_ok];simp only [binOp,Op.intCmp,ne_eq,not_true,if_false,Sem.run_pure,Result.andThen_ok]) (Ay hd hn hI hV (Am hok) (HV.mk_bool _ _) h2)
  case gtr=>exact Ah (w':=w) (by simp only [execOp,ho,hx,hy,Sem.run_bind,hg,Result.andThen_ok];simp only [binOp,Op.intCmp,ne_eq,not_true,if_false,Sem.run_pure,Result.andThen_ok]) (Ay hd hn hI hV (Am hok) (HV.mk_bool _ _) h2)
  case geq=>exact Ah (w':=w) (by simp only [execOp,ho,hx,hy,Sem.run_bind,hg,Result.andThen_ok];simp only [binOp,Op.intCmp,ne_eq,not_true,if_false,Sem.run_pure,Result.andThen_ok]) (Ay hd hn hI hV (Am hok) (HV.mk_bool _ _) h2)
 ·simp [Rd.sat] at h2
theorem Aj7 (hF : FR C n env a w) {op : UnOp} {t : TypeId} {x : Operand} {o : Oper} (ho : o.op = .unOp op t x) (hok : opOk n o = true)
  (h:(rdv x fun v=>unRd op v (fin o.dst)).sat AF env U R) {Q:Exit→Act→World→Prop} :
  o.wp C.P a w (fun a' w'=>FR C n (U++env) a' w') Q:=by
 obtain ⟨hd,hn,κ,V,hI,hV⟩:=hF
 obtain ⟨v,R',h1,hv⟩:=Au hI hV (Ap hok (by simp [ho,Op.operands])) h
 cases op <;> cases v <;> try (simp [unRd,Rd.sat] at h1;done)
 case neg.int k m=>
  have hx:=hv.int
  simp only [unRd] at h1
  exact Ah (w':=w) (by simp only [execOp,ho,hx,Sem.run_bind,Op.unary,Op.intArith,Sem.run_pure,Result.andThen_ok]) (Ay hd hn hI hV (Am hok) (HV.mk_int _ _ _) h1)
 case not.bool b=>
  have hx:=hv.bool
  simp only [unRd] at h1
  exact Ah (w':=w) (by simp only [execOp,ho,hx,Sem.run_bind,Op.unary,Sem.run_pure,Result.andThen_ok]) (Ay hd hn hI hV (Am hok) (HV.mk_bool _ _) h1)
theorem Z1 (hP : TtOk C.P tt) (hF : FR C n env a w) {s t : TypeId} {sz by_ : Nat} {z : T} {k : IntKind} (hit : tyAt tt t = some ⟨sz, by_, z, .int k⟩) (hsrc : C.P.underlying s ≠ none)
  {x:Operand} {o:Oper} (ho:o.op=.convert s t x) (hok:opOk n o=true)
  (h:(rdv x fun v=>intRd v fun n=>fin o.dst (.int k (k.wrap n))).sat AF env U R) {Q:Exit→Act→World→Prop} :
  o.wp C.P a w (fun a' w'=>FR C n (U++env) a' w') Q:=by
 obtain ⟨hd,hn,κ,V,hI,hV⟩:=hF
 have hu:=Aed hP hit
 obtain ⟨v,R',h1,hv⟩:=Au hI hV (Ap hok (by simp [ho,Op.operands])) h
 obtain ⟨k0,m,rfl,h3⟩:=I3 h1
 have hx:=hv.int
 cases hs:C.P.underlying s with
 | none=>exact absurd hs hsrc
 | some ds=>
  refine Ah (v:=.int k (k.wrap m)) (w':=w) ?_ (Ay hd hn hI hV (Am hok) (HV.mk_int _ _ _) h3)
  simp only [execOp,ho,hx,Sem.run_bind,convert,run_underlying hs,run_underlying hu,Result.andThen_ok]
  cases ds <;> simp [Conv.intToInt]
theorem Me {X:Cx} {s:Nat} {p:List Nat}:∀ (l:List T) (i j:Nat) (vs:List Value) (t:T),l[i]? = some t→CRT X s p j l vs→∃ cs,vs[i]? = some (mkv t cs)∧CR X s (p++[j+i]) t cs
 | [],i,j,vs,t,hi,h=>by simp at hi
 | x::l,0,j,vs,t,hi,h=>by
  simp at hi;subst hi
  simp only [CRT] at h
  obtain ⟨⟨v,cs,h1,h2,h3⟩,_⟩:=h
  refine ⟨cs,?_,by simpa using h3⟩
  rw [← h2,← h1];cases vs <;> simp
 | x::l,i+1,j,vs,t,hi,h=>by
  simp at hi
  simp only [CRT] at h
  obtain ⟨cs,h1,h2⟩:=Me l i (j+1) vs.tail t hi h.2
  refine ⟨cs,by cases vs <;> simp_all,by rw [show j+(i+1)=j+1+i by omega];exact h2⟩
theorem Aba (hF : FR C n env a w) {x : Operand} {j : Nat} {o : Oper} (ho : o.op = .extract x j) (hok : opOk n o = true)
  (h:(rdv x fun
  | .tup l=>match l[j]? with
   | some t=>fin o.dst t
   | none=>.fail
  | _=>.fail).sat AF env U R) {Q:Exit→Act→World→Prop} :
  o.wp C.P a w (fun a' w'=>FR C n (U++env) a' w') Q:=by
 obtain ⟨hd,hn,κ,V,hI,hV⟩:=hF
 obtain ⟨v,R',h1,hv⟩:=Au hI hV (Ap hok (by simp [ho,Op.operands])) h
 cases v <;> try (simp [Rd.sat] at h1;done)
 rename_i l
 cases hl:l[j]? with
 | none=>simp [hl,Rd.sat] at h1
 | some t0=>
  simp only [hl] at h1
  have hno:=hv.1
  obtain ⟨s0,cs,e1,e2⟩:=hv.cells
  simp only [CR] at e2
  obtain ⟨vs,rfl,hC⟩:=e2
  simp only [mkv,List.headD] at e1
  obtain ⟨c0,h2,h3⟩:=Me l j 0 vs t0 hl hC
  simp only [T.noOwn] at hno
  refine Ah (v:=mkv t0 c0) (w':=w) ?_ (Ay hd hn hI hV (Am hok) (HV.of_CR ((Fv l).1 hno t0 (List.mem_of_getElem? hl)) h3) h1)
  simp [execOp,ho,e1,Instr.extract,h2]
theorem Aex {v : T} {u : Value} (hI : Inv C env V w κ) (hv : HV (cx C env w κ) v u) {c : List T → Rd} (h : (elems v c).sat AF env U R) :
  ∃ l R' ad cap,u=.slice ad l.length cap∧(c l).sat AF env U R':=by
 cases v <;> try (simp [elems,Rd.sat] at h;done)
 case str c=>
  cases c with
  | src ad cp l=>exact ⟨l.map (T.int .u8),R,ad,cp,by simpa [Con.val] using hv.str.1,h⟩
  | raw ad m cp=>
   simp only [elems] at h
   obtain ⟨l,R',h1,rfl,_⟩:=R8 hI h
   exact ⟨l.map (T.int .u8),R',ad,cp,by simpa [Con.val] using hv.str.1,h1⟩
  | _=>simp [elems,Rd.sat] at h
 case nil=>
  obtain ⟨s0,cs,e1,e2⟩:=hv.cells
  simp only [CR] at e2
  subst e2
  exact ⟨[],R,none,0,by simpa [mkv] using e1,h⟩
 case sl o e l=>
  cases o with
  | true=>simp [elems,Rd.sat] at h
  | false=>
   obtain ⟨s0,cs,e1,e2⟩:=hv.cells
   simp only [CR] at e2
   obtain ⟨ad,cap,rfl,_⟩:=e2
   exact ⟨l,R,ad,cap,by simpa [mkv] using e1,h⟩
 case ref s k p=>
  simp only [elems] at h
  obtain ⟨T0,nd,R',hs,hg,hnn,h1⟩:=Bk h
  cases nd <;> try (simp [T.isNode] at hnn;done)
  case win e' kk hh l=>
   obtain ⟨s0,hc⟩:=hv.ref_cells
   obtain ⟨b,cap,cur,e1,e2,_⟩:=hI.ref_eq hs hg hnn hc
   simp only [CR] at e2
   obtain ⟨_,_,_,_,_,_,e3,_⟩:=e2
   simp only [headOf,List.cons.injEq,and_true] at e1
   exact ⟨(l.take hh).drop kk,R',some ⟨b,kk,none⟩,cap-kk,by rw [e1,List.length_drop,List.length_take,Nat.min_eq_left e3.2.1],h1⟩
  case box=>simp [Rd.sat] at h1
  case sl o' e' l=>
   cases o' with
   | false=>simp [T.isNode] at hnn
   | true=>
    obtain ⟨s0,hc⟩:=hv.ref_cells
    obtain ⟨b,cap,cur,e1,_⟩:=hI.ref_eq hs hg hnn hc
    simp only [headOf,List.cons.injEq,and_true] at e1
    exact ⟨l,R',_,cap,e1,h1⟩
theorem Dy (hI : Inv C env V w κ) (hV : ∀ t, t < 1000000 → V t = a.tmps.getD t undef) : ∀ (xs : List Operand) (c : List T → Rd) (R : List Nat), (∀ x ∈ xs, opndOk x = true) → (rdvL xs c).sat AF env U R →
  ∃ vs R',(c vs).sat AF env U R'∧vs.length=xs.length∧(∀ j (hj:j<vs.length) (hx:j<xs.length),HV (cx C env w κ) vs[j] (a.eval xs[j]))
 | [],c,R,_,h=>⟨[],R,h,rfl,fun j hj=>by simp at hj⟩
 | x::xs,c,R,hx,h=>by
  simp only [rdvL] at h
  obtain ⟨v,R',h1,hv⟩:=Au hI hV (hx x (by simp)) h
  obtain ⟨vs,R'',h2,hl,h3⟩:=Dy hI hV xs _ R' (fun y hy=>hx y (by simp [hy])) h1
  refine ⟨v::vs,R'',h2,by simp [hl],fun j hj hx'=>?_⟩
  cases j with
  | zero=>exact hv
  | succ j=>exact h3 j (by simpa using hj) (by simpa using hx')
theorem Wf (hF : FR C n env a w) {f : FuncId} {first caps : Array Operand} {o : Oper} (ho : o.op = .makeFunc (.func f) first caps) (hok : opOk n o = true) (hfirst : first.size = 0) (hf : f < 1000000)
  (h:(rdvL caps.toList fun vs=>fin o.dst (.fn f vs)).sat AF env U R) {Q:Exit→Act→World→Prop} :
  o.wp C.P a w (fun a' w'=>FR C n (U++env) a' w') Q:=by
 obtain ⟨hd,hn,κ,V,hI,hV⟩:=hF
 obtain ⟨vs,R',h1,hl,h2⟩:=Dy hI hV caps.toList _ R (fun x hx=>Ap hok (by simp [ho,Op.operands];right;simpa using hx)) h
 have hf0:first = #[]:=Array.eq_empty_of_size_eq_zero hfirst
 subst hf0
 refine Ah (v:=.func (.func f) #[] (caps.map a.eval)) (w':=w) (by simp [execOp,ho,Instr.makeFunc]) (Ay hd hn hI hV (Am hok) ⟨?_,0,[.func (.func f) #[] (caps.map a.eval)],rfl,?_⟩ h1)
 ·simp only [T.noOwn]
  rw [Fv]
  intro t ht
  obtain ⟨j,hj,rfl⟩:=List.getElem_of_mem ht
  exact (h2 j hj (by omega)).1
 ·simp only [CR]
  refine ⟨caps.toList.map a.eval,by rw [fnVal_lt hf,← Array.toList_map,Array.toArray_toList],?_⟩
  have key:∀ (l:List T) (xs:List Operand) (i:Nat),l.length=xs.length→(∀ j (hj:j<l.length) (hx:j<xs.length),HV (cx C env w κ) l[j] (a.eval xs[j]))→CRT (cx C env w κ) 0 [] i l (xs.map a.eval):=by
   intro l
   induction l with
   | nil=>
    intro xs i hl _
    cases xs with
    | nil=>simp [CRT]
    | cons x xs=>simp at hl
   | cons t l ih=>
    intro xs i hl hh
    cases xs with
    | nil=>simp at hl
    | cons x xs=>
     have h0:=hh 0 (by simp) (by simp)
     simp only [List.getElem_cons_zero] at h0
     have hno:=h0.1
     obtain ⟨s0,cs,e1,e2⟩:=h0.cells
     simp only [List.map_cons,CRT,List.head?_cons,List.tail_cons]
     exact ⟨⟨_,cs,rfl,e1,Cy _ _ s0 0 rfl (fun _ h=>⟨h,rfl⟩) (fun _ _ _ h=>⟨h,fun hn=>⟨hn,fun _ _ h=>h⟩⟩) t [] _ cs hno e2⟩,
      ih xs (i+1) (by simpa using hl) (fun j hj hx=>hh (j+1) (by simpa using hj) (by simpa using hx))⟩
  exact key vs caps.toList 0 hl h2
theorem Vb (hF : FR C n env a w) {f : FuncId} {first caps : Array Operand} {o : Oper} (ho : o.op = .makeFunc (.func f) first caps) (hok : opOk n o = true) (hcaps : caps.size = 0) (hfirst : first.size ≠ 0)
  (h:(rdvL first.toList fun vs=>fin o.dst (.fn (1000000+f) vs)).sat AF env U R) {Q:Exit→Act→World→Prop} :
  o.wp C.P a w (fun a' w'=>FR C n (U++env) a' w') Q:=by
 obtain ⟨hd,hn,κ,V,hI,hV⟩:=hF
 obtain ⟨vs,R',h1,hl,h2⟩:=Dy hI hV first.toList _ R (fun x hx=>Ap hok (by simp [ho,Op.operands];left;simpa using hx)) h
 have hf0:caps = #[]:=Array.eq_empty_of_size_eq_zero hcaps
 subst hf0
 refine Ah (v:=.func (.func f) (first.map a.eval) #[]) (w':=w) (by simp [execOp,ho,Instr.makeFunc]) (Ay hd hn hI hV (Am hok) ⟨?_,0,[.func (.func f) (first.map a.eval) #[]],rfl,?_⟩ h1)
 ·simp only [T.noOwn]
  rw [Fv]
  intro t ht
  obtain ⟨j,hj,rfl⟩:=List.getElem_of_mem ht
  exact (h2 j hj (by omega)).1
 ·simp only [CR]
  refine ⟨first.toList.map a.eval,by rw [fnVal_ge (Nat.not_lt_of_le (Nat.le_add_right 1000000 f)) (fun e=>hfirst (by simpa using congrArg List.length e)),Nat.add_sub_cancel_left,← Array.toList_map,Array.toArray_toList],?_⟩
  have key:∀ (l:List T) (xs:List Operand) (i:Nat),l.length=xs.length→(∀ j (hj:j<l.length) (hx:j<xs.length),HV (cx C env w κ) l[j] (a.eval xs[j]))→CRT (cx C env w κ) 0 [] i l (xs.map a.eval):=by
   intro l
   induction l with
   | nil=>
    intro xs i hl _
    cases xs with
    | nil=>simp [CRT]
    | cons x xs=>simp at hl
   | cons t l ih=>
    intro xs i hl hh
    cases xs with
    | nil=>simp at hl
    | cons x xs=>
     have h0:=hh 0 (by simp) (by simp)
     simp only [List.getElem_cons_zero] at h0
     have hno:=h0.1
     obtain ⟨s0,cs,e1,e2⟩:=h0.cells
     simp only [List.map_cons,CRT,List.head?_cons,List.tail_cons]
     exact ⟨⟨_,cs,rfl,e1,Cy _ _ s0 0 rfl (fun _ h=>⟨h,rfl⟩) (fun _ _ _ h=>⟨h,fun hn=>⟨hn,fun _ _ h=>h⟩⟩) t [] _ cs hno e2⟩,
      ih xs (i+1) (by simpa using hl) (fun j hj hx=>hh (j+1) (by simpa using hj) (by simpa using hx))⟩
  exact key vs first.toList 0 hl h2
end
end
section
mutual
theorem E3 {X X':Cx} (hsz:X'.sz=X.sz) (hw:X'.w=X.w) (hF:X'.F=X.F) (hk:X'.kap=X.kap) (s:Nat):∀ (t:T) (p:List Nat) (cs:List Value),t.refFree=true→CR X s p t cs→CR X' s p t cs
 | .int ..,_,_,_,h=>by simpa only [CR] using h
 | .bool ..,_,_,_,h=>by simpa only [CR] using h
 | .str ..,_,_,_,h=>by simp only [CR] at h ⊢;exact ⟨h.1,Con.ok_mono (fun b hb=>⟨by rw [hF];exact hb,by rw [hw]⟩) h.2⟩
 | .any,_,_,_,h=>by simpa only [CR] using h
 | .nil,_,_,_,h=>by simpa only [CR] using h
 | .sl true e l,p,cs,hr,h=>by
  simp only [CR,hsz,hw,hk] at h ⊢
  obtain ⟨b,cap,cur,h1,h2,h3,h4,h5,h6,h7,h8⟩:=h
  exact ⟨b,cap,cur,h1,h2,h3,h4,h5,h6,h7,Fa hsz hw hF hk s l p 0 _ (by simpa [T.refFree] using hr) h8⟩
 | .win e kk hh l,p,cs,hr,h=>by
  simp only [CR,hsz,hw,hk] at h ⊢
  obtain ⟨b,cap,cur,h1,h2,h3,h4,h5,h6,h7,h8⟩:=h
  exact ⟨b,cap,cur,h1,h2,h3,h4,h5,h6,h7,Fa hsz hw hF hk s l p 0 _ (by simpa [T.refFree] using hr) h8⟩
 | .sl false e l,p,cs,hr,h=>by
  simp only [CR,hsz,hw,hF] at h ⊢
  obtain ⟨a,cap,h1,h2,h3,h4,h5,h6⟩:=h
  refine ⟨a,cap,h1,h2,h3,h4,h5,fun hl=>?_⟩
  obtain ⟨b,off,g1,g2,cur,e',fz,g3,g4,g5⟩:=h6 hl
  exact ⟨b,off,g1,g2,cur,e',fz,g3,g4,Fa hsz hw hF hk s l p 0 _ (by simpa [T.refFree] using hr) g5⟩
 | .box e t,p,cs,hr,h=>by
  simp only [CR,hsz,hw,hk] at h ⊢
  obtain ⟨b,cur,h1,h2,h3,h4,h5,h6⟩:=h
  exact ⟨b,cur,h1,h2,h3,h4,h5,E3 hsz hw hF hk s t _ _ (by simpa [T.refFree] using hr) h6⟩
 | .fptr t,p,cs,hr,h=>by
  simp only [CR,hw,hF] at h ⊢
  obtain ⟨b,off,cur,e,fz,h1,h2,h3,h4,h5,h6⟩:=h
  exact ⟨b,off,cur,e,fz,h1,h2,h3,h4,h5,E3 hsz hw hF hk s t _ _ (by simpa [T.refFree] using hr) h6⟩
 | .agg l,p,cs,hr,h=>by
  simp only [CR] at h ⊢
  exact Fa hsz hw hF hk s l p 0 _ (by simpa [T.refFree] using hr) h
 | .tup l,p,cs,hr,h=>by
  simp only [CR] at h ⊢
  obtain ⟨vs,h1,h2⟩:=h
  exact ⟨vs,h1,Ja hsz hw hF hk s l p 0 _ (by simpa [T.refFree] using hr) h2⟩
 | .fn f l,p,cs,hr,h=>by
  simp only [CR] at h ⊢
  obtain ⟨vs,h1,h2⟩:=h
  exact ⟨vs,h1,Ja hsz hw hF hk s l p 0 _ (by simpa [T.refFree] using hr) h2⟩
 | .ref ..,p,cs,hr,h=>by simp [T.refFree] at hr
 | .addr ..,p,cs,hr,h=>by simp [T.refFree] at hr
theorem Fa {X X':Cx} (hsz:X'.sz=X.sz) (hw:X'.w=X.w) (hF:X'.F=X.F) (hk:X'.kap=X.kap) (s:Nat):∀ (l:List T) (p:List Nat) (i:Nat) (cs:List Value),T.refFreeL l=true→CRL X s p i l cs→CRL X' s p i l cs
 | [],_,_,_,_,h=>by simpa only [CRL] using h
 | t::l,p,i,cs,hr,h=>by
  simp only [CRL] at h ⊢
  simp only [T.refFreeL,Bool.and_eq_true] at hr
  exact ⟨E3 hsz hw hF hk s t _ _ hr.1 h.1,Fa hsz hw hF hk s l p (i+1) _ hr.2 h.2⟩
theorem Ja {X X':Cx} (hsz:X'.sz=X.sz) (hw:X'.w=X.w) (hF:X'.F=X.F) (hk:X'.kap=X.kap) (s:Nat):∀ (l:List T) (p:List Nat) (i:Nat) (vs:List Value),T.refFreeL l=true→CRT X s p i l vs→CRT X' s p i l vs
 | [],_,_,_,_,h=>by simpa only [CRT] using h
 | t::l,p,i,vs,hr,h=>by
  simp only [CRT] at h ⊢
  simp only [T.refFreeL,Bool.and_eq_true] at hr
  obtain ⟨⟨v,cs,h1,h2,h3⟩,h4⟩:=h
  exact ⟨⟨v,cs,h1,h2,E3 hsz hw hF hk s t _ _ hr.1 h3⟩,Ja hsz hw hF hk s l p (i+1) _ hr.2 h4⟩
end
theorem Bd {X X' : Cx} {s s' : Nat} {t : T} {p p' : List Nat} {cs : List Value} (hsz : X'.sz = X.sz) (hF : ∀ b, X.F b → X'.F b ∧ X'.w.heap[b]? = X.w.heap[b]?)
  (hk:∀ b q v,X.kap b=some (s,p++q,v)→X'.kap b=some (s',p'++q,v)∧X'.w.heap[b]? = X.w.heap[b]?) (hr:t.refFree=true) (h:CR X s p t cs):CR X' s' p' t cs:=by
 have h1:CR { X' with old:=X.old,node:=fun _ _ _=>False } s' p' t cs:=
  Co X _ s s' t p p' cs ⟨hsz,hF,hk,fun u k q ho=>⟨ho,fun hn=>hn.elim⟩⟩ h
 exact E3 (X':=X') (X:={ X' with old:=X.old,node:=fun _ _ _=>False }) rfl rfl rfl rfl s' t p' cs hr h1
section
variable {C:Ctx} {env:Env} {V:Nat→Value} {w:World} {κ:Kap} {a:Act} {AF:FuncId→List T→T→Prop} {U:List (Nat×Slot)} {R:List Nat} {n:Nat}
variable {tt:Tt} {P:Program}
theorem Inv.moveNode (h : Inv C env V w κ) {s k : Nat} {T0 nd : T} {p : List Nat} (hs : lk env s = some ⟨k, .own T0⟩) (hg : T.get p T0 = some nd) (hn : nd.isNode = true) {d : Nat} (hd9 : d ≠ 3000001) (hd : d ≠ s) (x' : T) (hp : List Nat) (cs : List Value)
  (hrf:x'.refFree=true)
  (hx:∀ (b cap:Nat) (X':Cx),κ b=some (s,p,headOf nd b cap)→X'.sz=C.P.cellsOf→X'.w=w→X'.F=C.F→CR X' d hp nd [headOf nd b cap]→CR X' d [] x' cs) :
  ∃ κ',Inv C ((d,⟨verOf (lk env d)+1,.own x'⟩)::(s,⟨k,.own (T.set .any p T0)⟩)::env) (upd V d (mkv x' cs)) w κ'∧∀ b u q v,u≠d→u≠s→κ b=some (u,q,v)→κ' b=some (u,q,v):=by
 obtain ⟨b0,cap0,cur0,g1,g2,g3⟩:=h.node_at hs hg hn
 have hr0:nd.refFree=true:=by
  have:∀ (q:List Nat) (t n:T),T.get q t=some n→t.refFree=true→n.refFree=true:=by
   intro q
   induction q with
   | nil=>intro t n h1 h2;simp [T.get] at h1;subst h1;exact h2
   | cons i q ih=>
    intro t n h1 h2
    have hl:∀ (l:List T),(l[i]?).bind (T.get q)=some n→T.refFreeL l=true→n.refFree=true:=by
     intro l h3 h4
     cases hx:l[i]? with
     | none=>simp [hx] at h3
     | some x=>simp [hx] at h3;exact ih x n h3 ((Bp l).1 h4 x (List.mem_of_getElem? hx))
    cases t with
    | agg l=>exact hl l (by simpa [T.get] using h1) (by simpa [T.refFree] using h2)
    | tup l=>exact hl l (by simpa [T.get] using h1) (by simpa [T.refFree] using h2)
    | sl o e l=>
     cases o with
     | false=>simp [T.get] at h1
     | true=>exact hl l (by simpa [T.get] using h1) (by simpa [T.refFree] using h2)
    | win e kk hh l=>exact hl l (by simpa [T.get] using h1) (by simpa [T.refFree] using h2)
    | box e t=>
     cases i with
     | succ i=>simp [T.get] at h1
     | zero=>exact ih t n (by simpa [T.get] using h1) (by simpa [T.refFree] using h2)
    | _=>simp [T.get] at h1
  exact this p T0 nd hg (h.own s k T0 hs).1
 have h1:=h.takeOut hs hg hn
 have hv1:verOf (lk ((s,(⟨k,.own (T.set .any p T0)⟩:Slot))::env) d)=verOf (lk env d):=by rw [Ab _ _ _ _ hd]
 have key:=h1.fresh [] d hd9 x' cs w (fun b=>match κ b with|some (u,r,v)=>if u=s∧p <+: r then some (hp++r.drop p.length,v) else none|none=>none)
  rfl rfl rfl (Nat.le_refl _) (fun _ _=>rfl) (fun _ _ _ _ _ _ _=>rfl) (fun b q v hb=>?_) (fun b b' q v v' hb hb'=>?_) hrf (fun X' e1 e2 e3 e4=>?_)
 ·rw [hv1] at key
  obtain ⟨κ',key,hkeep,_⟩:=key
  refine ⟨κ',by simpa [kill] using key,fun b u q v h1 h2 hk=>hkeep b u q v h1 (by simp) ?_⟩
  exact Bs (fun _ _ _ h=>by cases h) hk (by simp [h2])
 ·cases hk:κ b with
  | none=>simp [hk] at hb
  | some y=>
   obtain ⟨u,r,v1⟩:=y
   simp only [hk] at hb
   split at hb
   ·rename_i hc
    refine ⟨(h.col b _ _ _ hk).1,(h.col b _ _ _ hk).2,fun s' p' v' hr=>?_⟩
    rcases Cg hr with ⟨_,_,_,ho⟩|⟨hnn,hb',_⟩
    ·cases ho
    ·rw [hk] at hb'
     simp only [Option.some.injEq,Prod.mk.injEq] at hb'
     obtain ⟨rfl,rfl,rfl⟩:=hb'
     exact absurd (.inl hc) hnn
   ·cases hb
 ·cases hk:κ b with
  | none=>simp [hk] at hb
  | some y=>
   obtain ⟨u,r,v1⟩:=y
   cases hk':κ b' with
   | none=>simp [hk'] at hb'
   | some y'=>
    obtain ⟨u',r',v1'⟩:=y'
    simp only [hk] at hb
    simp only [hk'] at hb'
    split at hb
    ·split at hb'
     ·rename_i hc hc'
      simp only [Option.some.injEq,Prod.mk.injEq] at hb hb'
      obtain ⟨rfl,⟨r1,rfl⟩⟩:=hc
      obtain ⟨rfl,⟨r1',rfl⟩⟩:=hc'
      have e:r1=r1':=by
       have:=hb.1.trans hb'.1.symm
       have:=List.append_cancel_left this
       simpa using this
      subst e
      exact h.inj b b' _ _ _ _ hk hk'
     ·cases hb'
    ·cases hb
 ·refine hx b0 cap0 X' g3 e1 e2 e3 ?_
  refine Bd (X:=cx C env w κ) (s:=s) (p:=p) e1 (fun b hb=>⟨by rw [e3];exact hb,by rw [e2];rfl⟩) (fun b q v hk=>⟨?_,by rw [e2];rfl⟩) hr0 g1
  have hk':κ b=some (s,p++q,v):=hk
  exact e4 b (hp++q) v (by simp [hk'])
theorem Kw:∀ (l:List T) (j s k:Nat) (p:List Nat),holeAt l=some (j,s,k,p)→l[j]? = some (.ref s k p)
 | [],j,s,k,p,h=>by simp [holeAt] at h
 | t::l,j,s,k,p,h=>by
  by_cases hr:∃ s' k' p',t=.ref s' k' p'
  ·obtain ⟨s',k',p',rfl⟩:=hr
   simp only [holeAt,Option.some.injEq,Prod.mk.injEq] at h
   obtain ⟨rfl,rfl,rfl,rfl⟩:=h
   rfl
  ·have e : holeAt (t :: l) = (holeAt l).map fun x => (x.1 + 1, x.2) := by
    cases t <;> first|rfl|exact absurd ⟨_,_,_,rfl⟩ hr
   rw [e] at h
   cases hh:holeAt l with
   | none=>simp [hh] at h
   | some y=>
    obtain ⟨j',s',k',p'⟩:=y
    simp only [hh,Option.map_some,Option.some.injEq,Prod.mk.injEq] at h
    obtain ⟨rfl,rfl,rfl,rfl⟩:=h
    simpa using Kw l j' s' k' p' hh
theorem Oi {X X' : Cx} {s0 d : Nat} (hsz : X'.sz = X.sz) (hF : ∀ b, X.F b → X'.F b ∧ X'.w.heap[b]? = X.w.heap[b]?) {nd x : T} (hx1 : x.size = 1) (hn1 : nd.size = 1) : ∀ (l : List T) (j i : Nat) (p p' : List Nat) (cs : List Value), l[j]? = some x → T.pureL (l.eraseIdx j) = true →
  CRL X s0 p i l cs→CR X' d (p'++[i+j]) nd ((cs.drop (T.sizeL (l.take j))).take 1)→CRL X' d p' i (l.set j nd) cs
 | [],j,i,p,p',cs,hj,_,_,_=>by simp at hj
 | t::l,0,i,p,p',cs,hj,hp,h,hn=>by
  simp at hj;subst hj
  simp only [CRL,List.set_cons_zero,hx1,hn1] at h ⊢
  simp only [List.eraseIdx_zero,List.tail_cons] at hp
  exact ⟨by simpa [T.sizeL] using hn,Gf X X' s0 d hsz hF l p p' (i+1) _ hp h.2⟩
 | t::l,j+1,i,p,p',cs,hj,hp,h,hn=>by
  simp at hj
  simp only [List.eraseIdx_cons_succ,T.pureL,Bool.and_eq_true] at hp
  simp only [CRL,List.set_cons_succ] at h ⊢
  refine ⟨Av X X' s0 d hsz hF t _ _ _ hp.1 h.1,Oi hsz hF hx1 hn1 l j (i+1) p p' _ hj hp.2 h.2 ?_⟩
  rw [List.drop_drop,show i+1+j=i+(j+1) by omega]
  simpa [T.sizeL] using hn
theorem Cc {nd:T} (hn:nd.isNode=true):nd.size=1:=by cases nd <;> simp_all [T.isNode,T.size]
theorem De {nd:T} (hn:nd.isNode=true):nd.isAgg=false:=by cases nd <;> simp_all [T.isNode,T.isAgg]
theorem Fr (l:List T) (j:Nat) (u:T) (h:T.refFreeL (l.eraseIdx j)=true) (hu:u.refFree=true):T.refFreeL (l.set j u)=true:=by
 induction l generalizing j with
 | nil=>simp [T.refFreeL]
 | cons t l ih=>
  cases j with
  | zero=>simp only [List.eraseIdx_zero,List.tail_cons] at h;simp [T.refFreeL,hu,h]
  | succ j=>
   simp only [List.eraseIdx_cons_succ,T.refFreeL,Bool.and_eq_true] at h
   simp [T.refFreeL,h.1,ih j h.2]
theorem Br:∀ (q:List Nat) (t n:T),T.get q t=some n→t.refFree=true→n.refFree=true
 | [],t,n,h1,h2=>by simp [T.get] at h1;subst h1;exact h2
 | i::q,t,n,h1,h2=>by
  have hl:∀ (l:List T),(l[i]?).bind (T.get q)=some n→T.refFreeL l=true→n.refFree=true:=by
   intro l h3 h4
   cases hx:l[i]? with
   | none=>simp [hx] at h3
   | some x=>simp [hx] at h3;exact Br q x n h3 ((Bp l).1 h4 x (List.mem_of_getElem? hx))
  cases t with
  | agg l=>exact hl l (by simpa [T.get] using h1) (by simpa [T.refFree] using h2)
  | tup l=>exact hl l (by simpa [T.get] using h1) (by simpa [T.refFree] using h2)
  | sl o e l=>
   cases o with
   | false=>simp [T.get] at h1
   | true=>exact hl l (by simpa [T.get] using h1) (by simpa [T.refFree] using h2)
  | win e kk hh l=>exact hl l (by simpa [T.get] using h1) (by simpa [T.refFree] using h2)
  | box e t=>
   cases i with
   | succ i=>simp [T.get] at h1
   | zero=>exact Br q t n (by simpa [T.get] using h1) (by simpa [T.refFree] using h2)
  | _=>simp [T.get] at h1
theorem Hy (hI : Inv C env V w κ) {d : Nat} (hd9 : d ≠ 3000001) {v : T} {u : Value} {c : T → List (Nat × Slot) → Rd} (hv : HV (cx C env w κ) v u) (h : (take d v c).sat AF env U R) :
  (v.pure=true∧v.refFree=true∧(c v []).sat AF env U R)∨
  (∃ s k p T0 nd v' R',s≠d∧lk env s=some ⟨k,.own T0⟩∧T.get p T0=some nd∧nd.isNode=true∧v'.refFree=true∧v'.isAgg=v.isAgg∧v'.size=v.size∧
   (c v' [(s,⟨k,.own (T.set .any p T0)⟩)]).sat AF env U R'∧
   ∃ κ',Inv C ((d,⟨verOf (lk env d)+1,.own v'⟩)::(s,⟨k,.own (T.set .any p T0)⟩)::env) (upd V d u) w κ'∧∀ b u q v,u≠d→u≠s→κ b=some (u,q,v)→κ' b=some (u,q,v)):=by
 unfold take at h
 split at h
 ·rename_i hc
  simp only [Bool.and_eq_true] at hc
  exact .inl ⟨hc.1,hc.2,h⟩
 ·rename_i hcnd
  clear hcnd
  refine .inr ?_
  cases v <;> try (simp [Rd.sat] at h;done)
  case ref s k p=>
   simp only at h
   split at h
   ·simp [Rd.sat] at h
   ·rename_i hne
    obtain ⟨T0,nd,R',hs,hg,hn,h1⟩:=Bk h
    have hr0:=Br p T0 nd hg (hI.own s k T0 hs).1
    obtain ⟨s0,hc⟩:=hv.ref_cells
    obtain ⟨b,cap,cur,e1,e2,e3,e4⟩:=hI.ref_eq hs hg hn hc
    simp at e1
    obtain ⟨κ',hI',hkeep⟩:=hI.moveNode hs hg hn (d:=d) hd9 (fun e=>hne e.symm) nd [] [u] hr0 (fun b' cap' X' f1 f2 f3 f4 f5=>by
     have hb:=hI.inj b' b s p _ _ f1 e4
     subst hb
     have:headOf nd b' cap'=headOf nd b' cap:=by rw [f1] at e4;simpa using e4
     rw [this,← e1] at f5
     exact f5)
    refine ⟨s,k,p,T0,nd,nd,R',hne,hs,hg,hn,hr0,by rw [De hn];rfl,by rw [Cc hn];rfl,h1,κ',?_,hkeep⟩
    have:mkv nd [u]=u:=by cases nd <;> simp_all [T.isNode,mkv]
    rw [this] at hI'
    exact hI'
  case agg l=>
   cases hh:holeAt l with
   | none=>simp [hh,Rd.sat] at h
   | some y=>
    obtain ⟨j,s,k,p⟩:=y
    simp only [hh] at h
    split at h
    ·simp [Rd.sat] at h
    ·rename_i hne
     split at h
     ·rename_i hcond
      simp only [Bool.and_eq_true] at hcond
      obtain ⟨T0,nd,R',hs,hg,hn,h1⟩:=Bk h
      have hr0:=Br p T0 nd hg (hI.own s k T0 hs).1
      have hj:=Kw l j s k p hh
      obtain ⟨s0,cs,e1,e2⟩:=hv.cells
      simp only [CR] at e2
      have h2:=Fe l j 0 cs _ hj e2
      have hlen:=Bg _ _ _ _ _ h2
      simp only [T.size] at h2 hlen
      obtain ⟨b,cap,cur,f1,f2,f3,f4⟩:=hI.ref_eq hs hg hn h2
      have hrf:(T.agg (l.set j nd)).refFree=true:=by simp only [T.refFree];exact Fr l j nd hcond.2 hr0
      obtain ⟨κ',hI',hkeep⟩:=hI.moveNode hs hg hn (d:=d) hd9 (fun e=>hne e.symm) (.agg (l.set j nd)) [j] cs hrf (fun b' cap' X' g1 g2 g3 g4 g5=>by
       have hb:=hI.inj b' b s p _ _ g1 f4
       subst hb
       have hh':headOf nd b' cap'=headOf nd b' cap:=by rw [g1] at f4;simpa using f4
       rw [hh',← f1] at g5
       simp only [CR]
       exact Oi (X:=cx C env w κ) g2 (fun b hb=>⟨by rw [g4];exact hb,by rw [g3];rfl⟩) rfl (Cc hn) l j 0 [] [] cs hj hcond.1 e2 (by simpa using g5))
      refine ⟨s,k,p,T0,nd,_,R',hne,hs,hg,hn,hrf,rfl,?_,h1,κ',?_,hkeep⟩
      ·simp only [T.size]
       rw [← Bi l j (fun _=>nd) _ hj]
       exact I7 hj (by rw [Cc hn];rfl)
      ·have:mkv (T.agg (l.set j nd)) cs=u:=by rw [e1];rfl
       rw [this] at hI'
       exact hI'
     ·simp [Rd.sat] at h
end
mutual
theorem Ax {X:Cx} {s:Nat}:∀ (t:T) (p:List Nat) (cs:List Value),t.solid=true→t.refFree=true→CR X s p t cs→∀ v∈cs,v.oneCell'=true
 | .int ..,_,_,_,_,h=>by simp only [CR] at h;subst h;simp [Value.oneCell']
 | .bool ..,_,_,_,_,h=>by simp only [CR] at h;subst h;simp [Value.oneCell']
 | .str c,_,_,_,_,h=>by simp only [CR] at h;obtain ⟨rfl,_⟩:=h;cases c <;> simp [Value.oneCell',Con.val]
 | .any,_,_,hs,_,_=>by simp [T.solid] at hs
 | .nil,_,_,_,_,h=>by simp only [CR] at h;subst h;simp [Value.oneCell']
 | .sl true ..,_,_,_,_,h=>by simp only [CR] at h;obtain ⟨_,_,_,rfl,_⟩:=h;simp [Value.oneCell']
 | .win ..,_,_,_,_,h=>by simp only [CR] at h;obtain ⟨_,_,_,rfl,_⟩:=h;simp [Value.oneCell']
 | .sl false ..,_,_,_,_,h=>by simp only [CR] at h;obtain ⟨_,_,rfl,_⟩:=h;simp [Value.oneCell']
 | .box ..,_,_,_,_,h=>by simp only [CR] at h;obtain ⟨_,_,rfl,_⟩:=h;simp [Value.oneCell']
 | .fptr ..,_,_,_,_,h=>by simp only [CR] at h;obtain ⟨_,_,_,_,_,rfl,_⟩:=h;simp [Value.oneCell']
 | .tup ..,_,_,hs,_,_=>by simp [T.solid] at hs
 | .fn ..,_,_,_,_,h=>by simp only [CR] at h;obtain ⟨_,rfl,_⟩:=h;simp only [List.mem_singleton,forall_eq,fnVal];split <;> simp [Value.oneCell']
 | .ref ..,_,_,_,hr,_=>by simp [T.refFree] at hr
 | .addr ..,_,_,_,hr,_=>by simp [T.refFree] at hr
 | .agg l,p,cs,hs,hr,h=>by
  simp only [CR] at h
  exact Ce l p 0 cs (by simpa [T.solid] using hs) (by simpa [T.refFree] using hr) h
theorem Ce {X:Cx} {s:Nat}:∀ (l:List T) (p:List Nat) (i:Nat) (cs:List Value),T.solidL l=true→T.refFreeL l=true→CRL X s p i l cs→∀ v∈cs,v.oneCell'=true
 | [],_,_,_,_,_,h=>by simp only [CRL] at h;subst h;simp
 | t::l,p,i,cs,hs,hr,h=>by
  intro v hv
  simp only [T.solidL,Bool.and_eq_true] at hs
  simp only [T.refFreeL,Bool.and_eq_true] at hr
  simp only [CRL] at h
  rw [← List.take_append_drop t.size cs,List.mem_append] at hv
  rcases hv with hv|hv
  ·exact Ax t _ _ hs.1 hr.1 h.1 v hv
  ·exact Ce l _ _ _ hs.2 hr.2 h.2 v hv
end
end
end Go.Proofs.YtapdekacpecgiaaGreat
