import Derived.Test.YtapdekacpecgiaaGreatTab
namespace Go.Proofs.YtapdekacpecgiaaGreat
open Go.RowKit
set_option linter.unusedSimpArgs false
set_option linter.unusedVariables false
set_option linter.unusedSectionVars false
set_option maxRecDepth 20000
set_option maxHeartbeats 1000000
def md:FuncId→List Bool:=fun f=>if f=170 then [true,true,true,true,true,true] else if f=111 then [true,true,true,true,true,true] else if f=194 then [true,true,true,true,true,true] else if f=257 then [true,true,true,true,true,true] else if f=270 then [true,true,true,true,true,true] else if f=222 then [true,true,true,true,true,true] else if f=255 then [true,true,true,true,true,true] else if f=137 then [true,true,true,true,true,true] else if f=138 then [true,true,true,true,true,true] else if f=226 then [true,true,true,true,true,true] else if f=84 then [true,true,true,true,true,true] else if f=187 then [true,true,true,true,true,true] else if f=239 then [true,true,true,true,true,true] else if f=106 then [true,true,true,true,true,true] else if f=171 then [true,true,true,true,true,true] else if f=87 then [true,true,true,true,true,true] else if f=88 then [true,true,true,true,true,true] else if f=125 then [true,true,true,true,true,true] else if f=195 then [true,true,true,true,true,true] else if f=189 then [true,true,true,true,true,true] else if f=97 then [true,true,true,true,true,true] else if f=150 then [true,true,true,true,true,true] else if f=86 then [true,true,true,true,true,true] else if f=234 then [false,false,false,false,true] else if f=74 then [false,true] else if f=77 then [false,true] else if f=174 then [true,true,true,true,true,true,true,true,true,true,true,true] else if f=244 then [true,true,true,true,true,true,true,true,true,true,true,true,true,true,true] else if f=164 then [true,true,true,true,true,true,true,true,true,true,true,true,true,true] else if f=165 then [true,true,true,true,true,true,true,true,true,true] else if f=235 then [true,true,true,true,true,true,true,true,true,true] else if f=230 then [true,true,true,true,true,true,true,true,true,true,true] else []
def intL (l:List Int):List T:=l.map (T.int .i64)
theorem Bf (l:List Int):(intL l).length=l.length:=by simp [intL]
theorem Ac (l:List Int) (i:Nat) (h:i<l.length):(intL l).getD i .any=.int .i64 (l.getD i 0):=by
 simp [intL,List.getD_eq_getElem?_getD,h]
theorem Fs:∀ (l:List Int),T.pureL (intL l)=true
 | []=>rfl
 | x::l=>by have:=Fs l;simp only [intL,List.map_cons,T.pureL,T.pure,Bool.true_and];exact this
theorem Ev:∀ (l:List Int),T.refFreeL (intL l)=true
 | []=>rfl
 | x::l=>by have:=Ev l;simp only [intL,List.map_cons,T.refFreeL,T.refFree,Bool.true_and];exact this
theorem J1:∀ (l:List Int),T.noFL (intL l)=true
 | []=>rfl
 | x::l=>by have:=J1 l;simp only [intL,List.map_cons,T.noFL,T.noF,Bool.true_and];exact this
theorem O3 (l:List Int):(intL l).all T.plain=true:=by
 simp [intL,T.plain]
theorem Pu:∀ (l:List Int),T.noOwnL (intL l)=true
 | []=>rfl
 | x::l=>by have:=Pu l;simp only [intL,List.map_cons,T.noOwnL,T.noOwn,Bool.true_and];exact this
theorem Jd:∀ (l:List Int),T.freezeL (intL l)=intL l
 | []=>rfl
 | x::l=>by have:=Jd l;simp only [intL,List.map_cons,T.freezeL,T.freeze];rw [show l.map (T.int .i64)=intL l from rfl,this]
theorem Akf (x:Int) (h1 : -9223372036854775808≤x) (h2:x≤9223372036854775807):IntKind.i64.wrap x=x:=by
 rw [IntKind.wrap_i64];omega
theorem Ah6 {AF : FuncId → List T → T → Prop} {chk : List (List Nat × List Nat) → Prop} {Q : Env → Prop} {tt : Tt} {md : FuncId → List Bool} {ops : Array Oper} {o : Oper} {l : List Oper} {i j : Nat} {env : Env} {acc : List (List Nat × List Nat)}
  (hj:i+1=j) (h:∀ K:List (Nat×Slot)→List Nat→Prop,(∀ U R env',U++env=env'→rgn AF chk Q (gRds tt md ops l j) env' ((U.map (·.1),R)::acc)→K U R)→(gRd tt md ops i o).run AF env K) :
  rgn AF chk Q (gRds tt md ops (o::l) i) env acc:=h _ fun _ _ _ e h=>hj▸e▸h
theorem Up {K:Env→Prop} {Q:Exit→Env→Prop} {env:Env}:thenQ K Q .normal env=K env:=rfl
theorem Ae5 {K:Env→Prop} {Q:Exit→Env→Prop} {env:Env}:thenQ K Q .ret env=Q .ret env:=rfl
theorem Aaq {K:Env→Prop} {Q:Exit→Env→Prop} {env:Env} {i:Nat}:thenQ K Q (.exit i) env=Q (.exit i) env:=rfl
theorem Sl {Q:Exit→Env→Prop} {env:Env} {i:Nat}:blockQ i Q .normal env=Q .normal env:=rfl
theorem Acc {Q:Exit→Env→Prop} {env:Env} {i:Nat}:blockQ i Q .ret env=Q .ret env:=rfl
theorem Xc {Q:Exit→Env→Prop} {env:Env} {i:Nat}:blockQ i Q (.exit i) env=Q .normal env:=if_pos rfl
theorem V1 {Q:Exit→Env→Prop} {env:Env} {i j:Nat}:blockQ i Q (.exit j) env=if j=i then Q .normal env else Q (.exit j) env:=rfl
set_option linter.defProp false
set_option maxRecDepth 20000
set_option linter.unusedSimpArgs false
mutual
theorem Xu (S:Nat→Bool):∀ (t:T),t.pure=true→t.refsIn S=true
 | .int ..,_=>rfl
 | .bool ..,_=>rfl
 | .str ..,_=>rfl
 | .any,_=>rfl
 | .nil,_=>rfl
 | .sl ..,_=>rfl
 | .box ..,h=>by simp [T.pure] at h
 | .fptr t,_=>rfl
 | .agg l,h=>by simpa [T.refsIn] using D3 S l (by simpa [T.pure] using h)
 | .tup l,h=>by simpa [T.refsIn] using D3 S l (by simpa [T.pure] using h)
 | .fn _ l,h=>by simpa [T.refsIn] using D3 S l (by simpa [T.pure] using h)
 | .ref ..,h=>by simp [T.pure] at h
 | .addr ..,h=>by simp [T.pure] at h
theorem D3 (S:Nat→Bool):∀ (l:List T),T.pureL l=true→T.refsInL S l=true
 | [],_=>rfl
 | t::l,h=>by
  simp only [T.pureL,Bool.and_eq_true] at h
  simp [T.refsInL,Xu S t h.1,D3 S l h.2]
end
mutual
theorem Xo:∀ (t:T),t.pure=true→t.freeze=t
 | .int ..,_=>rfl
 | .bool ..,_=>rfl
 | .str ..,_=>rfl
 | .any,_=>rfl
 | .nil,_=>rfl
 | .sl true _ _,h=>by simp [T.pure] at h
 | .sl false _ l,h=>by simp [T.freeze,B5 l (by simpa [T.pure] using h)]
 | .box ..,h=>by simp [T.pure] at h
 | .fptr t,_=>rfl
 | .agg l,h=>by simp [T.freeze,B5 l (by simpa [T.pure] using h)]
 | .tup l,h=>by simp [T.freeze,B5 l (by simpa [T.pure] using h)]
 | .fn _ l,h=>by simp [T.freeze,B5 l (by simpa [T.pure] using h)]
 | .ref ..,h=>by simp [T.pure] at h
 | .addr ..,h=>by simp [T.pure] at h
theorem B5:∀ (l:List T),T.pureL l=true→T.freezeL l=l
 | [],_=>rfl
 | t::l,h=>by
  simp only [T.pureL,Bool.and_eq_true] at h
  simp [T.freezeL,Xo t h.1,B5 l h.2]
end
theorem Adb (k:IntKind) (n:Int):T.size (.int k n)=1:=rfl
theorem Aax (b:Bool):T.size (.bool b)=1:=rfl
theorem Afi (c:Con):T.size (.str c)=1:=rfl
theorem Aeq  : T.size (.any)=1:=rfl
theorem Add  : T.size (.nil)=1:=rfl
theorem Ae0 (e:TypeId) (l:List T):T.size (.sl true e l)=1:=rfl
theorem Afe (e:TypeId) (l:List T):T.size (.sl false e l)=1:=rfl
theorem Afn (e:TypeId) (t:T):T.size (.box e t)=1:=rfl
theorem Zx (t:T):T.size (.fptr t)=1:=rfl
theorem Aee (l:List T):T.size (.agg l)=T.sizeL l:=rfl
theorem Adv (l:List T):T.size (.tup l)=1:=rfl
theorem Agn (f:FuncId) (l:List T):T.size (.fn f l)=1:=rfl
theorem Ae6 (s' k':Nat) (p':List Nat):T.size (.ref s' k' p')=1:=rfl
theorem Abq (s' k':Nat) (p':List Nat) (o:Nat) (q:List Nat):T.size (.addr s' k' p' o q)=1:=rfl
theorem Z5 (k:IntKind) (n:Int):T.noOwn (.int k n)=true:=rfl
theorem Wt (b:Bool):T.noOwn (.bool b)=true:=rfl
theorem Zq (c:Con):T.noOwn (.str c)=true:=rfl
theorem Abf  : T.noOwn (.any)=true:=rfl
theorem Aco  : T.noOwn (.nil)=true:=rfl
theorem Aab (e:TypeId) (l:List T):T.noOwn (.sl true e l)=false:=rfl
theorem Pm (e:TypeId) (l:List T):T.noOwn (.sl false e l)=true:=rfl
theorem Aaj (e:TypeId) (t:T):T.noOwn (.box e t)=false:=rfl
theorem Wq (t:T):T.noOwn (.fptr t)=true:=rfl
theorem Ab9 (l:List T):T.noOwn (.agg l)=T.noOwnL l:=rfl
theorem Aau (l:List T):T.noOwn (.tup l)=T.noOwnL l:=rfl
theorem Ac4 (f:FuncId) (l:List T):T.noOwn (.fn f l)=T.noOwnL l:=rfl
theorem Z4 (s' k':Nat) (p':List Nat):T.noOwn (.ref s' k' p')=true:=rfl
theorem Wr (s' k':Nat) (p':List Nat) (o:Nat) (q:List Nat):T.noOwn (.addr s' k' p' o q)=true:=rfl
theorem U3 (k:IntKind) (n:Int):T.refFree (.int k n)=true:=rfl
theorem Sp (b:Bool):T.refFree (.bool b)=true:=rfl
theorem U4 (c:Con):T.refFree (.str c)=true:=rfl
theorem T3  : T.refFree (.any)=true:=rfl
theorem U8  : T.refFree (.nil)=true:=rfl
theorem Ms (e:TypeId) (l:List T):T.refFree (.sl true e l)=T.refFreeL l:=rfl
theorem Mt (e:TypeId) (l:List T):T.refFree (.sl false e l)=T.refFreeL l:=rfl
theorem Vs (e:TypeId) (t:T):T.refFree (.box e t)=T.refFree t:=rfl
theorem Sj (t:T):T.refFree (.fptr t)=T.refFree t:=rfl
theorem U5 (l:List T):T.refFree (.agg l)=T.refFreeL l:=rfl
theorem Vx (l:List T):T.refFree (.tup l)=T.refFreeL l:=rfl
theorem V9 (f:FuncId) (l:List T):T.refFree (.fn f l)=T.refFreeL l:=rfl
theorem S6 (s' k':Nat) (p':List Nat):T.refFree (.ref s' k' p')=false:=rfl
theorem Sd (s' k':Nat) (p':List Nat) (o:Nat) (q:List Nat):T.refFree (.addr s' k' p' o q)=false:=rfl
theorem Ads (k:IntKind) (n:Int):T.pure (.int k n)=true:=rfl
theorem Ab6 (b:Bool):T.pure (.bool b)=true:=rfl
theorem Adm (c:Con):T.pure (.str c)=true:=rfl
theorem Acr  : T.pure (.any)=true:=rfl
theorem Ac9  : T.pure (.nil)=true:=rfl
theorem Adp (e:TypeId) (l:List T):T.pure (.sl true e l)=false:=by simp [T.pure]
theorem Rl (e:TypeId) (l:List T):T.pure (.sl false e l)=T.pureL l:=by simp [T.pure]
theorem Afb (e:TypeId) (t:T):T.pure (.box e t)=false:=rfl
theorem Zi (t:T):T.pure (.fptr t)=T.pure t:=rfl
theorem Ac6 (l:List T):T.pure (.agg l)=T.pureL l:=rfl
theorem Ad7 (l:List T):T.pure (.tup l)=T.pureL l:=rfl
theorem Ah5 (f:FuncId) (l:List T):T.pure (.fn f l)=T.pureL l:=rfl
theorem Aes (s' k':Nat) (p':List Nat):T.pure (.ref s' k' p')=false:=rfl
theorem Aam (s' k':Nat) (p':List Nat) (o:Nat) (q:List Nat):T.pure (.addr s' k' p' o q)=false:=rfl
theorem Abv (k:IntKind) (n:Int):T.solid (.int k n)=true:=rfl
theorem Wl (b:Bool):T.solid (.bool b)=true:=rfl
theorem Zp (c:Con):T.solid (.str c)=true:=rfl
theorem Aa9  : T.solid (.any)=false:=rfl
theorem Ab0  : T.solid (.nil)=true:=rfl
theorem Pq (e:TypeId) (l:List T):T.solid (.sl true e l)=true:=rfl
theorem Abl (e:TypeId) (l:List T):T.solid (.sl false e l)=true:=rfl
theorem Zj (e:TypeId) (t:T):T.solid (.box e t)=true:=rfl
theorem X0 (t:T):T.solid (.fptr t)=true:=rfl
theorem Ab2 (l:List T):T.solid (.agg l)=T.solidL l:=rfl
theorem Zr (l:List T):T.solid (.tup l)=false:=rfl
theorem Af6 (f:FuncId) (l:List T):T.solid (.fn f l)=true:=rfl
theorem Aca (s' k':Nat) (p':List Nat):T.solid (.ref s' k' p')=true:=rfl
theorem Xe (s' k':Nat) (p':List Nat) (o:Nat) (q:List Nat):T.solid (.addr s' k' p' o q)=true:=rfl
theorem Zm (k:IntKind) (n:Int):T.plain (.int k n)=true:=rfl
theorem We (b:Bool):T.plain (.bool b)=true:=rfl
theorem Zn (c:Con):T.plain (.str c)=c.free:=rfl
theorem Aay  : T.plain (.any)=false:=rfl
theorem Abt  : T.plain (.nil)=true:=rfl
theorem Acm (e:TypeId) (l:List T):T.plain (.sl true e l)=false:=rfl
theorem Abg (e:TypeId) (l:List T):T.plain (.sl false e l)=false:=rfl
theorem Aav (e:TypeId) (t:T):T.plain (.box e t)=false:=rfl
theorem Xg (t:T):T.plain (.fptr t)=false:=rfl
theorem Acg (l:List T):T.plain (.agg l)=T.plainL l:=rfl
theorem Zz (l:List T):T.plain (.tup l)=false:=rfl
theorem Adn (f:FuncId) (l:List T):T.plain (.fn f l)=false:=rfl
theorem Zt (s' k':Nat) (p':List Nat):T.plain (.ref s' k' p')=false:=rfl
theorem Xw (s' k':Nat) (p':List Nat) (o:Nat) (q:List Nat):T.plain (.addr s' k' p' o q)=false:=rfl
theorem Abs (k:IntKind) (n:Int):T.isAgg (.int k n)=false:=rfl
theorem Wm (b:Bool):T.isAgg (.bool b)=false:=rfl
theorem Abi (c:Con):T.isAgg (.str c)=false:=rfl
theorem Ace  : T.isAgg (.any)=false:=rfl
theorem Aac  : T.isAgg (.nil)=false:=rfl
theorem Aae (e:TypeId) (l:List T):T.isAgg (.sl true e l)=false:=rfl
theorem Zc (e:TypeId) (l:List T):T.isAgg (.sl false e l)=false:=rfl
theorem Aby (e:TypeId) (t:T):T.isAgg (.box e t)=false:=rfl
theorem Xk (t:T):T.isAgg (.fptr t)=false:=rfl
theorem Aaf (l:List T):T.isAgg (.agg l)=true:=rfl
theorem Aar (l:List T):T.isAgg (.tup l)=false:=rfl
theorem Afq (f:FuncId) (l:List T):T.isAgg (.fn f l)=false:=rfl
theorem Aad (s' k':Nat) (p':List Nat):T.isAgg (.ref s' k' p')=false:=rfl
theorem Xv (s' k':Nat) (p':List Nat) (o:Nat) (q:List Nat):T.isAgg (.addr s' k' p' o q)=false:=rfl
theorem V7 (k:IntKind) (n:Int):T.scalar (.int k n)=true:=rfl
theorem Uu (b:Bool):T.scalar (.bool b)=true:=rfl
theorem Yc (c:Con):T.scalar (.str c)=c.free:=rfl
theorem X9  : T.scalar (.any)=false:=rfl
theorem Wi  : T.scalar (.nil)=false:=rfl
theorem Xf (e:TypeId) (l:List T):T.scalar (.sl true e l)=false:=rfl
theorem Xm (e:TypeId) (l:List T):T.scalar (.sl false e l)=false:=rfl
theorem V3 (e:TypeId) (t:T):T.scalar (.box e t)=false:=rfl
theorem U0 (t:T):T.scalar (.fptr t)=false:=rfl
theorem Wc (l:List T):T.scalar (.agg l)=false:=rfl
theorem W9 (l:List T):T.scalar (.tup l)=false:=rfl
theorem Acj (f:FuncId) (l:List T):T.scalar (.fn f l)=false:=rfl
theorem Xp (s' k':Nat) (p':List Nat):T.scalar (.ref s' k' p')=false:=rfl
theorem Vc (s' k':Nat) (p':List Nat) (o:Nat) (q:List Nat):T.scalar (.addr s' k' p' o q)=false:=rfl
theorem Wu (k:IntKind) (n:Int):T.isNode (.int k n)=false:=rfl
theorem Ui (b:Bool):T.isNode (.bool b)=false:=rfl
theorem X4 (c:Con):T.isNode (.str c)=false:=rfl
theorem X5  : T.isNode (.any)=false:=rfl
theorem W8  : T.isNode (.nil)=false:=rfl
theorem Wg (e:TypeId) (l:List T):T.isNode (.sl true e l)=true:=rfl
theorem Xa (e:TypeId) (l:List T):T.isNode (.sl false e l)=false:=rfl
theorem Wv (e:TypeId) (t:T):T.isNode (.box e t)=true:=rfl
theorem T7 (t:T):T.isNode (.fptr t)=false:=rfl
theorem Xl (l:List T):T.isNode (.agg l)=false:=rfl
theorem X6 (l:List T):T.isNode (.tup l)=false:=rfl
theorem Ach (f:FuncId) (l:List T):T.isNode (.fn f l)=false:=rfl
theorem Ww (s' k':Nat) (p':List Nat):T.isNode (.ref s' k' p')=false:=rfl
theorem Uf (s' k':Nat) (p':List Nat) (o:Nat) (q:List Nat):T.isNode (.addr s' k' p' o q)=false:=rfl
theorem Agy (k:IntKind) (n:Int):T.noF (.int k n)=true:=rfl
theorem Afw (b:Bool):T.noF (.bool b)=true:=rfl
theorem Ah2 (c:Con):T.noF (.str c)=c.free:=rfl
theorem T8 (b:ByteArray):Con.free (.str b)=true:=rfl
theorem Oq:Con.free .nilFunc=true:=rfl
theorem P3:Con.free .nilPtr=true:=rfl
theorem Ux (a:Option Addr) (n c:Nat):Con.free (.raw a n c)=true:=rfl
theorem Tf (a:Option Addr) (c:Nat) (l:List Int):Con.free (.src a c l)=false:=rfl
theorem Ab1 (k:IntKind) (n:Int):T.rawed (.int k n)=.int k n:=rfl
theorem W6 (b:Bool):T.rawed (.bool b)=.bool b:=rfl
theorem Abu (b:ByteArray):T.rawed (.str (.str b))=.str (.str b):=rfl
theorem Qj:T.rawed (.str .nilFunc)=.str .nilFunc:=rfl
theorem Si:T.rawed (.str .nilPtr)=.str .nilPtr:=rfl
theorem Zv (a:Option Addr) (n c:Nat):T.rawed (.str (.raw a n c))=.str (.raw a n c):=rfl
theorem Acn (a:Option Addr) (c:Nat) (l:List Int):T.rawed (.str (.src a c l))=.str (.raw a l.length c):=rfl
theorem Z6:T.rawed .nil=.nil:=rfl
theorem Aen (o:Bool) (e:TypeId) (l:List T):T.rawed (.sl o e l)=.sl o e l:=rfl
theorem Aas (e:TypeId) (t:T):T.rawed (.box e t)=.box e t:=rfl
theorem V2 (t:T):T.rawed (.fptr t)=.fptr t:=rfl
theorem Zl (l:List T):T.rawed (.agg l)=.agg l:=rfl
theorem Acd (l:List T):T.rawed (.tup l)=.tup l:=rfl
theorem Af1 (f:FuncId) (l:List T):T.rawed (.fn f l)=.fn f l:=rfl
theorem Z0 (s' k':Nat) (p':List Nat):T.rawed (.ref s' k' p')=.ref s' k' p':=rfl
theorem Xz (s' k':Nat) (p':List Nat) (o:Nat) (q:List Nat):T.rawed (.addr s' k' p' o q)=.addr s' k' p' o q:=rfl
attribute [go_sem ↓] P3 Si T8 Oq Ux Tf Ab1 W6 Abu Qj Zv Acn Z6 Aen Aas V2 Zl Acd Af1 Z0 Xz
theorem Ae9 (s:Nat) (k:IntKind) (n:Int):T.away s (.int k n)=True:=rfl
theorem Abp (s:Nat) (b:Bool):T.away s (.bool b)=True:=rfl
theorem Adh (s:Nat) (c:Con):T.away s (.str c)=True:=rfl
theorem Aff (s:Nat):T.away s .nil=True:=rfl
theorem Ahh (s:Nat) (o:Bool) (e:TypeId) (l:List T):T.away s (.sl o e l)=True:=rfl
theorem Ab4 (s:Nat) (t:T):T.away s (.fptr t)=True:=rfl
theorem Aeo (s:Nat) (l:List T):T.away s (.agg l)=T.awayL s l:=rfl
theorem Agd (s:Nat) (f:FuncId) (l:List T):T.away s (.fn f l)=T.awayL s l:=rfl
theorem Ad6 (s s' k':Nat) (p':List Nat):T.away s (.ref s' k' p')=(s'≠s):=rfl
theorem Z7 (s s' k':Nat) (p':List Nat) (o:Nat) (q:List Nat):T.away s (.addr s' k' p' o q)=(s'≠s):=rfl
theorem Aa5 (s:Nat):T.awayL s []=True:=rfl
theorem Wo (s:Nat) (t:T) (l:List T):T.awayL s (t::l)=(t.away s∧T.awayL s l):=rfl
attribute [go_sem ↓] Ae9 Abp Adh Aff Ahh Ab4 Aeo Agd Ad6 Z7 Aa5 Wo
theorem Agb  : T.noF (.any)=true:=rfl
theorem Ahv  : T.noF (.nil)=true:=rfl
theorem Aga (e:TypeId) (l:List T):T.noF (.sl true e l)=T.noFL l:=by simp [T.noF]
theorem Ag9 (e:TypeId) (l:List T):T.noF (.sl false e l)=false:=by simp [T.noF]
theorem Agf (e:TypeId) (t:T):T.noF (.box e t)=T.noF t:=rfl
theorem Af0 (t:T):T.noF (.fptr t)=false:=rfl
theorem Ahs (l:List T):T.noF (.agg l)=T.noFL l:=rfl
theorem Ahy (l:List T):T.noF (.tup l)=T.noFL l:=rfl
theorem Ajr (f:FuncId) (l:List T):T.noF (.fn f l)=T.noFL l:=rfl
theorem Agg (s' k':Nat) (p':List Nat):T.noF (.ref s' k' p')=true:=rfl
theorem Ad2 (s' k':Nat) (p':List Nat) (o:Nat) (q:List Nat):T.noF (.addr s' k' p' o q)=true:=rfl
theorem Vz (k:IntKind) (n:Int):T.freeze (.int k n)=.int k n:=rfl
theorem Tv (b:Bool):T.freeze (.bool b)=.bool b:=rfl
theorem X2 (c:Con):T.freeze (.str c)=.str c:=rfl
theorem Wj  : T.freeze (.any)=.any:=rfl
theorem Xh  : T.freeze (.nil)=.nil:=rfl
theorem N3 (e:TypeId) (l:List T):T.freeze (.sl true e l)=.sl false e (T.freezeL l):=rfl
theorem Nz (e:TypeId) (l:List T):T.freeze (.sl false e l)=.sl false e l:=rfl
theorem W5 (e:TypeId) (t:T):T.freeze (.box e t)=.fptr (T.freeze t):=rfl
theorem Tm (t:T):T.freeze (.fptr t)=.fptr t:=rfl
theorem W0 (l:List T):T.freeze (.agg l)=.agg (T.freezeL l):=rfl
theorem Wd (l:List T):T.freeze (.tup l)=.tup (T.freezeL l):=rfl
theorem Aci (f:FuncId) (l:List T):T.freeze (.fn f l)=.fn f (T.freezeL l):=rfl
theorem X3 (s' k':Nat) (p':List Nat):T.freeze (.ref s' k' p')=.ref s' k' p':=rfl
theorem Ug (s' k':Nat) (p':List Nat) (o:Nat) (q:List Nat):T.freeze (.addr s' k' p' o q)=.addr s' k' p' o q:=rfl
theorem Aec (k:IntKind) (n:Int):T.kids (.int k n)=[]:=rfl
theorem Ab5 (b:Bool):T.kids (.bool b)=[]:=rfl
theorem Ac3 (c:Con):T.kids (.str c)=[]:=rfl
theorem Adr  : T.kids (.any)=[]:=rfl
theorem Ac2  : T.kids (.nil)=[]:=rfl
theorem Ad0 (e:TypeId) (l:List T):T.kids (.sl true e l)=l:=rfl
theorem Acs (e:TypeId) (l:List T):T.kids (.sl false e l)=l:=rfl
theorem Ad4 (e:TypeId) (t:T):T.kids (.box e t)=[t]:=rfl
theorem Abc (t:T):T.kids (.fptr t)=[]:=rfl
theorem Aft (l:List T):T.kids (.agg l)=[]:=rfl
theorem Afc (l:List T):T.kids (.tup l)=[]:=rfl
theorem Agp (f:FuncId) (l:List T):T.kids (.fn f l)=[]:=rfl
theorem Adi (s' k':Nat) (p':List Nat):T.kids (.ref s' k' p')=[]:=rfl
theorem Aa6 (s' k':Nat) (p':List Nat) (o:Nat) (q:List Nat):T.kids (.addr s' k' p' o q)=[]:=rfl
theorem Wy (s k:Nat) (p:List Nat) (k2:IntKind) (n:Int):T.borrow s k p (.int k2 n)=.int k2 n:=rfl
theorem Vp (s k:Nat) (p:List Nat) (b:Bool):T.borrow s k p (.bool b)=.bool b:=rfl
theorem Xt (s k:Nat) (p:List Nat) (c:Con):T.borrow s k p (.str c)=.str c:=rfl
theorem X8 (s k:Nat) (p:List Nat)  : T.borrow s k p (.any)=.any:=rfl
theorem Ya (s k:Nat) (p:List Nat)  : T.borrow s k p (.nil)=.nil:=rfl
theorem Xq (s k:Nat) (p:List Nat) (e:TypeId) (l:List T):T.borrow s k p (.sl true e l)=.ref s k p:=rfl
theorem Ws (s k:Nat) (p:List Nat) (e:TypeId) (l:List T):T.borrow s k p (.sl false e l)=.sl false e l:=rfl
theorem V6 (s k:Nat) (p:List Nat) (e:TypeId) (t:T):T.borrow s k p (.box e t)=.addr s k p 0 [0]:=rfl
theorem To (s k:Nat) (p:List Nat) (t:T):T.borrow s k p (.fptr t)=.fptr t:=rfl
theorem W1 (s k:Nat) (p:List Nat) (l:List T):T.borrow s k p (.agg l)=.agg (T.borrowL s k p 0 l):=rfl
theorem Xy (s k:Nat) (p:List Nat) (l:List T):T.borrow s k p (.tup l)=.tup (T.borrowL s k p 0 l):=rfl
theorem Zg (s k:Nat) (p:List Nat) (f:FuncId) (l:List T):T.borrow s k p (.fn f l)=.fn f (T.borrowL s k p 0 l):=rfl
theorem Xj (s k:Nat) (p:List Nat) (s' k':Nat) (p':List Nat):T.borrow s k p (.ref s' k' p')=.ref s' k' p':=rfl
theorem Tr (s k:Nat) (p:List Nat) (s' k':Nat) (p':List Nat) (o:Nat) (q:List Nat):T.borrow s k p (.addr s' k' p' o q)=.addr s' k' p' o q:=rfl
theorem N0 (k:IntKind) (n:Int) (c:T→Rd):resolve (.int k n) c=c (.int k n):=rfl
theorem Mh (b:Bool) (c:T→Rd):resolve (.bool b) c=c (.bool b):=rfl
theorem Nr (x:Con) (c:T→Rd):resolve (.str x) c=c (.str x):=rfl
theorem Od  (c:T→Rd):resolve (.any) c=.fail:=rfl
theorem Nw  (c:T→Rd):resolve (.nil) c=c (.nil):=rfl
theorem N2 (e:TypeId) (l:List T) (c:T→Rd):resolve (.sl true e l) c=.fail:=rfl
theorem N6 (e:TypeId) (l:List T) (c:T→Rd):resolve (.sl false e l) c=c (.sl false e l):=rfl
theorem N8 (e:TypeId) (t:T) (c:T→Rd):resolve (.box e t) c=.fail:=rfl
theorem Ly (t:T) (c:T→Rd):resolve (.fptr t) c=c (.fptr t):=rfl
theorem N5 (l:List T) (c:T→Rd):resolve (.agg l) c=resolveL l fun l'=>c (.agg l'):=rfl
theorem N9 (l:List T) (c:T→Rd):resolve (.tup l) c=.fail:=rfl
theorem Pc (f:FuncId) (l:List T) (c:T→Rd):resolve (.fn f l) c=resolveL l fun l'=>c (.fn f l'):=rfl
theorem N4 (s' k':Nat) (p':List Nat) (c:T→Rd):resolve (.ref s' k' p') c=rdn s' k' p' fun _ n=>c n.freeze:=rfl
theorem Mm (s' k':Nat) (p':List Nat) (o:Nat) (q:List Nat) (c:T→Rd):resolve (.addr s' k' p' o q) c=if q=[0] then rdn s' k' p' fun _ n=>.need (o=0) (match n with|.box e t=>c (T.freeze (.box e t))|_=>.fail) else if q.isEmpty then rdn s' k' p' fun _ n=>(match n with|.sl true e l=>.need (o<l.length∧l.all T.scalar=true) (c (.sl false e ((T.freezeL l).drop o)))|_=>.fail) else .fail:=rfl
attribute [go_sem ↓] Adb Aax Afi Aeq Add Ae0 Afe Afn Zx Aee Adv Agn Ae6 Abq Z5 Wt Zq Abf Aco Aab Pm Aaj Wq Ab9 Aau Ac4 Z4 Wr U3 Sp U4 T3 U8 Ms Mt Vs Sj U5 Vx V9 S6 Sd Ads Ab6 Adm Acr Ac9 Adp Rl Afb Zi Ac6 Ad7 Ah5 Aes Aam Abv Wl Zp Aa9 Ab0 Pq Abl Zj X0 Ab2 Zr Af6 Aca Xe Zm We Zn Aay Abt Acm Abg Aav Xg Acg Zz Adn Zt Xw Abs Wm Abi Ace Aac Aae Zc Aby Xk Aaf Aar Afq Aad Xv V7 Uu Yc X9 Wi Xf Xm V3 U0 Wc W9 Acj Xp Vc Wu Ui X4 X5 W8 Wg Xa Wv T7 Xl X6 Ach Ww Uf Agy Afw Ah2 Agb Ahv Aga Ag9 Agf Af0 Ahs Ahy Ajr Agg Ad2 Vz Tv X2 Wj Xh N3 Nz W5 Tm W0 Wd Aci X3 Ug Aec Ab5 Ac3 Adr Ac2 Ad0 Acs Ad4 Abc Aft Afc Agp Adi Aa6 Wy Vp Xt X8 Ya Xq Ws V6 To W1 Xy Zg Xj Tr N0 Mh Nr Od Nw N2 N6 N8 Ly N5 N9 Pc N4 Mm
attribute [go_sem] N0 Mh Nr Od Nw N2 N6 N8 Ly N5 N9 Pc N4 Mm
def callRd' (md:FuncId→List Bool) (dst:Option Tmp) (f:FuncId) (args:List Operand) (caps:List T) (i:Nat):Rd:=
 match dst with
 | none=>.fail
 | some d=>if f<1000000 then
  if (md f).length=9 then
   (match caps,args with
   | [], [x, y] => rdv x fun v => if v.pure && v.refFree then
     rdvL [x,y] fun vs=>resolveL vs fun vs'=>resolveL [] fun cs=>.rd d fun s=>.call f (vs'++cs) fun r=>[(d,⟨verOf s+1,mkSV r⟩)]
    else ioRd d f x y
   | _,_=>.fail)
  else if (md f).length=8 then
   (match caps with
   | []=>.fail
   | _=>.fail)
  else if (md f).length=7 then
   (match caps with
   | []=>.fail
   | _=>.fail)
  else if (md f).length=6 then
   (match caps with
   | []=>ioGRd d f args
   | _=>.fail)
  else if (md f).length=10 then kRd d f args caps i
  else if (md f).length=11 then
   (match caps with
   | []=>cRd d f args
   | _=>.fail)
  else if (md f).length=14 then
   (match caps with
   | []=>sRd d f args
   | _=>.fail)
  else if (md f).length=15 then
   (match caps with
   | []=>yRd d f args
   | _=>.fail)
  else if 12≤(md f).length then
   (match caps with
   | []=>xRd ((md f).length-12) d f args
   | _=>.fail)
  else if (md f).any id then
   (match caps with
   | []=>giveRd (virt i) (zipB args (md f)) fun vs ups=>.rd d fun s=>.rd (virt i) fun sv=>.call f vs fun r=>(d,⟨verOf s+1,mkSV r⟩)::(match ups with|[]=>[]|u::us=>(virt i,⟨verOf sv+1,.val .any⟩)::u::us)
   | _=>.fail)
  else rdvL args fun vs=>resolveL vs fun vs'=>resolveL caps fun cs=>.rd d fun s=>.call f (vs'++cs) fun r=>[(d,⟨verOf s+1,mkSV r⟩)]
  else if f-1000000<1000000∧caps.isEmpty=false then
   rdvL args fun vs=>resolveL vs fun vs'=>resolveL caps fun cs=>.rd d fun s=>.call (f-1000000) (cs++vs') fun r=>[(d,⟨verOf s+1,mkSV r⟩)]
  else .fail
def builtinRd' (tt:Tt) (dst:Option Tmp) (b:Builtin) (args:List Operand) (argTypes:List TypeId) (i:Nat):Rd:=
 match b,args,argTypes with
 | .len,[x],[t]=>match tyAt tt t with
  | some ⟨_,_,_,.slice _⟩=>rdv x fun v=>elems v fun l=>fin dst (.int .i64 l.length)
  | _=>.fail
 | .max,[x,y],_=>rdv x fun v=>rdv y fun u=>match v,u with
  | .int k a,.int _ b=>fin dst (.int k (if b>a then b else a))
  | _,_=>.fail
 | .min,[x,y],_=>rdv x fun v=>rdv y fun u=>match v,u with
  | .int k a,.int _ b=>fin dst (.int k (if b<a then b else a))
  | _,_=>.fail
 | .append,[x,y],[t,t']=>if t=t' then match tyAt tt t with
  | some ⟨_,_,_,.slice e⟩=>match tyAt tt e with
   | some ie => rdv x fun v => rdv y fun u => appendBase e (virt i) v fun l ups => elemsE e u fun l2 =>
     .need (0<ie.size∧l.length+l2.length≤1099511627776∧(l.length+l2.length)*ie.bytes≤140737488355328) <|
     (if T.pureL l2&&T.refFreeL l2&&l2.all T.plain then
      match ups with
      | []=>if l2.isEmpty then fin dst .nil else finOwn dst (.sl true e l2) []
      | _=>.rd (virt i) fun sv=>finOwn dst (.sl true e (l++l2)) ((virt i,⟨verOf sv+1,.val .any⟩)::ups)
     else appendOwn (virt i) dst ie e u l ups)
   | _=>.fail
  | _=>.fail
  else match tyAt tt t,tyAt tt t' with
   | some ⟨_,_,_,.slice e⟩,some ⟨_,_,_,.int _⟩=>(match tyAt tt e with
    | some ie=>rdv x fun v=>rdv y fun u=>match v,u with
     | .ref s k p,.int _ m=>if s=virt i then .fail else rdn s k p fun T0 nd=>match nd with
      | .sl true e' l => .need (e' = e ∧ ie.size = 1 ∧ ie.zero.scalar = true ∧ l.all T.scalar = true ∧ 0 ≤ m ∧ l.length + m.toNat ≤ 1099511627776 ∧ (l.length + m.toNat) * ie.bytes ≤ 140737488355328)
        (.rd (virt i) fun sv=>finOwn dst (.sl true e (l++List.replicate m.toNat ie.zero)) [(virt i,⟨verOf sv+1,.val .any⟩),(s,⟨k,.own (T.set .any p T0)⟩)])
      | _=>.fail
     | _,_=>.fail
    | none=>.fail)
   | _,_=>.fail
 | .copy,[x,y],[t,_]=>match dst,tyAt tt t with
  | some d,some ⟨_,_,_,.slice e⟩=>match tyAt tt e with
   | some ie=>rdv x fun v=>rdv y fun u=>elemsE e u fun l2=>match v with
    | .ref s k p=>if s=d then .fail else rdn s k p fun T0 nd=>match nd with
     | .sl true e' l => .need (e' = e ∧ ie.size = 1 ∧ l2.all T.scalar = true ∧ l.all T.scalar = true ∧ 0 < l2.length)
       (.rd d fun sd=>.done [(d,⟨verOf sd,.val (.int .i64 (min l2.length l.length:Nat))⟩),(s,⟨k,.own (T.set (.sl true e (l2.take l.length++l.drop l2.length)) p T0)⟩)])
     | _=>.fail
    | _=>.fail
   | none=>.fail
  | _,_=>.fail
 | _,_,_=>.fail
def dstAt:List Oper→Nat→Option Nat
 | [],_=>none
 | o::_,0=>o.dst
 | _::l,j+1=>dstAt l j
theorem Tk:∀ (l:List Oper) (j:Nat),(l[j]?).bind (·.dst)=dstAt l j
 | [],_=>by simp [dstAt]
 | o::_,0=>by simp [dstAt]
 | _::l,j+1=>by simpa [dstAt] using Tk l j
theorem Zo {d:Option Tmp} {op:Op} {ty:TypeId} {pos:String} {aft:Array Edge} {g:Option (Nat×Bool)} {l:List Oper}:dstAt (⟨d,op,ty,pos,aft,g⟩::l) 0=d:=rfl
theorem Zw {o:Oper} {l:List Oper} {j:Nat}:dstAt (o::l) (j+1)=dstAt l j:=rfl
theorem Ahe {tt:Tt} {md:FuncId→List Bool} {ops:Array Oper} {i:Nat} {d:Option Tmp} {op:Op} {ty:TypeId} {pos:String} {aft:Array Edge}:gRd tt md ops i ⟨d,op,ty,pos,aft,none⟩=opRd tt md i ⟨d,op,ty,pos,aft,none⟩:=rfl
theorem Agq {tt : Tt} {md : FuncId → List Bool} {l : List Oper} {i j : Nat} {want : Bool} {d : Option Tmp} {op : Op} {ty : TypeId} {pos : String} {aft : Array Edge} : gRd tt md l.toArray i ⟨d, op, ty, pos, aft, some (j, want)⟩ = (match dstAt l j with
  | none=>.fail
  | some t=>if t<1000000 then .rd t fun
   | some ⟨_,.val (.bool b)⟩=>if b=want then opRd tt md i ⟨d,op,ty,pos,aft,none⟩ else skipRd d
   | some ⟨_,.undef⟩=>skipRd d
   | _=>.fail
   else .fail):=by
 have h:((l.toArray)[j]?).bind (·.dst)=dstAt l j:=by
  rw [List.getElem?_toArray];exact Tk l j
 simp only [gRd,h]
 rfl
theorem Aev {tt:Tt} {md:FuncId→List Bool} {i:Nat} {d:Option Tmp} {ty:TypeId} {pos:String} {aft:Array Edge} {g:Option (Nat×Bool)} (x:Operand):opRd tt md i ⟨d,.move x,ty,pos,aft,g⟩=(rdv x (fin d)):=rfl
theorem Xn {tt : Tt} {md : FuncId → List Bool} {i : Nat} {d : Option Tmp} {ty : TypeId} {pos : String} {aft : Array Edge} {g : Option (Nat × Bool)} (x : Operand) : opRd tt md i ⟨d, .assign x, ty, pos, aft, g⟩ = (rdv x fun v => match v, d with
  | .ref s k p, some d' => if s = d' then fin d v else rdn s k p fun T0 n =>
    match p,T0 with
    | [],_=>.rd d' fun sd=>.done [(s,⟨k,.val (.ref d' (verOf sd+1) [])⟩),(d',⟨verOf sd+1,.own n⟩)]
    | [_],.tup _=>.rd d' fun sd=>.done [(d',⟨verOf sd+1,.own n⟩),(s,⟨k,.own (T.set .any p T0)⟩)]
    | _,_=>fin d v
  | v,_=>fin d v):=rfl
theorem Sc {tt : Tt} {md : FuncId → List Bool} {i : Nat} {d : Option Tmp} {ty : TypeId} {pos : String} {aft : Array Edge} {g : Option (Nat × Bool)} (x : Operand) : opRd tt md i ⟨d, .nilCheck x, ty, pos, aft, g⟩ = (rdv x fun v => match v with
  | .addr s k p _ sub=>if sub.isEmpty then .fail else rdn s k p fun _ _=>fin d v
  | .fptr _=>fin d v
  | _=>.fail):=rfl
theorem Aez {tt : Tt} {md : FuncId → List Bool} {i : Nat} {d : Option Tmp} {ty : TypeId} {pos : String} {aft : Array Edge} {g : Option (Nat × Bool)} (c a b : Operand) : opRd tt md i ⟨d, .pick c a b, ty, pos, aft, g⟩ = (rdv c fun
  | .bool t=>if t then rdv a (fin d) else rdv b (fin d)
  | _=>.fail):=rfl
theorem Abb {tt : Tt} {md : FuncId → List Bool} {i : Nat} {d : Option Tmp} {ty : TypeId} {pos : String} {aft : Array Edge} {g : Option (Nat × Bool)} (e : TypeId) : opRd tt md i ⟨d, .alloc e, ty, pos, aft, g⟩ = (match tyAt tt e with
  | some ie=>finOwn d (.box e ie.zero) []
  | none=>.fail):=rfl
theorem Af9 {tt : Tt} {md : FuncId → List Bool} {i : Nat} {d : Option Tmp} {ty : TypeId} {pos : String} {aft : Array Edge} {g : Option (Nat × Bool)} (e : TypeId) (x : Operand) : opRd tt md i ⟨d, .box e x, ty, pos, aft, g⟩ = (match tyAt tt e with
  | some ie=>rdv x fun v=>take (virt i) v fun v' ups=>.need (v'.size=ie.size∧v'.solid=true)<|match ups with
   | []=>finOwn d (.box e v') []
   | _=>.rd (virt i) fun sv=>finOwn d (.box e v') ((virt i,⟨verOf sv+1,.val .any⟩)::ups)
  | none=>.fail):=rfl
theorem Afs {tt : Tt} {md : FuncId → List Bool} {i : Nat} {d : Option Tmp} {ty : TypeId} {pos : String} {aft : Array Edge} {g : Option (Nat × Bool)} (t : TypeId) (x : Operand) : opRd tt md i ⟨d, .load t x, ty, pos, aft, g⟩ = (match tyAt tt t with
  | some it=>rdv x fun
   | .addr s k p off sub=>rdn s k p fun _ n=>match n.part sub with
    | some t0=>.need (off=n.offN sub∧t0.size=it.size∧t0.isAgg=it.zero.isAgg) (fin d (T.borrow s k (p++sub) t0))
    | none=>.fail
   | .fptr t0=>.need (t0.size=it.size∧t0.isAgg=it.zero.isAgg) (fin d t0)
   | _=>.fail
  | none=>.fail):=rfl
theorem Acl {tt : Tt} {md : FuncId → List Bool} {i : Nat} {d : Option Tmp} {ty : TypeId} {pos : String} {aft : Array Edge} {g : Option (Nat × Bool)} (t : TypeId) (x y : Operand) : opRd tt md i ⟨d, .store t x y, ty, pos, aft, g⟩ = (match tyAt tt t, d with
  | some it,none=>rdv x fun
   | .addr s k p off sub=>rdv y fun v=>take (virt i) v fun v' ups=>rdn s k p fun T0 n=>match n.part sub with
    | some t0=>.need (off=n.offN sub∧t0.size=it.size∧v'.size=t0.size∧v'.isAgg=t0.isAgg∧v'.solid=true)<|match ups with
     | []=>.done [(s,⟨if v'.scalar&&t0.scalar then k else k+1,.own (T.set v' (p++sub) T0)⟩)]
     | (u,_)::_=>if u=s∨s=virt i then .fail else .rd (virt i) fun sv=>refresh s k i u (p++sub) fun more=>.done (more++(s,⟨k+1,.own (T.set v' (p++sub) T0)⟩)::(virt i,⟨verOf sv+1,.val .any⟩)::ups)
    | none=>.fail
   | _=>.fail
  | _,_=>.fail):=rfl
theorem Q2 {tt : Tt} {md : FuncId → List Bool} {i : Nat} {d : Option Tmp} {ty : TypeId} {pos : String} {aft : Array Edge} {g : Option (Nat × Bool)} (t : TypeId) (x : Operand) (f : Nat) : opRd tt md i ⟨d, .fieldAddr t x f, ty, pos, aft, g⟩ = (match tyAt tt t with
  | some ⟨_,_,_,.struct fs⟩=>match fs[f]? with
   | some (_,offf,szf)=>.need (szf≠0)<|rdv x fun
    | .addr s k p off sub=>if sub.isEmpty then .fail else rdn s k p fun _ _=>fin d (.addr s k p (off+offf) (sub++[f]))
    | .fptr (.agg l)=>match l[f]? with
     | some t0=>.need (T.sizeL (l.take f)=offf) (fin d (.fptr t0))
     | none=>.fail
    | _=>.fail
   | none=>.fail
  | _=>.fail):=rfl
theorem Abo {tt : Tt} {md : FuncId → List Bool} {i : Nat} {d : Option Tmp} {ty : TypeId} {pos : String} {aft : Array Edge} {g : Option (Nat × Bool)} (t : TypeId) (x : Operand) (f : Nat) : opRd tt md i ⟨d, .field t x f, ty, pos, aft, g⟩ = (match tyAt tt t with
  | some ⟨_,_,_,.struct fs⟩=>match fs[f]? with
   | some (tf,offf,szf)=>match tyAt tt tf with
    | some itf=>rdv x fun
     | .agg l=>match l[f]? with
      | some t0=>.need (T.sizeL (l.take f)=offf∧t0.size=szf∧t0.isAgg=itf.zero.isAgg) (fin d t0)
      | none=>.fail
     | _=>.fail
    | none=>.fail
   | none=>.fail
  | _=>.fail):=rfl
theorem Rc {tt : Tt} {md : FuncId → List Bool} {i : Nat} {d : Option Tmp} {ty : TypeId} {pos : String} {aft : Array Edge} {g : Option (Nat × Bool)} (t : TypeId) (x y : Operand) : opRd tt md i ⟨d, .indexAddr t x y, ty, pos, aft, g⟩ = (match tyAt tt t with
  | some ⟨_,_,_,.slice e⟩=>match tyAt tt e with
   | some ie=>rdv x fun v=>rdv y fun u=>intRd u fun n=>match v with
    | .ref s k p=>rdn s k p fun _ nd=>match nd with
     | .sl true e' l=>.need (e'=e∧0≤n∧n<l.length) (fin d (.addr s k p (n.toNat*ie.size) [n.toNat]))
     | .win e' kk hh l=>.need (e'=e∧0≤n∧n<((hh-kk:Nat):Int)∧ie.size=1) (fin d (.addr s k p (kk+n.toNat) [kk+n.toNat]))
     | _=>.fail
    | .sl false e' l=>.need (e'=e∧0≤n∧n<l.length) (fin d (.fptr (l.getD n.toNat .any)))
    | .str (.src _ _ l)=>.need (ie.size=1∧0≤n∧n<l.length) (fin d (.fptr (.int .u8 (l.getD n.toNat 0))))
    | .str (.raw a m cp)=>ghost a m cp fun l=>.need (ie.size=1∧0≤n∧n<l.length) (fin d (.fptr (.int .u8 (l.getD n.toNat 0))))
    | _=>.fail
   | none=>.fail
  | _=>.fail):=rfl
theorem Zf {tt : Tt} {md : FuncId → List Bool} {i : Nat} {d : Option Tmp} {ty : TypeId} {pos : String} {aft : Array Edge} {g : Option (Nat × Bool)} (t : TypeId) (x y : Operand) : opRd tt md i ⟨d, .index t x y, ty, pos, aft, g⟩ = (match tyAt tt t with
  | some ⟨_,_,_,.string⟩=>rdv x fun v=>rdv y fun u=>intRd u fun n=>match v with
   | .str (.str b)=>.need (0≤n∧n<(strN b:Int)) (fin d (.int .u8 (strI b n)))
   | _=>.fail
  | _=>.fail):=rfl
theorem Aan {tt : Tt} {md : FuncId → List Bool} {i : Nat} {d : Option Tmp} {ty : TypeId} {pos : String} {aft : Array Edge} {g : Option (Nat × Bool)} (t : TypeId) (x : Operand) (lo hi : Option Operand) : opRd tt md i ⟨d, .slice t x lo hi none, ty, pos, aft, g⟩ = (match tyAt tt t with
  | some ⟨_,_,_,.slice e⟩=>match tyAt tt e with
   | some _ie=>rdv x fun
    | .sl false e' l=>
     boundRd lo 0 fun a=>boundRd hi l.length fun b=>.need (e'=e∧0≤a∧a≤b∧b≤l.length) (fin d (.sl false e ((l.take b.toNat).drop a.toNat)))
    | .ref s k p=>(match d with
     | some d1=>if s=d1 then .fail else rdn s k p fun T0 nd=>match nd with
      | .sl true e' l => if _ie.kind.isSl then boundRd lo 0 fun a => boundRd hi l.length fun b => .need (e' = e ∧ 0 ≤ a ∧ a ≤ b ∧ b ≤ l.length ∧ a < l.length ∧ _ie.size = 1)
        (.rd d1 fun sd=>.done [(d1,⟨verOf sd+1,.own (.win e a.toNat b.toNat l)⟩),(s,⟨k,.own (T.set .any p T0)⟩)]) else
       if cutB lo hi then boundRd hi l.length fun c=>.need (e'=e∧0≤c∧c≤l.length∧_ie.size=1∧l.all T.scalar=true)
        (.rd d1 fun sd=>.done [(d1,⟨verOf sd+1,.own (.sl true e (l.take c.toNat))⟩),(s,⟨k,.own (T.set .any p T0)⟩)]) else
       boundRd lo 0 fun a=>if hi.isNone then .need (e'=e∧0≤a∧a<l.length∧_ie.size=1) (fin d (.addr s k p a.toNat [])) else boundRd hi l.length fun b=>.need (e'=e∧0≤a∧a≤b∧b≤l.length)
        (.rd d1 fun sd=>.done [(d1,⟨verOf sd,.val (.sl false e (((T.freezeL l).take b.toNat).drop a.toNat))⟩),(s,⟨k,.val T0.freeze⟩)])
      | _=>.fail
     | none=>.fail)
    | _=>.fail
   | none=>.fail
  | _=>.fail):=rfl
theorem Qh {tt : Tt} {md : FuncId → List Bool} {i : Nat} {d : Option Tmp} {ty : TypeId} {pos : String} {aft : Array Edge} {g : Option (Nat × Bool)} (t : TypeId) (x y : Operand) : opRd tt md i ⟨d, .makeSlice t x y, ty, pos, aft, g⟩ = (match tyAt tt t with
  | some ⟨_,_,_,.slice e⟩=>match tyAt tt e with
   | some ie=>rdv x fun v=>rdv y fun u=>match v,u with
    | .int .i64 n,.int .i64 m=>.need (n=m∧0≤n∧n≤1099511627776∧ie.bytes≤64∧ie.size=1∧ie.zero.isAgg=false) (finOwn d (.sl true e (List.replicate n.toNat ie.zero)) [])
    | _,_=>.fail
   | none=>.fail
  | _=>.fail):=rfl
theorem O9 {tt : Tt} {md : FuncId → List Bool} {i : Nat} {d : Option Tmp} {ty : TypeId} {pos : String} {aft : Array Edge} {g : Option (Nat × Bool)} (t : TypeId) (n : Nat) (parts : Array (Nat × Operand)) : opRd tt md i ⟨d, .buildSlice t n parts, ty, pos, aft, g⟩ = (match tyAt tt t with
  | some ⟨_,_,_,.slice e⟩=>match tyAt tt e with
   | some ie => if ie.size = 1 ∧ parts.toList.map (·.1) = List.range n ∧ n ≤ 1000 ∧ ie.zero.isAgg = false ∧ (n ≠ 1 ∨ ie.zero.scalar = true) then
     rdvL (parts.toList.map (·.2)) fun vs=>if vs.all (fun v=>v.pure&&v.refFree&&v.solid && !v.isAgg) then .need (∀ v∈vs,v.size=1) (finOwn d (.sl true e vs) []) else .fail
    else (match n,parts.toList with
     | 1,[(0,x)]=>rdv x fun v=>take (virt i) v fun v' ups=>.need (v'.size=ie.size∧v'.solid=true∧0<ie.size∧ie.size≤1000)<|match ups with
      | []=>finOwn d (.sl true e [v']) []
      | _=>.rd (virt i) fun sv=>finOwn d (.sl true e [v']) ((virt i,⟨verOf sv+1,.val .any⟩)::ups)
     | 0,[]=>finOwn d (.sl true e []) []
     | 2,[(0,x),(1,y)]=>rdv x fun v=>rdv y fun u=>if v.pure&&v.refFree&&v.solid&&(u.pure&&u.refFree&&u.solid) then .need (v.size=ie.size∧u.size=ie.size∧0<ie.size∧ie.size≤1000) (finOwn d (.sl true e [v,u]) []) else .fail
     | _,_=>.fail)
   | none=>.fail
  | _=>.fail):=rfl
theorem Aa0 {tt : Tt} {md : FuncId → List Bool} {i : Nat} {d : Option Tmp} {ty : TypeId} {pos : String} {aft : Array Edge} {g : Option (Nat × Bool)} (t : TypeId) (parts : Array (Nat × Operand)) : opRd tt md i ⟨d, .build t parts, ty, pos, aft, g⟩ = (match tyAt tt t with
  | some ⟨_, _, .agg zs, .struct fs⟩ => if fs.all (fun x => x.2.2 != 0) = false then .fail else
    buildRd fs parts.toList zs fun l=>fin d (.agg l)
  | _=>.fail):=rfl
theorem Z3 {tt:Tt} {md:FuncId→List Bool} {i:Nat} {d:Option Tmp} {ty:TypeId} {pos:String} {aft:Array Edge} {g:Option (Nat×Bool)} (op:BinOp) (t t':TypeId) (x y:Operand):opRd tt md i ⟨d,.binOp op t x y t',ty,pos,aft,g⟩=(rdv x fun v=>rdv y fun u=>binRd (isBoolTy tt t) op v u (fin d)):=rfl
theorem Ad3 {tt:Tt} {md:FuncId→List Bool} {i:Nat} {d:Option Tmp} {ty:TypeId} {pos:String} {aft:Array Edge} {g:Option (Nat×Bool)} (op:UnOp) (t':TypeId) (x:Operand):opRd tt md i ⟨d,.unOp op t' x,ty,pos,aft,g⟩=(rdv x fun v=>unRd op v (fin d)):=rfl
theorem Te {tt : Tt} {md : FuncId → List Bool} {i : Nat} {d : Option Tmp} {ty : TypeId} {pos : String} {aft : Array Edge} {g : Option (Nat × Bool)} (s t : TypeId) (x : Operand) : opRd tt md i ⟨d, .convert s t x, ty, pos, aft, g⟩ = (match tyAt tt s with
  | some _=>match tyAt tt t with
   | some ⟨_,_,_,.int k⟩=>rdv x fun v=>intRd v fun n=>fin d (.int k (k.wrap n))
   | _=>.fail
  | none=>.fail):=rfl
theorem Uv {tt : Tt} {md : FuncId → List Bool} {i : Nat} {d : Option Tmp} {ty : TypeId} {pos : String} {aft : Array Edge} {g : Option (Nat × Bool)} (x : Operand) (j : Nat) : opRd tt md i ⟨d, .extract x j, ty, pos, aft, g⟩ = (rdv x fun
  | .tup l=>match l[j]? with
   | some t=>fin d t
   | none=>.fail
  | _=>.fail):=rfl
theorem Ss {tt : Tt} {md : FuncId → List Bool} {i : Nat} {d : Option Tmp} {ty : TypeId} {pos : String} {aft : Array Edge} {g : Option (Nat × Bool)} (f : FuncId) (first caps : Array Operand) : opRd tt md i ⟨d, .makeFunc (.func f) first caps, ty, pos, aft, g⟩ = (if first.size = 0 ∧ f < 1000000 then
   rdvL caps.toList fun vs=>fin d (.fn f vs) else if caps.size=0∧first.size≠0 then
   rdvL first.toList fun vs=>fin d (.fn (1000000+f) vs) else .fail):=rfl
theorem Vt {tt:Tt} {md:FuncId→List Bool} {i:Nat} {d:Option Tmp} {ty:TypeId} {pos:String} {aft:Array Edge} {g:Option (Nat×Bool)} (b:Builtin) (args:List Operand) (tys:List TypeId):opRd tt md i ⟨d,.call ⟨.builtin b,args.toArray,tys.toArray⟩,ty,pos,aft,g⟩=builtinRd' tt d b args tys i:=rfl
theorem Ae7 {tt : Tt} {md : FuncId → List Bool} {i : Nat} {d : Option Tmp} {ty : TypeId} {pos : String} {aft : Array Edge} {g : Option (Nat × Bool)} (x : Operand) (args : List Operand) (tys : Array TypeId) : opRd tt md i ⟨d, .call ⟨.value x, args.toArray, tys⟩, ty, pos, aft, g⟩ = (rdv x fun
   | .fn f caps=>callRd' md d f args caps i
   | _=>.fail):=rfl
attribute [go_sem ↓] Ahe Agq Aev Xn Sc Aez Abb Af9 Afs Acl Q2 Abo Rc Zf Aan Qh O9 Aa0 Z3 Ad3 Te Uv Ss Vt Ae7
attribute [go_sem ↓] Zo Zw
attribute [go_sem] List.size_toArray List.toList_toArray
theorem Ae4 {isB:Bool} {k:IntKind} {a b:Int} {c:T→Rd}:binRd isB .add (.int k a) (.int k b) c=c (.int k (k.wrap (a+b))):=by simp only [binRd,wrapInt,if_true]
theorem Afl {isB:Bool} {k:IntKind} {a b:Int} {c:T→Rd}:binRd isB .sub (.int k a) (.int k b) c=c (.int k (k.wrap (a-b))):=by simp only [binRd,wrapInt,if_true]
theorem Aew {isB:Bool} {k:IntKind} {a b:Int} {c:T→Rd}:binRd isB .mul (.int k a) (.int k b) c=c (.int k (k.wrap (a*b))):=by simp only [binRd,wrapInt,if_true]
theorem Aeh {isB:Bool} {k:IntKind} {a b:Int} {c:T→Rd}:binRd isB .eql (.int k a) (.int k b) c=c (.bool (a==b)):=by simp only [binRd,wrapInt,if_true]
theorem Acw {isB:Bool} {k:IntKind} {a b:Int} {c:T→Rd}:binRd isB .neq (.int k a) (.int k b) c=c (.bool (a != b)):=by simp only [binRd,wrapInt,if_true]
theorem Adz {isB:Bool} {k:IntKind} {a b:Int} {c:T→Rd}:binRd isB .lss (.int k a) (.int k b) c=c (.bool (decide (a<b))):=by simp only [binRd,wrapInt,if_true]
theorem Aem {isB:Bool} {k:IntKind} {a b:Int} {c:T→Rd}:binRd isB .leq (.int k a) (.int k b) c=c (.bool (decide (a≤b))):=by simp only [binRd,wrapInt,if_true]
theorem Afo {isB:Bool} {k:IntKind} {a b:Int} {c:T→Rd}:binRd isB .gtr (.int k a) (.int k b) c=c (.bool (decide (b<a))):=by simp only [binRd,wrapInt,if_true]
theorem Aek {isB:Bool} {k:IntKind} {a b:Int} {c:T→Rd}:binRd isB .geq (.int k a) (.int k b) c=c (.bool (decide (b≤a))):=by simp only [binRd,wrapInt,if_true]
theorem Afy {isB:Bool} {k:IntKind} {a b:Int} {c:T→Rd}:binRd isB .quo (.int k a) (.int k b) c=.need (b≠0) (c (.int k (k.wrap (a.tdiv b)))):=by simp only [binRd,wrapInt,if_true]
theorem Acu {isB:Bool} {k:IntKind} {a b:Int} {c:T→Rd}:binRd isB .rem (.int k a) (.int k b) c=.need (b≠0) (c (.int k (a.tmod b))):=by simp only [binRd,wrapInt,if_true]
theorem Aeg {isB:Bool} {k k':IntKind} {a b:Int} {c:T→Rd}:binRd isB .shr (.int k a) (.int k' b) c=.need (0≤b) (c (.int k (shrI k a b))):=by simp only [binRd]
theorem Aeb {isB:Bool} {k k':IntKind} {a b:Int} {c:T→Rd}:binRd isB .shl (.int k a) (.int k' b) c=.need (0≤b) (c (.int k (shlI k a b))):=by simp only [binRd]
def orI (k:IntKind) (a b:Int):Int:=k.wrap ((BitVec.ofInt k.bits a ||| BitVec.ofInt k.bits b).toNat:Int)
theorem Aha {isB:Bool} {k:IntKind} {a b:Int} {c:T→Rd}:binRd isB .or (.int k a) (.int k b) c=c (.int k (orI k a b)):=by simp only [binRd,wrapInt,if_true,orI]
def andI (k:IntKind) (a b:Int):Int:=k.wrap ((BitVec.ofInt k.bits a &&& BitVec.ofInt k.bits b).toNat:Int)
theorem Afv {isB:Bool} {k:IntKind} {a b:Int} {c:T→Rd}:binRd isB .and (.int k a) (.int k b) c=c (.int k (andI k a b)):=by simp only [binRd,wrapInt,if_true,andI]
theorem Ae2 (a:Option Addr) (cp:Nat) (l:List Int) (c:List T→Rd):elems (.str (.src a cp l)) c=c (l.map (T.int .u8)):=rfl
theorem Ae1 (a:Option Addr) (n cp:Nat) (c:List T→Rd):elems (.str (.raw a n cp)) c=ghost a n cp fun l=>c (l.map (T.int .u8)):=rfl
theorem Ajb:cutB none none=false:=rfl
theorem Aj2 (v:Value):cutB none (some (.const v))=true:=rfl
theorem Ajm (t:Nat):cutB none (some (.tmp t))=false:=rfl
theorem Alz (x:Operand) (y:Option Operand):cutB (some x) y=false:=by cases y <;> rfl
attribute [go_sem ↓] Ajb Aj2 Ajm Alz
attribute [go_sem ↓] Aeg Aeb Aha Afv Ae2 Ae1
attribute [go_sem ↓] Ae4 Afl Aew Aeh Acw Adz Aem Afo Aek Afy Acu
theorem V8 {AF : FuncId → List T → T → Prop} {t : Nat} {c : T → Rd} {env : Env} {K : List (Nat × Slot) → List Nat → Prop} : Rd.run AF (rdv (.tmp t) c) env K = (match lk env t with
  | some ⟨_,.val y⟩=>Rd.run AF (c y) env (fun U R=>K U (t::R))
  | some ⟨k,.own y⟩=>Rd.run AF (c (T.borrow t k [] y)) env (fun U R=>K U (t::R))
  | _=>False):=by
 simp only [rdv,Rd.run]
 cases lk env t with
 | none=>rfl
 | some s=>obtain ⟨k,v⟩:=s;cases v <;> rfl
theorem Xr {AF:FuncId→List T→T→Prop} {k:IntKind} {n:Int} {c:T→Rd} {env:Env} {K:List (Nat×Slot)→List Nat→Prop}:Rd.run AF (rdv (.const (.int k n)) c) env K=Rd.run AF (c (.int k n)) env K:=rfl
theorem T5 {AF:FuncId→List T→T→Prop} {n:Bool} {c:T→Rd} {env:Env} {K:List (Nat×Slot)→List Nat→Prop}:Rd.run AF (rdv (.const (.bool n)) c) env K=Rd.run AF (c (.bool n)) env K:=rfl
theorem Wp {AF:FuncId→List T→T→Prop} {n:ByteArray} {c:T→Rd} {env:Env} {K:List (Nat×Slot)→List Nat→Prop}:Rd.run AF (rdv (.const (.string n)) c) env K=Rd.run AF (c (.str (.str n))) env K:=rfl
theorem Pb {AF:FuncId→List T→T→Prop} {c:T→Rd} {env:Env} {K:List (Nat×Slot)→List Nat→Prop}:Rd.run AF (rdv (.const .nilFunc) c) env K=Rd.run AF (c (.str .nilFunc)) env K:=rfl
theorem Q0 {AF:FuncId→List T→T→Prop} {c:T→Rd} {env:Env} {K:List (Nat×Slot)→List Nat→Prop}:Rd.run AF (rdv (.const (.pointer Option.none)) c) env K=Rd.run AF (c (.str .nilPtr)) env K:=rfl
theorem X1 {AF:FuncId→List T→T→Prop} {c:T→Rd} {env:Env} {K:List (Nat×Slot)→List Nat→Prop}:Rd.run AF (rdv (.const (.slice Option.none 0 0)) c) env K=Rd.run AF (c .nil) env K:=rfl
theorem Un {AF:FuncId→List T→T→Prop} {f:FuncId} {c:T→Rd} {env:Env} {K:List (Nat×Slot)→List Nat→Prop}:Rd.run AF (rdv (.func f) c) env K=Rd.run AF (c (.fn f [])) env K:=rfl
theorem Ajw {AF : FuncId → List T → T → Prop} {s k : Nat} {p : List Nat} {c : T → T → Rd} {env : Env} {K : List (Nat × Slot) → List Nat → Prop} : Rd.run AF (rdn s k p c) env K = (match lk env s with
  | some ⟨k',.own T0⟩=>if k'=k then (match T.get p T0 with
   | some n=>if n.isNode then Rd.run AF (c T0 n) env (fun U R=>K U (s::R)) else False
   | none=>False) else False
  | _=>False):=by
 simp only [rdn,Rd.run]
 cases lk env s with
 | none=>rfl
 | some x=>
  obtain ⟨k',v⟩:=x
  cases v with
  | own T0=>
   by_cases h:k'=k
   ·simp only [h,if_true]
    cases T.get p T0 with
    | none=>rfl
    | some n=>cases g:n.isNode <;> simp [Rd.run,g]
   ·simp only [h,if_false];rfl
  | _=>rfl
theorem Ua {AF:FuncId→List T→T→Prop} {d:Nat} {x:T} {env:Env} {K:List (Nat×Slot)→List Nat→Prop}:Rd.run AF (fin (some d) x) env K=K [(d,⟨verOf (lk env d),.val x⟩)] [d]:=rfl
theorem Uc {AF:FuncId→List T→T→Prop} {x:T} {env:Env} {K:List (Nat×Slot)→List Nat→Prop}:Rd.run AF (fin none x) env K=K [] []:=rfl
theorem Z8 {AF:FuncId→List T→T→Prop} {d:Nat} {x:T} {ups:List (Nat×Slot)} {env:Env} {K:List (Nat×Slot)→List Nat→Prop}:Rd.run AF (finOwn (some d) x ups) env K=K ((d,⟨verOf (lk env d)+1,.own x⟩)::ups) [d]:=rfl
theorem Ahq {AF:FuncId→List T→T→Prop} {p:Prop} {k:Rd} {env:Env} {K:List (Nat×Slot)→List Nat→Prop}:Rd.run AF (.need p k) env K=(p∧Rd.run AF k env K):=rfl
theorem Al0 {AF:FuncId→List T→T→Prop} {t:Nat} {k:Option Slot→Rd} {env:Env} {K:List (Nat×Slot)→List Nat→Prop}:Rd.run AF (.rd t k) env K=Rd.run AF (k (lk env t)) env (fun U R=>K U (t::R)):=rfl
theorem Aie {AF:FuncId→List T→T→Prop} {ups:List (Nat×Slot)} {env:Env} {K:List (Nat×Slot)→List Nat→Prop}:Rd.run AF (.done ups) env K=K ups []:=rfl
theorem Ahr {AF:FuncId→List T→T→Prop} {env:Env} {K:List (Nat×Slot)→List Nat→Prop}:Rd.run AF .fail env K=False:=rfl
theorem Ahm {AF:FuncId→List T→T→Prop} {f:FuncId} {args:List T} {ups:T→List (Nat×Slot)} {env:Env} {K:List (Nat×Slot)→List Nat→Prop}:Rd.run AF (.call f args ups) env K=(∃ r,AF f args r∧K (ups r) []):=rfl
@[congr] theorem run_congr {AF:FuncId→List T→T→Prop} {r r':Rd} {env:Env} {K:List (Nat×Slot)→List Nat→Prop} (h:r=r'):Rd.run AF r env K=Rd.run AF r' env K:=by rw [h]
@[congr] theorem rdv_congr {x:Operand} {c:T→Rd}:rdv x c=rdv x c:=rfl
@[congr] theorem rdn_congr {s k:Nat} {p:List Nat} {c:T→T→Rd}:rdn s k p c=rdn s k p c:=rfl
@[congr] theorem resolve_congr {t t':T} {c:T→Rd} (h:t=t'):resolve t c=resolve t' c:=by rw [h]
@[congr] theorem rd_congr {t:Nat} {k:Option Slot→Rd}:Rd.rd t k=Rd.rd t k:=rfl
@[congr] theorem need_congr {p:Prop} {k:Rd}:Rd.need p k=Rd.need p k:=rfl
@[congr] theorem fin_congr {d:Option Nat} {x:T}:fin d x=fin d x:=rfl
@[congr] theorem finOwn_congr {d:Option Nat} {x:T} {ups:List (Nat×Slot)}:finOwn d x ups=finOwn d x ups:=rfl
attribute [go_sem ↓] V8 Xr T5 Wp Pb Q0 X1 Un Ajw Ua Uc Z8 Ahq Al0 Aie Ahr Ahm
theorem Af5:(∀ v∈([]:List T),v.size=1)↔True:=by simp
theorem Rk:T.sizeL []=0:=rfl
attribute [go_sem] ioUps itUps wtUps ioGUps ghost List.length_map skipRd mkSV T.noOwnL verOf binRd unRd wrapInt intRd boundRd resolveL T.sizeL T.pureL T.refFreeL T.solidL T.get T.set T.part T.offN T.getI T.offI T.withKids T.borrowL T.freezeL take virt holeAt elems elemsE appendBase appendOwn vetted buildRd pureRd giveRd zipB T.plainL md
attribute [go_sem] TK.isSl T.fgt T.fgtL refresh notPre calm calmT sameCells T.blank T.hands T.handsL T.shift T.shiftL one3 two3 rdo sUps T.flat kUps cUps xUps T.away T.awayL List.drop_zero List.drop_succ_cons
attribute [go_sem] List.range_zero List.forall_mem_cons Af5 Int.natCast_zero Int.cast_ofNat_Int bne_self_eq_false beq_self_eq_true argEnv resSrc T.noFL J1
attribute [go_sem ↓] skipRd binRd unRd intRd boundRd resolveL rdvL take elems elemsE appendBase appendOwn vetted buildRd pureRd giveRd callRd' ioRd ioGRd kRd cRd sRd yRd kUps cUps sUps rdo xRd xUps ghost builtinRd' lk isBoolTy mkSV verOf T.noOwnL T.sizeL T.pureL T.refFreeL T.solidL T.plainL T.freezeL T.borrowL
theorem All:tyAt tt 2=some ⟨1,8,.int .i64 0,.int .i64⟩:=rfl
theorem Ak7:tyAt tt 3=some ⟨1,8,.int .i64 0,.int .i64⟩:=rfl
theorem Amu:tyAt tt 4=some ⟨1,1,.bool false,.bool⟩:=rfl
theorem Ajh:tyAt tt 27=some ⟨1,24,.nil,.slice 2⟩:=rfl
theorem Ajn:tyAt tt 24=some ⟨1,24,.nil,.slice 27⟩:=rfl
theorem Ah0:tyAt tt 120=some ⟨1,24,.nil,.slice 3⟩:=rfl
theorem Agt:tyAt tt 157=some ⟨1,8,.int .u64 0,.int .u64⟩:=rfl
theorem Akr:tyAt tt 9=some ⟨1,16,.str (.str ⟨#[]⟩),.string⟩:=rfl
theorem Ak8:tyAt tt 5=some ⟨1,1,.int .u8 0,.int .u8⟩:=rfl
theorem Ag0:tyAt tt 153=some ⟨1,8,.int .u64 0,.int .u64⟩:=rfl
theorem Ai8:tyAt tt 22=some ⟨1,24,.nil,.slice 5⟩:=rfl
theorem Aig:tyAt tt 155=some ⟨3,40,.agg [.nil,.int .i64 0,.int .u64 0],.struct [(22,0,1),(3,1,1),(153,2,1)]⟩:=rfl
theorem Aj8:tyAt tt 29=some ⟨2,32,.agg [.int .i64 0,.nil],.struct [(2,0,1),(27,1,1)]⟩:=rfl
theorem Akj:tyAt tt 26=some ⟨2,32,.agg [.int .i64 0,.nil],.struct [(2,0,1),(24,1,1)]⟩:=rfl
theorem Agk:tyAt tt 187=some ⟨1,24,.nil,.slice 24⟩:=rfl
theorem Ag4:tyAt tt 184=some ⟨1,24,.nil,.slice 26⟩:=rfl
theorem Ag5:tyAt tt 142=some ⟨1,24,.nil,.slice 29⟩:=rfl
theorem Ajt:tyAt tt 86=some ⟨1,8,.str .nilFunc,.plain⟩:=rfl
theorem Akd:tyAt tt 85=some ⟨1,8,.str .nilFunc,.plain⟩:=rfl
attribute [go_sem ↓] All Ak7 Amu Ajh Ajn Ah0 Agt Akr Ak8 Ag0 Ai8 Aig Aj8 Akj Agk Ag4 Ag5 Ajt Akd
attribute [go_sem] List.any_nil List.any_cons List.map_cons List.map_nil List.cons_append List.nil_append List.append_nil Option.bind_some Option.bind_none List.getElem?_toArray List.getElem?_cons_zero List.getElem?_cons_succ true_and and_true id_eq Bool.not_false Bool.not_true Bool.false_eq_true decide_eq_true_eq Bool.or_false Bool.false_or Fs Ev Pu Jd Bf List.modify_zero_cons List.modify_succ_cons List.eraseIdx_cons_succ List.eraseIdx_cons_zero List.set_cons_succ List.set_cons_zero List.eraseIdx_nil Option.getD_some Option.getD_none Nat.zero_add Nat.add_zero eq_self Bool.and_true Bool.true_and Bool.and_self Bool.and_false Bool.false_and List.take_zero List.take_succ_cons List.take_nil Option.map_some List.length_cons List.length_nil ne_eq Nat.one_ne_zero not_false_eq_true and_self ge_iff_le gt_iff_lt Int.toNat_zero Int.le_refl List.all_cons List.all_nil
theorem AWP.condT {C:Ctx} {n:Nat} {Q:Exit→Env→Prop} {env:Env} {c:Nat} {x y:Code} {k:Nat} (hc:c<1000000) (hl:lk env c=some ⟨k,.val (.bool true)⟩) (h:AWP C n x Q env):AWP C n (.cond (.tmp c) x y) Q env:=
 AWP.cond hc hl (fun _=>h) (fun h=>by cases h)
theorem AWP.condF {C:Ctx} {n:Nat} {Q:Exit→Env→Prop} {env:Env} {c:Nat} {x y:Code} {k:Nat} (hc:c<1000000) (hl:lk env c=some ⟨k,.val (.bool false)⟩) (h:AWP C n y Q env):AWP C n (.cond (.tmp c) x y) Q env:=
 AWP.cond hc hl (fun h=>by cases h) (fun _=>h)
theorem retOk1 {tt:Tt} {x:ResultVar} {r:T} {env:Env} {a:Nat×List Nat×T} (h:resSrc tt env x=some a) (hr:r=a.2.2):retOk tt [x] r env:=
 ⟨[a],by simp [h],Fn (by simp),hr⟩
theorem retOk2 {tt:Tt} {x y:ResultVar} {r:T} {env:Env} {a b:Nat×List Nat×T} (h:resSrc tt env x=some a) (g:resSrc tt env y=some b) (hn:a.1≠b.1) (hr:r=.tup [a.2.2,b.2.2]):retOk tt [x,y] r env:=
 ⟨[a,b],by simp [h,g],Fn (by simpa using hn),hr⟩
theorem retOk3 {tt:Tt} {x y z:ResultVar} {r:T} {env:Env} {a b c:Nat×List Nat×T} (h:resSrc tt env x=some a) (g:resSrc tt env y=some b) (k:resSrc tt env z=some c) (hn:a.1≠b.1∧a.1≠c.1∧b.1≠c.1) (hr:r=.tup [a.2.2,b.2.2,c.2.2]):retOk tt [x,y,z] r env:=
 ⟨[a,b,c],by simp [h,g,k],Fn (by simpa [and_assoc] using hn),hr⟩
theorem retOk4 {tt:Tt} {x1 x2 x3 x4:ResultVar} {r:T} {env:Env} {a1 a2 a3 a4:Nat×List Nat×T} (h1:resSrc tt env x1=some a1) (h2:resSrc tt env x2=some a2) (h3:resSrc tt env x3=some a3) (h4:resSrc tt env x4=some a4) (hn:[a1.1,a2.1,a3.1,a4.1].Nodup) (hr:r=.tup [a1.2.2,a2.2.2,a3.2.2,a4.2.2]):retOk tt [x1,x2,x3,x4] r env:=
 ⟨[a1,a2,a3,a4],by simp [h1,h2,h3,h4],Fn hn,hr⟩
theorem retOk5 {tt:Tt} {x1 x2 x3 x4 x5:ResultVar} {r:T} {env:Env} {a1 a2 a3 a4 a5:Nat×List Nat×T} (h1:resSrc tt env x1=some a1) (h2:resSrc tt env x2=some a2) (h3:resSrc tt env x3=some a3) (h4:resSrc tt env x4=some a4) (h5:resSrc tt env x5=some a5) (hn:[a1.1,a2.1,a3.1,a4.1,a5.1].Nodup) (hr:r=.tup [a1.2.2,a2.2.2,a3.2.2,a4.2.2,a5.2.2]):retOk tt [x1,x2,x3,x4,x5] r env:=
 ⟨[a1,a2,a3,a4,a5],by simp [h1,h2,h3,h4,h5],Fn hn,hr⟩
theorem AWP.text' {C : Ctx} {P : Program} (hC : C.P = P) {n : Nat} {Q : Exit → Env → Prop} {env : Env} {tt : Tt} (hP : TtOk C.P tt) (md : FuncId → List Bool) (hn1 : n ≤ 1000000) {l : List Oper} {id : Nat} (hok : l.all (opOk n) = true)
  (h:rgn (AFn P) (fun _=>True) (Q .normal) (gRds tt md l.toArray l 0) env []):AWP C n (.region id l.toArray false) Q env:=AWP.text hP md hn1 (by simpa using hok) (by subst hC;simpa using h)
theorem AWP.any' {C : Ctx} {P : Program} (hC : C.P = P) {n : Nat} {Q : Exit → Env → Prop} {env : Env} {tt : Tt} (hm : C.P.follows .mixedOrders = true) (hP : TtOk C.P tt) (md : FuncId → List Bool) (hn1 : n ≤ 1000000) {l : List Oper} {id : Nat} (hok : l.all (opOk n) = true)
  (h:rgn (AFn P) (fun tr=>okB l.toArray tr=true) (Q .normal) (gRds tt md l.toArray l 0) env []):AWP C n (.region id l.toArray true) Q env:=AWP.any hm hP md hn1 (by simpa using hok) (by subst hC;simpa using h)
theorem AFn.of' {P : Program} {tt : Tt} (hP : TtOk P tt) {f : FuncId} (hlt : f < 1000000) {fn : Func} {c : Code} {args : List T} {r : T} {n : Nat} {rs : List ResultVar} {e : Env} (hf : P.funcs[f]? = some fn) (hn : fn.ntmps = n) (hrs : fn.results.toList = rs) (hb : fn.body = some c) (hname : (fn.name == "runtime.NumGoroutine") = false) (hargs : args.length ≤ n)
  (h3:rs.length=1∨rs.length=2∨rs.length=3∨rs.length=4∨rs.length=5) (he:argEnv 0 args=e) (hm:P.follows .mixedOrders=true) (h:∀ C:Ctx,TtOk C.P tt→C.P.follows .mixedOrders=true→C.P=P→AWP C n c (endQ tt rs r) e):AFn P f args r:=by
 subst hn;subst hrs;subst he
 exact AFn.of hP hlt hf hb hname hargs h3 (fun C hC=>h C (hC▸hP) (hC▸hm) hC)
theorem AFg.of' {P : Program} {tt : Tt} (hP : TtOk P tt) {f : FuncId} {fn : Func} {c : Code} {e : TypeId} {ts ts' rest : List T} {g r1 : T} {n : Nat} {rs : List ResultVar} {E : Env} (hf : P.funcs[f]? = some fn) (hn : fn.ntmps = n) (hrs : fn.results.toList = rs) (hb : fn.body = some c) (hname : (fn.name == "runtime.NumGoroutine") = false) (hargs : rest.length + 1 ≤ n)
  (hn2:n≤1000000) (h3:rs.length=1∨rs.length=2∨rs.length=3∨rs.length=4∨rs.length=5) (hsc:∀ t∈ts,t.scalar=true) (hsc':∀ t∈ts',t.scalar=true) (hlen:ts'.length=ts.length) (he:(0,⟨0,.val (.addr 3000001 0 [] 0 [0])⟩)::(3000000,⟨0,.val g⟩)::(3000001,⟨0,.own (.box e (.agg ts))⟩)::argEnv 0 (.any::rest)=E) (hm:P.follows .mixedOrders=true)
  (h:∀ C:Ctx,TtOk C.P tt→C.P.follows .mixedOrders=true→C.P=P→AWP C n c (endQG tt rs r1 e ts') E) (hlt:f<1000000:=by decide):AFn P (5000000+f) (g::.box e (.agg ts)::rest) (.tup [r1,.box e (.agg ts')]):=by
 subst hn;subst hrs;subst he
 exact (Aiu hlt).2 (AFg.of hP hf hb hname hargs (by omega) h3 hsc hsc' hlen (fun C hC=>h C (hC▸hP) (hC▸hm) hC))
theorem retG1 {tt:Tt} {x:ResultVar} {r:T} {e:TypeId} {ts':List T} {env:Env} {a:Nat×List Nat×T} (h:resSrc tt env x=some a) (h0:a.1≠3000001) (hl:lk env 3000001=some ⟨0,.own (.box e (.agg ts'))⟩) (hr:r=a.2.2):endQG tt [x] r e ts' .ret env:=
 ⟨[a],by simp [h],Fn (by simp),by simpa using fun e=>h0 e.symm,hr,hl⟩
theorem retG3 {tt:Tt} {x1 x2 x3:ResultVar} {r:T} {e:TypeId} {ts':List T} {env:Env} {a1 a2 a3:Nat×List Nat×T} (h1:resSrc tt env x1=some a1) (h2:resSrc tt env x2=some a2) (h3:resSrc tt env x3=some a3) (hn:[3000001,a1.1,a2.1,a3.1].Nodup) (hl:lk env 3000001=some ⟨0,.own (.box e (.agg ts'))⟩) (hr:r=.tup [a1.2.2,a2.2.2,a3.2.2]):endQG tt [x1,x2,x3] r e ts' .ret env:=
 ⟨[a1,a2,a3],by simp [h1,h2,h3],Fn (List.nodup_cons.1 hn).2,(List.nodup_cons.1 hn).1,hr,hl⟩
def qS:=And.intro @Up<|And.intro @Ae5<|And.intro @Aaq<|And.intro @Sl<|And.intro @Acc<|And.intro @Xc<|And.intro @V1<|And.intro @Nat.one_ne_zero @Nat.zero_ne_one
theorem cT {C:Ctx} {n:Nat} {Q:Exit→Env→Prop} {env:Env} {c:Nat} {x y:Code} {k:Nat} (hl:lk env c=some ⟨k,.val (.bool true)⟩) (h:AWP C n x Q env) (hc:c<1000000:=by decide):AWP C n (.cond (.tmp c) x y) Q env:=AWP.condT hc hl h
theorem cF {C:Ctx} {n:Nat} {Q:Exit→Env→Prop} {env:Env} {c:Nat} {x y:Code} {k:Nat} (hl:lk env c=some ⟨k,.val (.bool false)⟩) (h:AWP C n y Q env) (hc:c<1000000:=by decide):AWP C n (.cond (.tmp c) x y) Q env:=AWP.condF hc hl h
theorem cTa {C:Ctx} {n:Nat} {Q:Exit→Env→Prop} {env:Env} {c:Nat} {x y:Code} {k:Nat} (h:AWP C n x Q env) (hl:lk env c=some ⟨k,.val (.bool true)⟩:=by simp only [go_sem,Nat.reduceEqDiff,↓reduceIte];with_reducible rfl) (hc:c<1000000:=by decide):AWP C n (.cond (.tmp c) x y) Q env:=AWP.condT hc hl h
theorem cFa {C:Ctx} {n:Nat} {Q:Exit→Env→Prop} {env:Env} {c:Nat} {x y:Code} {k:Nat} (h:AWP C n y Q env) (hl:lk env c=some ⟨k,.val (.bool false)⟩:=by simp only [go_sem,Nat.reduceEqDiff,↓reduceIte];with_reducible rfl) (hc:c<1000000:=by decide):AWP C n (.cond (.tmp c) x y) Q env:=AWP.condF hc hl h
theorem tX {C : Ctx} {P : Program} (hC : C.P = P) {n : Nat} {Q : Exit → Env → Prop} {env : Env} {tt : Tt} (hP : TtOk C.P tt) {l : List Oper} {id : Nat} (hok : l.all (opOk n) = true)
  (h:rgn (AFn P) (fun _=>True) (Q .normal) (gRds tt md l.toArray l 0) env []) (hn1:n≤1000000:=by decide):AWP C n (.region id l.toArray false) Q env:=AWP.text' hC hP md hn1 hok h
theorem aX {C : Ctx} {P : Program} (hC : C.P = P) {n : Nat} {Q : Exit → Env → Prop} {env : Env} {tt : Tt} (hm : C.P.follows .mixedOrders = true) (hP : TtOk C.P tt) {l : List Oper} {id : Nat} (hok : l.all (opOk n) = true)
  (h:rgn (AFn P) (fun tr=>okB l.toArray tr=true) (Q .normal) (gRds tt md l.toArray l 0) env []) (hn1:n≤1000000:=by decide):AWP C n (.region id l.toArray true) Q env:=AWP.any' hC hm hP md hn1 hok h
attribute [go_sem] true_or or_true false_or or_false List.isEmpty_cons List.isEmpty_nil not_true_eq_false
attribute [go_sem] decide_true decide_false
theorem rC {AF : FuncId → List T → T → Prop} {chk : List (List Nat × List Nat) → Prop} {Q : Env → Prop} {tt : Tt} {md : FuncId → List Bool} {ops : Array Oper} {o : Oper} {l : List Oper} {i j : Nat} {env : Env} {acc : List (List Nat × List Nat)}
  (hj:i+1=j) (h:∀ K:List (Nat×Slot)→List Nat→Prop,(∀ U R env',rgn AF chk Q (gRds tt md ops l j) env' ((U.map (·.1),R)::acc)→(he:U++env=env':=by simp only [go_sem,Nat.reduceEqDiff,↓reduceIte];rfl)→K U R)→(gRd tt md ops i o).run AF env K) :
  rgn AF chk Q (gRds tt md ops (o::l) i) env acc:=Ah6 hj fun K hK=>h K fun U R e g he=>hK U R e he g
theorem rN {AF : FuncId → List T → T → Prop} {chk : List (List Nat × List Nat) → Prop} {Q : Env → Prop} {tt : Tt} {md : FuncId → List Bool} {ops : Array Oper} {i : Nat} {env : Env} {acc : List (List Nat × List Nat)}
  (h2:Q env) (h:chk acc.reverse:=by first|trivial|kernel_rfl):rgn AF chk Q (gRds tt md ops [] i) env acc:=⟨h,h2⟩
theorem sQ {C:Ctx} {n:Nat} {Q:Exit→Env→Prop} {env:Env} {x y:Code} (h:AWP C n x (thenQ (AWP C n y Q) Q) env):AWP C n (.seq x y) Q env:=AWP.seq h
theorem kQ {C:Ctx} {n:Nat} {Q:Exit→Env→Prop} {env:Env} (h:Q .normal env):AWP C n .skip Q env:=AWP.skip h
theorem lQ {C:Ctx} {n:Nat} {Q:Exit→Env→Prop} {env:Env} {l:Nat} (h:Q .normal env):AWP C n (.label l) Q env:=AWP.label h
theorem eQ {C:Ctx} {n:Nat} {Q:Exit→Env→Prop} {env:Env} {id:Nat} (h:Q (.exit id) env):AWP C n (.exit id) Q env:=AWP.exit h
theorem bQ {C:Ctx} {n:Nat} {Q:Exit→Env→Prop} {env:Env} {id:Nat} {c:Code} (h:AWP C n c (blockQ id Q) env):AWP C n (.block id c) Q env:=AWP.block h
theorem tY {C : Ctx} {P : Program} (hC : C.P = P) {n : Nat} {Q : Exit → Env → Prop} {env : Env} {tt : Tt} (hP : TtOk C.P tt) {l : List Oper} {id : Nat}
  (h:rgn (AFn P) (fun _=>True) (Q .normal) (gRds tt md l.toArray l 0) env []) (hok:l.all (opOk n)=true:=by kernel_rfl) (hn1:n≤1000000:=by decide):AWP C n (.region id l.toArray false) Q env:=tX hC hP hok h hn1
theorem aY {C : Ctx} {P : Program} (hC : C.P = P) {n : Nat} {Q : Exit → Env → Prop} {env : Env} {tt : Tt} (hm : C.P.follows .mixedOrders = true) (hP : TtOk C.P tt) {l : List Oper} {id : Nat}
  (h:rgn (AFn P) (fun tr=>okB l.toArray tr=true) (Q .normal) (gRds tt md l.toArray l 0) env []) (hok:l.all (opOk n)=true:=by kernel_rfl) (hn1:n≤1000000:=by decide):AWP C n (.region id l.toArray true) Q env:=aX hC hm hP hok h hn1
theorem sT {G A:Prop} (h:A) (f:A→G:=by first|(with_reducible first|exact fun h=>rN h|exact fun h=>sQ h|exact fun h=>tY ‹_› ‹_› h|exact fun h=>aY ‹_› ‹_› ‹_› h|exact fun h=>kQ h|exact fun h=>lQ h|exact fun h=>eQ h|exact fun h=>bQ h|exact fun h=>cTa h|exact fun h=>cFa h)|(intro h;simp only [qS,Nat.reduceEqDiff,↓reduceIte];exact h)):G:=f h
theorem rt1 {C:Ctx} {n:Nat} {Q:Exit→Env→Prop} {tt:Tt} {x:ResultVar} {r:T} {env:Env} {a:Nat×List Nat×T} (h:r=a.2.2) (hq:Q .ret env=retOk tt [x] r env:=by rfl) (h1:resSrc tt env x=some a:=by simp only [go_sem,seval,↓reduceIte];rfl):AWP C n .ret Q env:=AWP.ret (hq.mpr (retOk1 h1 h))
theorem rt2 {C:Ctx} {n:Nat} {Q:Exit→Env→Prop} {tt:Tt} {x y:ResultVar} {r:T} {env:Env} {a b:Nat×List Nat×T} (h:r=.tup [a.2.2,b.2.2]) (hq:Q .ret env=retOk tt [x,y] r env:=by rfl) (h1:resSrc tt env x=some a:=by simp only [go_sem,seval,↓reduceIte];rfl) (h2:resSrc tt env y=some b:=by simp only [go_sem,seval,↓reduceIte];rfl) (hn:a.1≠b.1:=by simp):AWP C n .ret Q env:=AWP.ret (hq.mpr (retOk2 h1 h2 hn h))
theorem rt3 {C:Ctx} {n:Nat} {Q:Exit→Env→Prop} {tt:Tt} {x y z:ResultVar} {r:T} {env:Env} {a b c:Nat×List Nat×T} (h:r=.tup [a.2.2,b.2.2,c.2.2]) (hq:Q .ret env=retOk tt [x,y,z] r env:=by rfl) (h1:resSrc tt env x=some a:=by simp only [go_sem,seval,↓reduceIte];rfl) (h2:resSrc tt env y=some b:=by simp only [go_sem,seval,↓reduceIte];rfl) (h3:resSrc tt env z=some c:=by simp only [go_sem,seval,↓reduceIte];rfl) (hn:a.1≠b.1∧a.1≠c.1∧b.1≠c.1:=by simp):AWP C n .ret Q env:=AWP.ret (hq.mpr (retOk3 h1 h2 h3 hn h))
theorem rg1 {C:Ctx} {n:Nat} {Q:Exit→Env→Prop} {tt:Tt} {x:ResultVar} {r:T} {e:TypeId} {ts':List T} {env:Env} {a:Nat×List Nat×T} (hr:r=a.2.2) (hq:Q .ret env=endQG tt [x] r e ts' .ret env:=by rfl) (h:resSrc tt env x=some a:=by simp only [go_sem,seval,↓reduceIte];rfl) (h0:a.1≠3000001:=by simp) (hl:lk env 3000001=some ⟨0,.own (.box e (.agg ts'))⟩:=by rfl):AWP C n .ret Q env:=AWP.ret (hq.mpr (retG1 h h0 hl hr))
theorem fO {f : FuncId} {fn : Func} {c : Code} {args : List T} {r : T} {n : Nat} {rs : List ResultVar} {e : Env} (hf : Tryz.prog.funcs[f]? = some fn) (hn : fn.ntmps = n) (hrs : fn.results.toList = rs) (h : ∀ C : Ctx, TtOk C.P tt → C.P.follows .mixedOrders = true → C.P = Tryz.prog → AWP C n c (endQ tt rs r) e)
  (hlt : f < 1000000 := by decide) (hb : fn.body = some c := by rfl) (hname : (fn.name == "runtime.NumGoroutine") = false := by rfl) (hargs : args.length ≤ n := by simp) (h3 : rs.length = 1 ∨ rs.length = 2 ∨ rs.length = 3 ∨ rs.length = 4 ∨ rs.length = 5 := by decide) (he : argEnv 0 args = e := by simp only [go_sem, Nat.reduceAdd, ↓reduceIte]; rfl) : AFn Tryz.prog f args r := AFn.of' ttOk hlt hf hn hrs hb hname hargs h3 he mixed h
end Go.Proofs.YtapdekacpecgiaaGreat
