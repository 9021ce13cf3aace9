import Derived.Test.YtapdekacpecgiaaGreatTab
namespace Go.Proofs.YtapdekacpecgiaaGreat
open Go.RowKit
set_option linter.unusedSimpArgs false
set_option linter.unusedVariables false
set_option linter.unusedSectionVars false
set_option maxRecDepth 20000
set_option maxHeartbeats 1000000
def md:FuncId→List Bool:=fun f=>if f=170 then [true,true,true,true,true,true] else if f=111 then [true,true,true,true,true,true] else if f=194 then [true,true,true,true,true,true] else if f=257 then [true,true,true,true,true,true] else if f=270 then [true,true,true,true,true,true] else if f=222 then [true,true,true,true,true,true] else if f=255 then [true,true,true,true,true,true] else if f=137 then [true,true,true,true,true,true] else if f=138 then [true,true,true,true,true,true] else if f=226 then [true,true,true,true,true,true] else if f=84 then [true,true,true,true,true,true] else if f=187 then [true,true,true,true,true,true] else if f=239 then [true,true,true,true,true,true] else if f=106 then [true,true,true,true,true,true] else if f=171 then [true,true,true,true,true,true] else if f=87 then [true,true,true,true,true,true] else if f=88 then [true,true,true,true,true,true] else if f=125 then [true,true,true,true,true,true] else if f=195 then [true,true,true,true,true,true] else if f=189 then [true,true,true,true,true,true] else if f=97 then [true,true,true,true,true,true] else if f=150 then [true,true,true,true,true,true] else if f=86 then [true,true,true,true,true,true] else if f=234 then [false,false,false,false,true] else if f=74 then [false,true] else if f=77 then [false,true] else if f=174 then [true,true,true,true,true,true,true,true,true,true,true,true] else if f=244 then [true,true,true,true,true,true,true,true,true,true,true,true,true,true,true] else if f=164 then [true,true,true,true,true,true,true,true,true,true,true,true,true,true] else if f=165 then [true,true,true,true,true,true,true,true,true,true] else if f=235 then [true,true,true,true,true,true,true,true,true,true] else if f=230 then [true,true,true,true,true,true,true,true,true,true,true] else []
def intL (l:List Int):List T:=l.map (T.int .i64)
theorem Ft (l:List Int):(intL l).length=l.length:=by simp [intL]
theorem Ac (l:List Int) (i:Nat) (h:i<l.length):(intL l).getD i .any=.int .i64 (l.getD i 0):=by
 simp [intL,List.getD_eq_getElem?_getD,h]
theorem E6:∀ (l:List Int),T.pureL (intL l)=true
 | []=>rfl
 | x::l=>by have:=E6 l;simp only [intL,List.map_cons,T.pureL,T.pure,Bool.true_and];exact this
theorem E7:∀ (l:List Int),T.refFreeL (intL l)=true
 | []=>rfl
 | x::l=>by have:=E7 l;simp only [intL,List.map_cons,T.refFreeL,T.refFree,Bool.true_and];exact this
theorem Dm:∀ (l:List Int),T.noFL (intL l)=true
 | []=>rfl
 | x::l=>by have:=Dm l;simp only [intL,List.map_cons,T.noFL,T.noF,Bool.true_and];exact this
theorem P9 (l:List Int):(intL l).all T.plain=true:=by
 simp [intL,T.plain]
theorem Qt:∀ (l:List Int),T.noOwnL (intL l)=true
 | []=>rfl
 | x::l=>by have:=Qt l;simp only [intL,List.map_cons,T.noOwnL,T.noOwn,Bool.true_and];exact this
theorem Jm:∀ (l:List Int),T.freezeL (intL l)=intL l
 | []=>rfl
 | x::l=>by have:=Jm l;simp only [intL,List.map_cons,T.freezeL,T.freeze];rw [show l.map (T.int .i64)=intL l from rfl,this]
theorem Aj9 (x:Int) (h1 : -9223372036854775808≤x) (h2:x≤9223372036854775807):IntKind.i64.wrap x=x:=by
 rw [IntKind.wrap_i64];omega
theorem Aib {AF : FuncId → List T → T → Prop} {chk : List (List Nat × List Nat) → Prop} {Q : Env → Prop} {tt : Tt} {md : FuncId → List Bool} {ops : Array Oper} {o : Oper} {l : List Oper} {i j : Nat} {env : Env} {acc : List (List Nat × List Nat)}
  (hj:i+1=j) (h:∀ K:List (Nat×Slot)→List Nat→Prop,(∀ U R env',U++env=env'→rgn AF chk Q (gRds tt md ops l j) env' ((U.map (·.1),R)::acc)→K U R)→(gRd tt md ops i o).run AF env K) :
  rgn AF chk Q (gRds tt md ops (o::l) i) env acc:=h _ fun _ _ _ e h=>hj▸e▸h
theorem U3 {K:Env→Prop} {Q:Exit→Env→Prop} {env:Env}:thenQ K Q .normal env=K env:=rfl
theorem Af7 {K:Env→Prop} {Q:Exit→Env→Prop} {env:Env}:thenQ K Q .ret env=Q .ret env:=rfl
theorem Abl {K:Env→Prop} {Q:Exit→Env→Prop} {env:Env} {i:Nat}:thenQ K Q (.exit i) env=Q (.exit i) env:=rfl
theorem Tk {Q:Exit→Env→Prop} {env:Env} {i:Nat}:blockQ i Q .normal env=Q .normal env:=rfl
theorem Aa4 {Q:Exit→Env→Prop} {env:Env} {i:Nat}:blockQ i Q .ret env=Q .ret env:=rfl
theorem Xn {Q:Exit→Env→Prop} {env:Env} {i:Nat}:blockQ i Q (.exit i) env=Q .normal env:=if_pos rfl
theorem Xh {Q:Exit→Env→Prop} {env:Env} {i j:Nat}:blockQ i Q (.exit j) env=if j=i then Q .normal env else Q (.exit j) env:=rfl
set_option linter.defProp false
set_option maxRecDepth 20000
set_option linter.unusedSimpArgs false
mutual
theorem Xg (S:Nat→Bool):∀ (t:T),t.pure=true→t.refsIn S=true
 | .int ..,_=>rfl
 | .bool ..,_=>rfl
 | .str ..,_=>rfl
 | .any,_=>rfl
 | .nil,_=>rfl
 | .sl ..,_=>rfl
 | .box ..,h=>by simp [T.pure] at h
 | .fptr t,_=>rfl
 | .agg l,h=>by simpa [T.refsIn] using Eh S l (by simpa [T.pure] using h)
 | .tup l,h=>by simpa [T.refsIn] using Eh S l (by simpa [T.pure] using h)
 | .fn _ l,h=>by simpa [T.refsIn] using Eh S l (by simpa [T.pure] using h)
 | .ref ..,h=>by simp [T.pure] at h
 | .addr ..,h=>by simp [T.pure] at h
theorem Eh (S:Nat→Bool):∀ (l:List T),T.pureL l=true→T.refsInL S l=true
 | [],_=>rfl
 | t::l,h=>by
  simp only [T.pureL,Bool.and_eq_true] at h
  simp [T.refsInL,Xg S t h.1,Eh S l h.2]
end
mutual
theorem X7:∀ (t:T),t.pure=true→t.freeze=t
 | .int ..,_=>rfl
 | .bool ..,_=>rfl
 | .str ..,_=>rfl
 | .any,_=>rfl
 | .nil,_=>rfl
 | .sl true _ _,h=>by simp [T.pure] at h
 | .sl false _ l,h=>by simp [T.freeze,Bx l (by simpa [T.pure] using h)]
 | .box ..,h=>by simp [T.pure] at h
 | .fptr t,_=>rfl
 | .agg l,h=>by simp [T.freeze,Bx l (by simpa [T.pure] using h)]
 | .tup l,h=>by simp [T.freeze,Bx l (by simpa [T.pure] using h)]
 | .fn _ l,h=>by simp [T.freeze,Bx l (by simpa [T.pure] using h)]
 | .ref ..,h=>by simp [T.pure] at h
 | .addr ..,h=>by simp [T.pure] at h
theorem Bx:∀ (l:List T),T.pureL l=true→T.freezeL l=l
 | [],_=>rfl
 | t::l,h=>by
  simp only [T.pureL,Bool.and_eq_true] at h
  simp [T.freezeL,X7 t h.1,Bx l h.2]
end
theorem Afb (k:IntKind) (n:Int):T.size (.int k n)=1:=rfl
theorem Abw (b:Bool):T.size (.bool b)=1:=rfl
theorem Aec (c:Con):T.size (.str c)=1:=rfl
theorem Ada  : T.size (.any)=1:=rfl
theorem Afq  : T.size (.nil)=1:=rfl
theorem Afe (e:TypeId) (l:List T):T.size (.sl true e l)=1:=rfl
theorem Af0 (e:TypeId) (l:List T):T.size (.sl false e l)=1:=rfl
theorem Ac3 (e:TypeId) (t:T):T.size (.box e t)=1:=rfl
theorem Aa6 (t:T):T.size (.fptr t)=1:=rfl
theorem Afo (l:List T):T.size (.agg l)=T.sizeL l:=rfl
theorem Adl (l:List T):T.size (.tup l)=1:=rfl
theorem Ahx (f:FuncId) (l:List T):T.size (.fn f l)=1:=rfl
theorem Ads (s' k':Nat) (p':List Nat):T.size (.ref s' k' p')=1:=rfl
theorem Abt (s' k':Nat) (p':List Nat) (o:Nat) (q:List Nat):T.size (.addr s' k' p' o q)=1:=rfl
theorem Abn (k:IntKind) (n:Int):T.noOwn (.int k n)=true:=rfl
theorem Ys (b:Bool):T.noOwn (.bool b)=true:=rfl
theorem Zy (c:Con):T.noOwn (.str c)=true:=rfl
theorem Abz  : T.noOwn (.any)=true:=rfl
theorem Abb  : T.noOwn (.nil)=true:=rfl
theorem Abe (e:TypeId) (l:List T):T.noOwn (.sl true e l)=false:=rfl
theorem Qr (e:TypeId) (l:List T):T.noOwn (.sl false e l)=true:=rfl
theorem Ab6 (e:TypeId) (t:T):T.noOwn (.box e t)=false:=rfl
theorem Ww (t:T):T.noOwn (.fptr t)=true:=rfl
theorem Abu (l:List T):T.noOwn (.agg l)=T.noOwnL l:=rfl
theorem Aaw (l:List T):T.noOwn (.tup l)=T.noOwnL l:=rfl
theorem Ae4 (f:FuncId) (l:List T):T.noOwn (.fn f l)=T.noOwnL l:=rfl
theorem Abf (s' k':Nat) (p':List Nat):T.noOwn (.ref s' k' p')=true:=rfl
theorem Xu (s' k':Nat) (p':List Nat) (o:Nat) (q:List Nat):T.noOwn (.addr s' k' p' o q)=true:=rfl
theorem Vy (k:IntKind) (n:Int):T.refFree (.int k n)=true:=rfl
theorem Th (b:Bool):T.refFree (.bool b)=true:=rfl
theorem Un (c:Con):T.refFree (.str c)=true:=rfl
theorem V4  : T.refFree (.any)=true:=rfl
theorem Va  : T.refFree (.nil)=true:=rfl
theorem M7 (e:TypeId) (l:List T):T.refFree (.sl true e l)=T.refFreeL l:=rfl
theorem Mh (e:TypeId) (l:List T):T.refFree (.sl false e l)=T.refFreeL l:=rfl
theorem Wn (e:TypeId) (t:T):T.refFree (.box e t)=T.refFree t:=rfl
theorem Td (t:T):T.refFree (.fptr t)=T.refFree t:=rfl
theorem Wc (l:List T):T.refFree (.agg l)=T.refFreeL l:=rfl
theorem Ut (l:List T):T.refFree (.tup l)=T.refFreeL l:=rfl
theorem Wv (f:FuncId) (l:List T):T.refFree (.fn f l)=T.refFreeL l:=rfl
theorem Vl (s' k':Nat) (p':List Nat):T.refFree (.ref s' k' p')=false:=rfl
theorem Tj (s' k':Nat) (p':List Nat) (o:Nat) (q:List Nat):T.refFree (.addr s' k' p' o q)=false:=rfl
theorem Afz (k:IntKind) (n:Int):T.pure (.int k n)=true:=rfl
theorem Ab3 (b:Bool):T.pure (.bool b)=true:=rfl
theorem Adu (c:Con):T.pure (.str c)=true:=rfl
theorem Aex  : T.pure (.any)=true:=rfl
theorem Aeu  : T.pure (.nil)=true:=rfl
theorem Ac9 (e:TypeId) (l:List T):T.pure (.sl true e l)=false:=by simp [T.pure]
theorem Sk (e:TypeId) (l:List T):T.pure (.sl false e l)=T.pureL l:=by simp [T.pure]
theorem Afj (e:TypeId) (t:T):T.pure (.box e t)=false:=rfl
theorem Aak (t:T):T.pure (.fptr t)=T.pure t:=rfl
theorem Ac8 (l:List T):T.pure (.agg l)=T.pureL l:=rfl
theorem Aff (l:List T):T.pure (.tup l)=T.pureL l:=rfl
theorem Ag3 (f:FuncId) (l:List T):T.pure (.fn f l)=T.pureL l:=rfl
theorem Aeh (s' k':Nat) (p':List Nat):T.pure (.ref s' k' p')=false:=rfl
theorem Ab8 (s' k':Nat) (p':List Nat) (o:Nat) (q:List Nat):T.pure (.addr s' k' p' o q)=false:=rfl
theorem Acb (k:IntKind) (n:Int):T.solid (.int k n)=true:=rfl
theorem Xb (b:Bool):T.solid (.bool b)=true:=rfl
theorem Aam (c:Con):T.solid (.str c)=true:=rfl
theorem Z0  : T.solid (.any)=false:=rfl
theorem Aba  : T.solid (.nil)=true:=rfl
theorem Qs (e:TypeId) (l:List T):T.solid (.sl true e l)=true:=rfl
theorem Z1 (e:TypeId) (l:List T):T.solid (.sl false e l)=true:=rfl
theorem Ab1 (e:TypeId) (t:T):T.solid (.box e t)=true:=rfl
theorem Yg (t:T):T.solid (.fptr t)=true:=rfl
theorem Ack (l:List T):T.solid (.agg l)=T.solidL l:=rfl
theorem Aaz (l:List T):T.solid (.tup l)=false:=rfl
theorem Aes (f:FuncId) (l:List T):T.solid (.fn f l)=true:=rfl
theorem Acw (s' k':Nat) (p':List Nat):T.solid (.ref s' k' p')=true:=rfl
theorem X2 (s' k':Nat) (p':List Nat) (o:Nat) (q:List Nat):T.solid (.addr s' k' p' o q)=true:=rfl
theorem Zw (k:IntKind) (n:Int):T.plain (.int k n)=true:=rfl
theorem Yn (b:Bool):T.plain (.bool b)=true:=rfl
theorem Aad (c:Con):T.plain (.str c)=c.free:=rfl
theorem Aae  : T.plain (.any)=false:=rfl
theorem Acm  : T.plain (.nil)=true:=rfl
theorem Aaj (e:TypeId) (l:List T):T.plain (.sl true e l)=false:=rfl
theorem Aa0 (e:TypeId) (l:List T):T.plain (.sl false e l)=false:=rfl
theorem Aay (e:TypeId) (t:T):T.plain (.box e t)=false:=rfl
theorem Xt (t:T):T.plain (.fptr t)=false:=rfl
theorem Ab5 (l:List T):T.plain (.agg l)=T.plainL l:=rfl
theorem Acg (l:List T):T.plain (.tup l)=false:=rfl
theorem Afy (f:FuncId) (l:List T):T.plain (.fn f l)=false:=rfl
theorem Abi (s' k':Nat) (p':List Nat):T.plain (.ref s' k' p')=false:=rfl
theorem Xr (s' k':Nat) (p':List Nat) (o:Nat) (q:List Nat):T.plain (.addr s' k' p' o q)=false:=rfl
theorem Aau (k:IntKind) (n:Int):T.isAgg (.int k n)=false:=rfl
theorem Wt (b:Bool):T.isAgg (.bool b)=false:=rfl
theorem Acn (c:Con):T.isAgg (.str c)=false:=rfl
theorem Zz  : T.isAgg (.any)=false:=rfl
theorem Acl  : T.isAgg (.nil)=false:=rfl
theorem Abr (e:TypeId) (l:List T):T.isAgg (.sl true e l)=false:=rfl
theorem Aah (e:TypeId) (l:List T):T.isAgg (.sl false e l)=false:=rfl
theorem Z8 (e:TypeId) (t:T):T.isAgg (.box e t)=false:=rfl
theorem X0 (t:T):T.isAgg (.fptr t)=false:=rfl
theorem Aco (l:List T):T.isAgg (.agg l)=true:=rfl
theorem Abk (l:List T):T.isAgg (.tup l)=false:=rfl
theorem Afa (f:FuncId) (l:List T):T.isAgg (.fn f l)=false:=rfl
theorem Abj (s' k':Nat) (p':List Nat):T.isAgg (.ref s' k' p')=false:=rfl
theorem Xj (s' k':Nat) (p':List Nat) (o:Nat) (q:List Nat):T.isAgg (.addr s' k' p' o q)=false:=rfl
theorem W2 (k:IntKind) (n:Int):T.scalar (.int k n)=true:=rfl
theorem Vi (b:Bool):T.scalar (.bool b)=true:=rfl
theorem Yv (c:Con):T.scalar (.str c)=c.free:=rfl
theorem Xz  : T.scalar (.any)=false:=rfl
theorem Xs  : T.scalar (.nil)=false:=rfl
theorem Xy (e:TypeId) (l:List T):T.scalar (.sl true e l)=false:=rfl
theorem W0 (e:TypeId) (l:List T):T.scalar (.sl false e l)=false:=rfl
theorem X6 (e:TypeId) (t:T):T.scalar (.box e t)=false:=rfl
theorem Ur (t:T):T.scalar (.fptr t)=false:=rfl
theorem Ym (l:List T):T.scalar (.agg l)=false:=rfl
theorem Yk (l:List T):T.scalar (.tup l)=false:=rfl
theorem Abv (f:FuncId) (l:List T):T.scalar (.fn f l)=false:=rfl
theorem Yc (s' k':Nat) (p':List Nat):T.scalar (.ref s' k' p')=false:=rfl
theorem U6 (s' k':Nat) (p':List Nat) (o:Nat) (q:List Nat):T.scalar (.addr s' k' p' o q)=false:=rfl
theorem Yl (k:IntKind) (n:Int):T.isNode (.int k n)=false:=rfl
theorem Vh (b:Bool):T.isNode (.bool b)=false:=rfl
theorem W6 (c:Con):T.isNode (.str c)=false:=rfl
theorem Yd  : T.isNode (.any)=false:=rfl
theorem Yi  : T.isNode (.nil)=false:=rfl
theorem Xm (e:TypeId) (l:List T):T.isNode (.sl true e l)=true:=rfl
theorem Xo (e:TypeId) (l:List T):T.isNode (.sl false e l)=false:=rfl
theorem Ya (e:TypeId) (t:T):T.isNode (.box e t)=true:=rfl
theorem Uo (t:T):T.isNode (.fptr t)=false:=rfl
theorem Wu (l:List T):T.isNode (.agg l)=false:=rfl
theorem W4 (l:List T):T.isNode (.tup l)=false:=rfl
theorem Acs (f:FuncId) (l:List T):T.isNode (.fn f l)=false:=rfl
theorem W8 (s' k':Nat) (p':List Nat):T.isNode (.ref s' k' p')=false:=rfl
theorem Vz (s' k':Nat) (p':List Nat) (o:Nat) (q:List Nat):T.isNode (.addr s' k' p' o q)=false:=rfl
theorem Aic (k:IntKind) (n:Int):T.noF (.int k n)=true:=rfl
theorem Adj (b:Bool):T.noF (.bool b)=true:=rfl
theorem Ahy (c:Con):T.noF (.str c)=c.free:=rfl
theorem Wk (b:ByteArray):Con.free (.str b)=true:=rfl
theorem O2:Con.free .nilFunc=true:=rfl
theorem Pn:Con.free .nilPtr=true:=rfl
theorem Um (a:Option Addr) (n c:Nat):Con.free (.raw a n c)=true:=rfl
theorem Uc (a:Option Addr) (c:Nat) (l:List Int):Con.free (.src a c l)=false:=rfl
theorem Abs (k:IntKind) (n:Int):T.rawed (.int k n)=.int k n:=rfl
theorem X8 (b:Bool):T.rawed (.bool b)=.bool b:=rfl
theorem Z7 (b:ByteArray):T.rawed (.str (.str b))=.str (.str b):=rfl
theorem Q2:T.rawed (.str .nilFunc)=.str .nilFunc:=rfl
theorem Ti:T.rawed (.str .nilPtr)=.str .nilPtr:=rfl
theorem Acf (a:Option Addr) (n c:Nat):T.rawed (.str (.raw a n c))=.str (.raw a n c):=rfl
theorem Abg (a:Option Addr) (c:Nat) (l:List Int):T.rawed (.str (.src a c l))=.str (.raw a l.length c):=rfl
theorem Ab4:T.rawed .nil=.nil:=rfl
theorem Afn (o:Bool) (e:TypeId) (l:List T):T.rawed (.sl o e l)=.sl o e l:=rfl
theorem Aaf (e:TypeId) (t:T):T.rawed (.box e t)=.box e t:=rfl
theorem Yf (t:T):T.rawed (.fptr t)=.fptr t:=rfl
theorem Acu (l:List T):T.rawed (.agg l)=.agg l:=rfl
theorem Aci (l:List T):T.rawed (.tup l)=.tup l:=rfl
theorem Af2 (f:FuncId) (l:List T):T.rawed (.fn f l)=.fn f l:=rfl
theorem Aa7 (s' k':Nat) (p':List Nat):T.rawed (.ref s' k' p')=.ref s' k' p':=rfl
theorem Yq (s' k':Nat) (p':List Nat) (o:Nat) (q:List Nat):T.rawed (.addr s' k' p' o q)=.addr s' k' p' o q:=rfl
attribute [go_sem ↓] Pn Ti Wk O2 Um Uc Abs X8 Z7 Q2 Acf Abg Ab4 Afn Aaf Yf Acu Aci Af2 Aa7 Yq
theorem Adn (s:Nat) (k:IntKind) (n:Int):T.away s (.int k n)=True:=rfl
theorem Aas (s:Nat) (b:Bool):T.away s (.bool b)=True:=rfl
theorem Afc (s:Nat) (c:Con):T.away s (.str c)=True:=rfl
theorem Aeo (s:Nat):T.away s .nil=True:=rfl
theorem Ah1 (s:Nat) (o:Bool) (e:TypeId) (l:List T):T.away s (.sl o e l)=True:=rfl
theorem Aao (s:Nat) (t:T):T.away s (.fptr t)=True:=rfl
theorem Aer (s:Nat) (l:List T):T.away s (.agg l)=T.awayL s l:=rfl
theorem Agx (s:Nat) (f:FuncId) (l:List T):T.away s (.fn f l)=T.awayL s l:=rfl
theorem Aft (s s' k':Nat) (p':List Nat):T.away s (.ref s' k' p')=(s'≠s):=rfl
theorem Abd (s s' k':Nat) (p':List Nat) (o:Nat) (q:List Nat):T.away s (.addr s' k' p' o q)=(s'≠s):=rfl
theorem Aa5 (s:Nat):T.awayL s []=True:=rfl
theorem Wr (s:Nat) (t:T) (l:List T):T.awayL s (t::l)=(t.away s∧T.awayL s l):=rfl
attribute [go_sem ↓] Adn Aas Afc Aeo Ah1 Aao Aer Agx Aft Abd Aa5 Wr
theorem Ahf  : T.noF (.any)=true:=rfl
theorem Aht  : T.noF (.nil)=true:=rfl
theorem Agg (e:TypeId) (l:List T):T.noF (.sl true e l)=T.noFL l:=by simp [T.noF]
theorem Ah0 (e:TypeId) (l:List T):T.noF (.sl false e l)=false:=by simp [T.noF]
theorem Agn (e:TypeId) (t:T):T.noF (.box e t)=T.noF t:=rfl
theorem Afh (t:T):T.noF (.fptr t)=false:=rfl
theorem Ahl (l:List T):T.noF (.agg l)=T.noFL l:=rfl
theorem Aig (l:List T):T.noF (.tup l)=T.noFL l:=rfl
theorem Ajb (f:FuncId) (l:List T):T.noF (.fn f l)=T.noFL l:=rfl
theorem Ahd (s' k':Nat) (p':List Nat):T.noF (.ref s' k' p')=true:=rfl
theorem Afu (s' k':Nat) (p':List Nat) (o:Nat) (q:List Nat):T.noF (.addr s' k' p' o q)=true:=rfl
theorem D6 (k:IntKind) (n:Int):T.freeze (.int k n)=.int k n:=rfl
theorem Vs (b:Bool):T.freeze (.bool b)=.bool b:=rfl
theorem Xa (c:Con):T.freeze (.str c)=.str c:=rfl
theorem Wq  : T.freeze (.any)=.any:=rfl
theorem Jq  : T.freeze (.nil)=.nil:=rfl
theorem Ez (e:TypeId) (l:List T):T.freeze (.sl true e l)=.sl false e (T.freezeL l):=rfl
theorem Ol (e:TypeId) (l:List T):T.freeze (.sl false e l)=.sl false e l:=rfl
theorem Dy (e:TypeId) (t:T):T.freeze (.box e t)=.fptr (T.freeze t):=rfl
theorem Uw (t:T):T.freeze (.fptr t)=.fptr t:=rfl
theorem D1 (l:List T):T.freeze (.agg l)=.agg (T.freezeL l):=rfl
theorem Xi (l:List T):T.freeze (.tup l)=.tup (T.freezeL l):=rfl
theorem Zt (f:FuncId) (l:List T):T.freeze (.fn f l)=.fn f (T.freezeL l):=rfl
theorem W9 (s' k':Nat) (p':List Nat):T.freeze (.ref s' k' p')=.ref s' k' p':=rfl
theorem Vx (s' k':Nat) (p':List Nat) (o:Nat) (q:List Nat):T.freeze (.addr s' k' p' o q)=.addr s' k' p' o q:=rfl
theorem Ad0 (k:IntKind) (n:Int):T.kids (.int k n)=[]:=rfl
theorem Ab7 (b:Bool):T.kids (.bool b)=[]:=rfl
theorem Ad3 (c:Con):T.kids (.str c)=[]:=rfl
theorem Aeg  : T.kids (.any)=[]:=rfl
theorem Aee  : T.kids (.nil)=[]:=rfl
theorem Aen (e:TypeId) (l:List T):T.kids (.sl true e l)=l:=rfl
theorem Adi (e:TypeId) (l:List T):T.kids (.sl false e l)=l:=rfl
theorem Aev (e:TypeId) (t:T):T.kids (.box e t)=[t]:=rfl
theorem Abo (t:T):T.kids (.fptr t)=[]:=rfl
theorem Ac7 (l:List T):T.kids (.agg l)=[]:=rfl
theorem Ae2 (l:List T):T.kids (.tup l)=[]:=rfl
theorem Ahs (f:FuncId) (l:List T):T.kids (.fn f l)=[]:=rfl
theorem Adq (s' k':Nat) (p':List Nat):T.kids (.ref s' k' p')=[]:=rfl
theorem Abm (s' k':Nat) (p':List Nat) (o:Nat) (q:List Nat):T.kids (.addr s' k' p' o q)=[]:=rfl
theorem Xq (s k:Nat) (p:List Nat) (k2:IntKind) (n:Int):T.borrow s k p (.int k2 n)=.int k2 n:=rfl
theorem T3 (s k:Nat) (p:List Nat) (b:Bool):T.borrow s k p (.bool b)=.bool b:=rfl
theorem Yr (s k:Nat) (p:List Nat) (c:Con):T.borrow s k p (.str c)=.str c:=rfl
theorem Xp (s k:Nat) (p:List Nat)  : T.borrow s k p (.any)=.any:=rfl
theorem Ye (s k:Nat) (p:List Nat)  : T.borrow s k p (.nil)=.nil:=rfl
theorem W5 (s k:Nat) (p:List Nat) (e:TypeId) (l:List T):T.borrow s k p (.sl true e l)=.ref s k p:=rfl
theorem Yo (s k:Nat) (p:List Nat) (e:TypeId) (l:List T):T.borrow s k p (.sl false e l)=.sl false e l:=rfl
theorem Xw (s k:Nat) (p:List Nat) (e:TypeId) (t:T):T.borrow s k p (.box e t)=.addr s k p 0 [0]:=rfl
theorem Vb (s k:Nat) (p:List Nat) (t:T):T.borrow s k p (.fptr t)=.fptr t:=rfl
theorem Ws (s k:Nat) (p:List Nat) (l:List T):T.borrow s k p (.agg l)=.agg (T.borrowL s k p 0 l):=rfl
theorem Xx (s k:Nat) (p:List Nat) (l:List T):T.borrow s k p (.tup l)=.tup (T.borrowL s k p 0 l):=rfl
theorem Aaq (s k:Nat) (p:List Nat) (f:FuncId) (l:List T):T.borrow s k p (.fn f l)=.fn f (T.borrowL s k p 0 l):=rfl
theorem X3 (s k:Nat) (p:List Nat) (s' k':Nat) (p':List Nat):T.borrow s k p (.ref s' k' p')=.ref s' k' p':=rfl
theorem U5 (s k:Nat) (p:List Nat) (s' k':Nat) (p':List Nat) (o:Nat) (q:List Nat):T.borrow s k p (.addr s' k' p' o q)=.addr s' k' p' o q:=rfl
theorem N3 (k:IntKind) (n:Int) (c:T→Rd):resolve (.int k n) c=c (.int k n):=rfl
theorem Mr (b:Bool) (c:T→Rd):resolve (.bool b) c=c (.bool b):=rfl
theorem N6 (x:Con) (c:T→Rd):resolve (.str x) c=c (.str x):=rfl
theorem Om  (c:T→Rd):resolve (.any) c=.fail:=rfl
theorem Od  (c:T→Rd):resolve (.nil) c=c (.nil):=rfl
theorem N9 (e:TypeId) (l:List T) (c:T→Rd):resolve (.sl true e l) c=.fail:=rfl
theorem N8 (e:TypeId) (l:List T) (c:T→Rd):resolve (.sl false e l) c=c (.sl false e l):=rfl
theorem Oj (e:TypeId) (t:T) (c:T→Rd):resolve (.box e t) c=.fail:=rfl
theorem Mm (t:T) (c:T→Rd):resolve (.fptr t) c=c (.fptr t):=rfl
theorem Ob (l:List T) (c:T→Rd):resolve (.agg l) c=resolveL l fun l'=>c (.agg l'):=rfl
theorem Of (l:List T) (c:T→Rd):resolve (.tup l) c=.fail:=rfl
theorem P3 (f:FuncId) (l:List T) (c:T→Rd):resolve (.fn f l) c=resolveL l fun l'=>c (.fn f l'):=rfl
theorem Ok (s' k':Nat) (p':List Nat) (c:T→Rd):resolve (.ref s' k' p') c=rdn s' k' p' fun _ n=>c n.freeze:=rfl
theorem Mz (s' k':Nat) (p':List Nat) (o:Nat) (q:List Nat) (c:T→Rd):resolve (.addr s' k' p' o q) c=if q=[0] then rdn s' k' p' fun _ n=>.need (o=0) (match n with|.box e t=>c (T.freeze (.box e t))|_=>.fail) else if q.isEmpty then rdn s' k' p' fun _ n=>(match n with|.sl true e l=>.need (o<l.length∧l.all T.scalar=true) (c (.sl false e ((T.freezeL l).drop o)))|_=>.fail) else .fail:=rfl
attribute [go_sem ↓] Afb Abw Aec Ada Afq Afe Af0 Ac3 Aa6 Afo Adl Ahx Ads Abt Abn Ys Zy Abz Abb Abe Qr Ab6 Ww Abu Aaw Ae4 Abf Xu Vy Th Un V4 Va M7 Mh Wn Td Wc Ut Wv Vl Tj Afz Ab3 Adu Aex Aeu Ac9 Sk Afj Aak Ac8 Aff Ag3 Aeh Ab8 Acb Xb Aam Z0 Aba Qs Z1 Ab1 Yg Ack Aaz Aes Acw X2 Zw Yn Aad Aae Acm Aaj Aa0 Aay Xt Ab5 Acg Afy Abi Xr Aau Wt Acn Zz Acl Abr Aah Z8 X0 Aco Abk Afa Abj Xj W2 Vi Yv Xz Xs Xy W0 X6 Ur Ym Yk Abv Yc U6 Yl Vh W6 Yd Yi Xm Xo Ya Uo Wu W4 Acs W8 Vz Aic Adj Ahy Ahf Aht Agg Ah0 Agn Afh Ahl Aig Ajb Ahd Afu D6 Vs Xa Wq Jq Ez Ol Dy Uw D1 Xi Zt W9 Vx Ad0 Ab7 Ad3 Aeg Aee Aen Adi Aev Abo Ac7 Ae2 Ahs Adq Abm Xq T3 Yr Xp Ye W5 Yo Xw Vb Ws Xx Aaq X3 U5 N3 Mr N6 Om Od N9 N8 Oj Mm Ob Of P3 Ok Mz
attribute [go_sem] N3 Mr N6 Om Od N9 N8 Oj Mm Ob Of P3 Ok Mz
def callRd' (md:FuncId→List Bool) (dst:Option Tmp) (f:FuncId) (args:List Operand) (caps:List T) (i:Nat):Rd:=
 match dst with
 | none=>.fail
 | some d=>if f<1000000 then
  if (md f).length=9 then
   (match caps,args with
   | [], [x, y] => rdv x fun v => if v.pure && v.refFree then
     rdvL [x,y] fun vs=>resolveL vs fun vs'=>resolveL [] fun cs=>.rd d fun s=>.call f (vs'++cs) fun r=>[(d,⟨verOf s+1,mkSV r⟩)]
    else ioRd d f x y
   | _,_=>.fail)
  else if (md f).length=8 then
   (match caps with
   | []=>.fail
   | _=>.fail)
  else if (md f).length=7 then
   (match caps with
   | []=>.fail
   | _=>.fail)
  else if (md f).length=6 then
   (match caps with
   | []=>ioGRd d f args
   | _=>.fail)
  else if (md f).length=10 then kRd d f args caps i
  else if (md f).length=11 then
   (match caps with
   | []=>cRd d f args
   | _=>.fail)
  else if (md f).length=14 then
   (match caps with
   | []=>sRd d f args
   | _=>.fail)
  else if (md f).length=15 then
   (match caps with
   | []=>yRd d f args
   | _=>.fail)
  else if 12≤(md f).length then
   (match caps with
   | []=>xRd ((md f).length-12) d f args
   | _=>.fail)
  else if (md f).any id then
   (match caps with
   | []=>giveRd (virt i) (zipB args (md f)) fun vs ups=>.rd d fun s=>.rd (virt i) fun sv=>.call f vs fun r=>(d,⟨verOf s+1,mkSV r⟩)::(match ups with|[]=>[]|u::us=>(virt i,⟨verOf sv+1,.val .any⟩)::u::us)
   | _=>.fail)
  else rdvL args fun vs=>resolveL vs fun vs'=>resolveL caps fun cs=>.rd d fun s=>.call f (vs'++cs) fun r=>[(d,⟨verOf s+1,mkSV r⟩)]
  else if f-1000000<1000000∧caps.isEmpty=false then
   rdvL args fun vs=>resolveL vs fun vs'=>resolveL caps fun cs=>.rd d fun s=>.call (f-1000000) (cs++vs') fun r=>[(d,⟨verOf s+1,mkSV r⟩)]
  else .fail
def builtinRd' (tt:Tt) (dst:Option Tmp) (b:Builtin) (args:List Operand) (argTypes:List TypeId) (i:Nat):Rd:=
 match b,args,argTypes with
 | .len,[x],[t]=>match tyAt tt t with
  | some ⟨_,_,_,.slice _⟩=>rdv x fun v=>elems v fun l=>fin dst (.int .i64 l.length)
  | _=>.fail
 | .max,[x,y],_=>rdv x fun v=>rdv y fun u=>match v,u with
  | .int k a,.int _ b=>fin dst (.int k (if b>a then b else a))
  | _,_=>.fail
 | .min,[x,y],_=>rdv x fun v=>rdv y fun u=>match v,u with
  | .int k a,.int _ b=>fin dst (.int k (if b<a then b else a))
  | _,_=>.fail
 | .append,[x,y],[t,t']=>if t=t' then match tyAt tt t with
  | some ⟨_,_,_,.slice e⟩=>match tyAt tt e with
   | some ie => rdv x fun v => rdv y fun u => appendBase e (virt i) v fun l ups => elemsE e u fun l2 =>
     .need (0<ie.size∧l.length+l2.length≤1099511627776∧(l.length+l2.length)*ie.bytes≤140737488355328) <|
     (if T.pureL l2&&T.refFreeL l2&&l2.all T.plain then
      match ups with
      | []=>if l2.isEmpty then fin dst .nil else finOwn dst (.sl true e l2) []
      | _=>.rd (virt i) fun sv=>finOwn dst (.sl true e (l++l2)) ((virt i,⟨verOf sv+1,.val .any⟩)::ups)
     else appendOwn (virt i) dst ie e u l ups)
   | _=>.fail
  | _=>.fail
  else match tyAt tt t,tyAt tt t' with
   | some ⟨_,_,_,.slice e⟩,some ⟨_,_,_,.int _⟩=>(match tyAt tt e with
    | some ie=>.fail
    | none=>.fail)
   | _,_=>.fail
 | .copy,[x,y],[t,_]=>match dst,tyAt tt t with
  | some d,some ⟨_,_,_,.slice e⟩=>match tyAt tt e with
   | some ie=>.fail
   | none=>.fail
  | _,_=>.fail
 | _,_,_=>.fail
def dstAt:List Oper→Nat→Option Nat
 | [],_=>none
 | o::_,0=>o.dst
 | _::l,j+1=>dstAt l j
theorem T7:∀ (l:List Oper) (j:Nat),(l[j]?).bind (·.dst)=dstAt l j
 | [],_=>by simp [dstAt]
 | o::_,0=>by simp [dstAt]
 | _::l,j+1=>by simpa [dstAt] using T7 l j
theorem Ab9 {d:Option Tmp} {op:Op} {ty:TypeId} {pos:String} {aft:Array Edge} {g:Option (Nat×Bool)} {l:List Oper}:dstAt (⟨d,op,ty,pos,aft,g⟩::l) 0=d:=rfl
theorem Aax {o:Oper} {l:List Oper} {j:Nat}:dstAt (o::l) (j+1)=dstAt l j:=rfl
theorem Ahb {tt:Tt} {md:FuncId→List Bool} {ops:Array Oper} {i:Nat} {d:Option Tmp} {op:Op} {ty:TypeId} {pos:String} {aft:Array Edge}:gRd tt md ops i ⟨d,op,ty,pos,aft,none⟩=opRd tt md i ⟨d,op,ty,pos,aft,none⟩:=rfl
theorem Agp {tt : Tt} {md : FuncId → List Bool} {l : List Oper} {i j : Nat} {want : Bool} {d : Option Tmp} {op : Op} {ty : TypeId} {pos : String} {aft : Array Edge} : gRd tt md l.toArray i ⟨d, op, ty, pos, aft, some (j, want)⟩ = (match dstAt l j with
  | none=>.fail
  | some t=>if t<1000000 then .rd t fun
   | some ⟨_,.val (.bool b)⟩=>if b=want then opRd tt md i ⟨d,op,ty,pos,aft,none⟩ else skipRd d
   | some ⟨_,.undef⟩=>skipRd d
   | _=>.fail
   else .fail):=by
 have h:((l.toArray)[j]?).bind (·.dst)=dstAt l j:=by
  rw [List.getElem?_toArray];exact T7 l j
 simp only [gRd,h]
 rfl
theorem Adr {tt:Tt} {md:FuncId→List Bool} {i:Nat} {d:Option Tmp} {ty:TypeId} {pos:String} {aft:Array Edge} {g:Option (Nat×Bool)} (x:Operand):opRd tt md i ⟨d,.move x,ty,pos,aft,g⟩=(rdv x (fin d)):=rfl
theorem X1 {tt : Tt} {md : FuncId → List Bool} {i : Nat} {d : Option Tmp} {ty : TypeId} {pos : String} {aft : Array Edge} {g : Option (Nat × Bool)} (x : Operand) : opRd tt md i ⟨d, .assign x, ty, pos, aft, g⟩ = (rdv x fun v => match v, d with
  | .ref s k p, some d' => if s = d' then fin d v else rdn s k p fun T0 n =>
    match p,T0 with
    | [],_=>.rd d' fun sd=>.done [(s,⟨k,.val (.ref d' (verOf sd+1) [])⟩),(d',⟨verOf sd+1,.own n⟩)]
    | [_],.tup _=>.rd d' fun sd=>.done [(d',⟨verOf sd+1,.own n⟩),(s,⟨k,.own (T.set .any p T0)⟩)]
    | _,_=>fin d v
  | v,_=>fin d v):=rfl
theorem Te {tt : Tt} {md : FuncId → List Bool} {i : Nat} {d : Option Tmp} {ty : TypeId} {pos : String} {aft : Array Edge} {g : Option (Nat × Bool)} (x : Operand) : opRd tt md i ⟨d, .nilCheck x, ty, pos, aft, g⟩ = (rdv x fun v => match v with
  | .addr s k p _ sub=>if sub.isEmpty then .fail else rdn s k p fun _ _=>fin d v
  | .fptr _=>fin d v
  | _=>.fail):=rfl
theorem Af4 {tt : Tt} {md : FuncId → List Bool} {i : Nat} {d : Option Tmp} {ty : TypeId} {pos : String} {aft : Array Edge} {g : Option (Nat × Bool)} (c a b : Operand) : opRd tt md i ⟨d, .pick c a b, ty, pos, aft, g⟩ = (rdv c fun
  | .bool t=>if t then rdv a (fin d) else rdv b (fin d)
  | _=>.fail):=rfl
theorem Abq {tt : Tt} {md : FuncId → List Bool} {i : Nat} {d : Option Tmp} {ty : TypeId} {pos : String} {aft : Array Edge} {g : Option (Nat × Bool)} (e : TypeId) : opRd tt md i ⟨d, .alloc e, ty, pos, aft, g⟩ = (match tyAt tt e with
  | some ie=>finOwn d (.box e ie.zero) []
  | none=>.fail):=rfl
theorem Ah9 {tt : Tt} {md : FuncId → List Bool} {i : Nat} {d : Option Tmp} {ty : TypeId} {pos : String} {aft : Array Edge} {g : Option (Nat × Bool)} (e : TypeId) (x : Operand) : opRd tt md i ⟨d, .box e x, ty, pos, aft, g⟩ = (match tyAt tt e with
  | some ie=>rdv x fun v=>take (virt i) v fun v' ups=>.need (v'.size=ie.size∧v'.solid=true)<|match ups with
   | []=>finOwn d (.box e v') []
   | _=>.rd (virt i) fun sv=>finOwn d (.box e v') ((virt i,⟨verOf sv+1,.val .any⟩)::ups)
  | none=>.fail):=rfl
theorem Aem {tt : Tt} {md : FuncId → List Bool} {i : Nat} {d : Option Tmp} {ty : TypeId} {pos : String} {aft : Array Edge} {g : Option (Nat × Bool)} (t : TypeId) (x : Operand) : opRd tt md i ⟨d, .load t x, ty, pos, aft, g⟩ = (match tyAt tt t with
  | some it=>rdv x fun
   | .addr s k p off sub=>rdn s k p fun _ n=>match n.part sub with
    | some t0=>.need (off=n.offN sub∧t0.size=it.size∧t0.isAgg=it.zero.isAgg) (fin d (T.borrow s k (p++sub) t0))
    | none=>.fail
   | .fptr t0=>.need (t0.size=it.size∧t0.isAgg=it.zero.isAgg) (fin d t0)
   | _=>.fail
  | none=>.fail):=rfl
theorem Z6 {tt : Tt} {md : FuncId → List Bool} {i : Nat} {d : Option Tmp} {ty : TypeId} {pos : String} {aft : Array Edge} {g : Option (Nat × Bool)} (t : TypeId) (x y : Operand) : opRd tt md i ⟨d, .store t x y, ty, pos, aft, g⟩ = (match tyAt tt t, d with
  | some it,none=>rdv x fun
   | .addr s k p off sub=>rdv y fun v=>take (virt i) v fun v' ups=>rdn s k p fun T0 n=>match n.part sub with
    | some t0=>.need (off=n.offN sub∧t0.size=it.size∧v'.size=t0.size∧v'.isAgg=t0.isAgg∧v'.solid=true)<|match ups with
     | []=>.done [(s,⟨if v'.scalar&&t0.scalar then k else k+1,.own (T.set v' (p++sub) T0)⟩)]
     | (u,_)::_=>if u=s∨s=virt i then .fail else .rd (virt i) fun sv=>refresh s k i u (p++sub) fun more=>.done (more++(s,⟨k+1,.own (T.set v' (p++sub) T0)⟩)::(virt i,⟨verOf sv+1,.val .any⟩)::ups)
    | none=>.fail
   | _=>.fail
  | _,_=>.fail):=rfl
theorem Rv {tt : Tt} {md : FuncId → List Bool} {i : Nat} {d : Option Tmp} {ty : TypeId} {pos : String} {aft : Array Edge} {g : Option (Nat × Bool)} (t : TypeId) (x : Operand) (f : Nat) : opRd tt md i ⟨d, .fieldAddr t x f, ty, pos, aft, g⟩ = (match tyAt tt t with
  | some ⟨_,_,_,.struct fs⟩=>match fs[f]? with
   | some (_,offf,szf)=>.need (szf≠0)<|rdv x fun
    | .addr s k p off sub=>if sub.isEmpty then .fail else rdn s k p fun _ _=>fin d (.addr s k p (off+offf) (sub++[f]))
    | .fptr (.agg l)=>match l[f]? with
     | some t0=>.need (T.sizeL (l.take f)=offf) (fin d (.fptr t0))
     | none=>.fail
    | _=>.fail
   | none=>.fail
  | _=>.fail):=rfl
theorem Acd {tt : Tt} {md : FuncId → List Bool} {i : Nat} {d : Option Tmp} {ty : TypeId} {pos : String} {aft : Array Edge} {g : Option (Nat × Bool)} (t : TypeId) (x : Operand) (f : Nat) : opRd tt md i ⟨d, .field t x f, ty, pos, aft, g⟩ = (match tyAt tt t with
  | some ⟨_,_,_,.struct fs⟩=>match fs[f]? with
   | some (tf,offf,szf)=>match tyAt tt tf with
    | some itf=>rdv x fun
     | .agg l=>match l[f]? with
      | some t0=>.need (T.sizeL (l.take f)=offf∧t0.size=szf∧t0.isAgg=itf.zero.isAgg) (fin d t0)
      | none=>.fail
     | _=>.fail
    | none=>.fail
   | none=>.fail
  | _=>.fail):=rfl
theorem Rb {tt : Tt} {md : FuncId → List Bool} {i : Nat} {d : Option Tmp} {ty : TypeId} {pos : String} {aft : Array Edge} {g : Option (Nat × Bool)} (t : TypeId) (x y : Operand) : opRd tt md i ⟨d, .indexAddr t x y, ty, pos, aft, g⟩ = (match tyAt tt t with
  | some ⟨_,_,_,.slice e⟩=>match tyAt tt e with
   | some ie=>rdv x fun v=>rdv y fun u=>intRd u fun n=>match v with
    | .ref s k p=>rdn s k p fun _ nd=>match nd with
     | .sl true e' l=>.need (e'=e∧0≤n∧n<l.length) (fin d (.addr s k p (n.toNat*ie.size) [n.toNat]))
     | .win e' kk hh l=>.need (e'=e∧0≤n∧n<((hh-kk:Nat):Int)∧ie.size=1) (fin d (.addr s k p (kk+n.toNat) [kk+n.toNat]))
     | _=>.fail
    | .sl false e' l=>.need (e'=e∧0≤n∧n<l.length) (fin d (.fptr (l.getD n.toNat .any)))
    | .str (.src _ _ l)=>.need (ie.size=1∧0≤n∧n<l.length) (fin d (.fptr (.int .u8 (l.getD n.toNat 0))))
    | .str (.raw a m cp)=>ghost a m cp fun l=>.need (ie.size=1∧0≤n∧n<l.length) (fin d (.fptr (.int .u8 (l.getD n.toNat 0))))
    | _=>.fail
   | none=>.fail
  | _=>.fail):=rfl
theorem Aa2 {tt : Tt} {md : FuncId → List Bool} {i : Nat} {d : Option Tmp} {ty : TypeId} {pos : String} {aft : Array Edge} {g : Option (Nat × Bool)} (t : TypeId) (x : Operand) (lo hi : Option Operand) : opRd tt md i ⟨d, .slice t x lo hi none, ty, pos, aft, g⟩ = (match tyAt tt t with
  | some ⟨_,_,_,.slice e⟩=>match tyAt tt e with
   | some _ie=>rdv x fun
    | .sl false e' l=>
     boundRd lo 0 fun a=>boundRd hi l.length fun b=>.need (e'=e∧0≤a∧a≤b∧b≤l.length) (fin d (.sl false e ((l.take b.toNat).drop a.toNat)))
    | .ref s k p=>(match d with
     | some d1=>if s=d1 then .fail else rdn s k p fun T0 nd=>match nd with
      | .sl true e' l => if _ie.kind.isSl then boundRd lo 0 fun a => boundRd hi l.length fun b => .need (e' = e ∧ 0 ≤ a ∧ a ≤ b ∧ b ≤ l.length ∧ a < l.length ∧ _ie.size = 1)
        (.rd d1 fun sd=>.done [(d1,⟨verOf sd+1,.own (.win e a.toNat b.toNat l)⟩),(s,⟨k,.own (T.set .any p T0)⟩)]) else
       if cutB lo hi then boundRd hi l.length fun c=>.need (e'=e∧0≤c∧c≤l.length∧_ie.size=1∧l.all T.scalar=true)
        (.rd d1 fun sd=>.done [(d1,⟨verOf sd+1,.own (.sl true e (l.take c.toNat))⟩),(s,⟨k,.own (T.set .any p T0)⟩)]) else
       boundRd lo 0 fun a=>if hi.isNone then .need (e'=e∧0≤a∧a<l.length∧_ie.size=1) (fin d (.addr s k p a.toNat [])) else boundRd hi l.length fun b=>.need (e'=e∧0≤a∧a≤b∧b≤l.length)
        (.rd d1 fun sd=>.done [(d1,⟨verOf sd,.val (.sl false e (((T.freezeL l).take b.toNat).drop a.toNat))⟩),(s,⟨k,.val T0.freeze⟩)])
      | _=>.fail
     | none=>.fail)
    | _=>.fail
   | none=>.fail
  | _=>.fail):=rfl
theorem Q6 {tt : Tt} {md : FuncId → List Bool} {i : Nat} {d : Option Tmp} {ty : TypeId} {pos : String} {aft : Array Edge} {g : Option (Nat × Bool)} (t : TypeId) (x y : Operand) : opRd tt md i ⟨d, .makeSlice t x y, ty, pos, aft, g⟩ = (match tyAt tt t with
  | some ⟨_,_,_,.slice e⟩=>match tyAt tt e with
   | some ie=>rdv x fun v=>rdv y fun u=>match v,u with
    | .int .i64 n,.int .i64 m=>.need (n=m∧0≤n∧n≤1099511627776∧ie.bytes≤64∧ie.size=1∧ie.zero.isAgg=false) (finOwn d (.sl true e (List.replicate n.toNat ie.zero)) [])
    | _,_=>.fail
   | none=>.fail
  | _=>.fail):=rfl
theorem Qm {tt : Tt} {md : FuncId → List Bool} {i : Nat} {d : Option Tmp} {ty : TypeId} {pos : String} {aft : Array Edge} {g : Option (Nat × Bool)} (t : TypeId) (n : Nat) (parts : Array (Nat × Operand)) : opRd tt md i ⟨d, .buildSlice t n parts, ty, pos, aft, g⟩ = (match tyAt tt t with
  | some ⟨_,_,_,.slice e⟩=>match tyAt tt e with
   | some ie => if ie.size = 1 ∧ parts.toList.map (·.1) = List.range n ∧ n ≤ 1000 ∧ ie.zero.isAgg = false ∧ (n ≠ 1 ∨ ie.zero.scalar = true) then
     rdvL (parts.toList.map (·.2)) fun vs=>if vs.all (fun v=>v.pure&&v.refFree&&v.solid && !v.isAgg) then .need (∀ v∈vs,v.size=1) (finOwn d (.sl true e vs) []) else .fail
    else (match n,parts.toList with
     | 1,[(0,x)]=>rdv x fun v=>take (virt i) v fun v' ups=>.need (v'.size=ie.size∧v'.solid=true∧0<ie.size∧ie.size≤1000)<|match ups with
      | []=>finOwn d (.sl true e [v']) []
      | _=>.rd (virt i) fun sv=>finOwn d (.sl true e [v']) ((virt i,⟨verOf sv+1,.val .any⟩)::ups)
     | 0,[]=>finOwn d (.sl true e []) []
     | 2,[(0,x),(1,y)]=>rdv x fun v=>rdv y fun u=>if v.pure&&v.refFree&&v.solid&&(u.pure&&u.refFree&&u.solid) then .need (v.size=ie.size∧u.size=ie.size∧0<ie.size∧ie.size≤1000) (finOwn d (.sl true e [v,u]) []) else .fail
     | _,_=>.fail)
   | none=>.fail
  | _=>.fail):=rfl
theorem Aal {tt : Tt} {md : FuncId → List Bool} {i : Nat} {d : Option Tmp} {ty : TypeId} {pos : String} {aft : Array Edge} {g : Option (Nat × Bool)} (t : TypeId) (parts : Array (Nat × Operand)) : opRd tt md i ⟨d, .build t parts, ty, pos, aft, g⟩ = (match tyAt tt t with
  | some ⟨_, _, .agg zs, .struct fs⟩ => if fs.all (fun x => x.2.2 != 0) = false then .fail else
    buildRd fs parts.toList zs fun l=>fin d (.agg l)
  | _=>.fail):=rfl
theorem Aby {tt:Tt} {md:FuncId→List Bool} {i:Nat} {d:Option Tmp} {ty:TypeId} {pos:String} {aft:Array Edge} {g:Option (Nat×Bool)} (op:BinOp) (t t':TypeId) (x y:Operand):opRd tt md i ⟨d,.binOp op t x y t',ty,pos,aft,g⟩=(rdv x fun v=>rdv y fun u=>binRd (isBoolTy tt t) op v u (fin d)):=rfl
theorem Ae5 {tt:Tt} {md:FuncId→List Bool} {i:Nat} {d:Option Tmp} {ty:TypeId} {pos:String} {aft:Array Edge} {g:Option (Nat×Bool)} (op:UnOp) (t':TypeId) (x:Operand):opRd tt md i ⟨d,.unOp op t' x,ty,pos,aft,g⟩=(rdv x fun v=>unRd op v (fin d)):=rfl
theorem Vv {tt : Tt} {md : FuncId → List Bool} {i : Nat} {d : Option Tmp} {ty : TypeId} {pos : String} {aft : Array Edge} {g : Option (Nat × Bool)} (s t : TypeId) (x : Operand) : opRd tt md i ⟨d, .convert s t x, ty, pos, aft, g⟩ = (match tyAt tt s with
  | some _=>match tyAt tt t with
   | some ⟨_,_,_,.int k⟩=>rdv x fun v=>intRd v fun n=>fin d (.int k (k.wrap n))
   | _=>.fail
  | none=>.fail):=rfl
theorem Wd {tt : Tt} {md : FuncId → List Bool} {i : Nat} {d : Option Tmp} {ty : TypeId} {pos : String} {aft : Array Edge} {g : Option (Nat × Bool)} (x : Operand) (j : Nat) : opRd tt md i ⟨d, .extract x j, ty, pos, aft, g⟩ = (rdv x fun
  | .tup l=>match l[j]? with
   | some t=>fin d t
   | none=>.fail
  | _=>.fail):=rfl
theorem Tl {tt : Tt} {md : FuncId → List Bool} {i : Nat} {d : Option Tmp} {ty : TypeId} {pos : String} {aft : Array Edge} {g : Option (Nat × Bool)} (f : FuncId) (first caps : Array Operand) : opRd tt md i ⟨d, .makeFunc (.func f) first caps, ty, pos, aft, g⟩ = (if first.size = 0 ∧ f < 1000000 then
   rdvL caps.toList fun vs=>fin d (.fn f vs) else if caps.size=0∧first.size≠0 then
   rdvL first.toList fun vs=>fin d (.fn (1000000+f) vs) else .fail):=rfl
theorem Wh {tt:Tt} {md:FuncId→List Bool} {i:Nat} {d:Option Tmp} {ty:TypeId} {pos:String} {aft:Array Edge} {g:Option (Nat×Bool)} (b:Builtin) (args:List Operand) (tys:List TypeId):opRd tt md i ⟨d,.call ⟨.builtin b,args.toArray,tys.toArray⟩,ty,pos,aft,g⟩=builtinRd' tt d b args tys i:=rfl
theorem Afm {tt : Tt} {md : FuncId → List Bool} {i : Nat} {d : Option Tmp} {ty : TypeId} {pos : String} {aft : Array Edge} {g : Option (Nat × Bool)} (x : Operand) (args : List Operand) (tys : Array TypeId) : opRd tt md i ⟨d, .call ⟨.value x, args.toArray, tys⟩, ty, pos, aft, g⟩ = (rdv x fun
   | .fn f caps=>callRd' md d f args caps i
   | _=>.fail):=rfl
attribute [go_sem ↓] Ahb Agp Adr X1 Te Af4 Abq Ah9 Aem Z6 Rv Acd Rb Aa2 Q6 Qm Aal Aby Ae5 Vv Wd Tl Wh Afm
attribute [go_sem ↓] Ab9 Aax
attribute [go_sem] List.size_toArray List.toList_toArray
theorem Aey {isB:Bool} {k:IntKind} {a b:Int} {c:T→Rd}:binRd isB .add (.int k a) (.int k b) c=c (.int k (k.wrap (a+b))):=by simp only [binRd,wrapInt,if_true]
theorem Adw {isB:Bool} {k:IntKind} {a b:Int} {c:T→Rd}:binRd isB .sub (.int k a) (.int k b) c=c (.int k (k.wrap (a-b))):=by simp only [binRd,wrapInt,if_true]
theorem Ad7 {isB:Bool} {k:IntKind} {a b:Int} {c:T→Rd}:binRd isB .mul (.int k a) (.int k b) c=c (.int k (k.wrap (a*b))):=by simp only [binRd,wrapInt,if_true]
theorem Afg {isB:Bool} {k:IntKind} {a b:Int} {c:T→Rd}:binRd isB .eql (.int k a) (.int k b) c=c (.bool (a==b)):=by simp only [binRd,wrapInt,if_true]
theorem Adc {isB:Bool} {k:IntKind} {a b:Int} {c:T→Rd}:binRd isB .neq (.int k a) (.int k b) c=c (.bool (a != b)):=by simp only [binRd,wrapInt,if_true]
theorem Aeq {isB:Bool} {k:IntKind} {a b:Int} {c:T→Rd}:binRd isB .lss (.int k a) (.int k b) c=c (.bool (decide (a<b))):=by simp only [binRd,wrapInt,if_true]
theorem Aew {isB:Bool} {k:IntKind} {a b:Int} {c:T→Rd}:binRd isB .leq (.int k a) (.int k b) c=c (.bool (decide (a≤b))):=by simp only [binRd,wrapInt,if_true]
theorem Aei {isB:Bool} {k:IntKind} {a b:Int} {c:T→Rd}:binRd isB .gtr (.int k a) (.int k b) c=c (.bool (decide (b<a))):=by simp only [binRd,wrapInt,if_true]
theorem Aef {isB:Bool} {k:IntKind} {a b:Int} {c:T→Rd}:binRd isB .geq (.int k a) (.int k b) c=c (.bool (decide (b≤a))):=by simp only [binRd,wrapInt,if_true]
theorem Ae6 {isB:Bool} {k:IntKind} {a b:Int} {c:T→Rd}:binRd isB .quo (.int k a) (.int k b) c=.need (b≠0) (c (.int k (k.wrap (a.tdiv b)))):=by simp only [binRd,wrapInt,if_true]
theorem Afp {isB:Bool} {k:IntKind} {a b:Int} {c:T→Rd}:binRd isB .rem (.int k a) (.int k b) c=.need (b≠0) (c (.int k (a.tmod b))):=by simp only [binRd,wrapInt,if_true]
theorem Adk {isB:Bool} {k k':IntKind} {a b:Int} {c:T→Rd}:binRd isB .shr (.int k a) (.int k' b) c=.need (0≤b) (c (.int k (shrI k a b))):=by simp only [binRd]
def andI (k:IntKind) (a b:Int):Int:=k.wrap ((BitVec.ofInt k.bits a &&& BitVec.ofInt k.bits b).toNat:Int)
theorem Adg {isB:Bool} {k:IntKind} {a b:Int} {c:T→Rd}:binRd isB .and (.int k a) (.int k b) c=c (.int k (andI k a b)):=by simp only [binRd,wrapInt,if_true,andI]
theorem Aea (a:Option Addr) (cp:Nat) (l:List Int) (c:List T→Rd):elems (.str (.src a cp l)) c=c (l.map (T.int .u8)):=rfl
theorem Adz (a:Option Addr) (n cp:Nat) (c:List T→Rd):elems (.str (.raw a n cp)) c=ghost a n cp fun l=>c (l.map (T.int .u8)):=rfl
theorem Aj4:cutB none none=false:=rfl
theorem Akc (v:Value):cutB none (some (.const v))=true:=rfl
theorem Ajx (t:Nat):cutB none (some (.tmp t))=false:=rfl
theorem Aky (x:Operand) (y:Option Operand):cutB (some x) y=false:=by cases y <;> rfl
attribute [go_sem ↓] Aj4 Akc Ajx Aky
attribute [go_sem ↓] Adk Adg Aea Adz
attribute [go_sem ↓] Aey Adw Ad7 Afg Adc Aeq Aew Aei Aef Ae6 Afp
theorem Xk {AF : FuncId → List T → T → Prop} {t : Nat} {c : T → Rd} {env : Env} {K : List (Nat × Slot) → List Nat → Prop} : Rd.run AF (rdv (.tmp t) c) env K = (match lk env t with
  | some ⟨_,.val y⟩=>Rd.run AF (c y) env (fun U R=>K U (t::R))
  | some ⟨k,.own y⟩=>Rd.run AF (c (T.borrow t k [] y)) env (fun U R=>K U (t::R))
  | _=>False):=by
 simp only [rdv,Rd.run]
 cases lk env t with
 | none=>rfl
 | some s=>obtain ⟨k,v⟩:=s;cases v <;> rfl
theorem W1 {AF:FuncId→List T→T→Prop} {k:IntKind} {n:Int} {c:T→Rd} {env:Env} {K:List (Nat×Slot)→List Nat→Prop}:Rd.run AF (rdv (.const (.int k n)) c) env K=Rd.run AF (c (.int k n)) env K:=rfl
theorem U1 {AF:FuncId→List T→T→Prop} {n:Bool} {c:T→Rd} {env:Env} {K:List (Nat×Slot)→List Nat→Prop}:Rd.run AF (rdv (.const (.bool n)) c) env K=Rd.run AF (c (.bool n)) env K:=rfl
theorem Yu {AF:FuncId→List T→T→Prop} {n:ByteArray} {c:T→Rd} {env:Env} {K:List (Nat×Slot)→List Nat→Prop}:Rd.run AF (rdv (.const (.string n)) c) env K=Rd.run AF (c (.str (.str n))) env K:=rfl
theorem Qq {AF:FuncId→List T→T→Prop} {c:T→Rd} {env:Env} {K:List (Nat×Slot)→List Nat→Prop}:Rd.run AF (rdv (.const .nilFunc) c) env K=Rd.run AF (c (.str .nilFunc)) env K:=rfl
theorem Rs {AF:FuncId→List T→T→Prop} {c:T→Rd} {env:Env} {K:List (Nat×Slot)→List Nat→Prop}:Rd.run AF (rdv (.const (.pointer Option.none)) c) env K=Rd.run AF (c (.str .nilPtr)) env K:=rfl
theorem Xf {AF:FuncId→List T→T→Prop} {c:T→Rd} {env:Env} {K:List (Nat×Slot)→List Nat→Prop}:Rd.run AF (rdv (.const (.slice Option.none 0 0)) c) env K=Rd.run AF (c .nil) env K:=rfl
theorem Wa {AF:FuncId→List T→T→Prop} {f:FuncId} {c:T→Rd} {env:Env} {K:List (Nat×Slot)→List Nat→Prop}:Rd.run AF (rdv (.func f) c) env K=Rd.run AF (c (.fn f [])) env K:=rfl
theorem Ajd {AF : FuncId → List T → T → Prop} {s k : Nat} {p : List Nat} {c : T → T → Rd} {env : Env} {K : List (Nat × Slot) → List Nat → Prop} : Rd.run AF (rdn s k p c) env K = (match lk env s with
  | some ⟨k',.own T0⟩=>if k'=k then (match T.get p T0 with
   | some n=>if n.isNode then Rd.run AF (c T0 n) env (fun U R=>K U (s::R)) else False
   | none=>False) else False
  | _=>False):=by
 simp only [rdn,Rd.run]
 cases lk env s with
 | none=>rfl
 | some x=>
  obtain ⟨k',v⟩:=x
  cases v with
  | own T0=>
   by_cases h:k'=k
   ·simp only [h,if_true]
    cases T.get p T0 with
    | none=>rfl
    | some n=>cases g:n.isNode <;> simp [Rd.run,g]
   ·simp only [h,if_false];rfl
  | _=>rfl
theorem Ue {AF:FuncId→List T→T→Prop} {d:Nat} {x:T} {env:Env} {K:List (Nat×Slot)→List Nat→Prop}:Rd.run AF (fin (some d) x) env K=K [(d,⟨verOf (lk env d),.val x⟩)] [d]:=rfl
theorem V5 {AF:FuncId→List T→T→Prop} {x:T} {env:Env} {K:List (Nat×Slot)→List Nat→Prop}:Rd.run AF (fin none x) env K=K [] []:=rfl
theorem Ace {AF:FuncId→List T→T→Prop} {d:Nat} {x:T} {ups:List (Nat×Slot)} {env:Env} {K:List (Nat×Slot)→List Nat→Prop}:Rd.run AF (finOwn (some d) x ups) env K=K ((d,⟨verOf (lk env d)+1,.own x⟩)::ups) [d]:=rfl
theorem Agc {AF:FuncId→List T→T→Prop} {p:Prop} {k:Rd} {env:Env} {K:List (Nat×Slot)→List Nat→Prop}:Rd.run AF (.need p k) env K=(p∧Rd.run AF k env K):=rfl
theorem Ak3 {AF:FuncId→List T→T→Prop} {t:Nat} {k:Option Slot→Rd} {env:Env} {K:List (Nat×Slot)→List Nat→Prop}:Rd.run AF (.rd t k) env K=Rd.run AF (k (lk env t)) env (fun U R=>K U (t::R)):=rfl
theorem Agv {AF:FuncId→List T→T→Prop} {ups:List (Nat×Slot)} {env:Env} {K:List (Nat×Slot)→List Nat→Prop}:Rd.run AF (.done ups) env K=K ups []:=rfl
theorem Ah8 {AF:FuncId→List T→T→Prop} {env:Env} {K:List (Nat×Slot)→List Nat→Prop}:Rd.run AF .fail env K=False:=rfl
theorem Agu {AF:FuncId→List T→T→Prop} {f:FuncId} {args:List T} {ups:T→List (Nat×Slot)} {env:Env} {K:List (Nat×Slot)→List Nat→Prop}:Rd.run AF (.call f args ups) env K=(∃ r,AF f args r∧K (ups r) []):=rfl
@[congr] theorem run_congr {AF:FuncId→List T→T→Prop} {r r':Rd} {env:Env} {K:List (Nat×Slot)→List Nat→Prop} (h:r=r'):Rd.run AF r env K=Rd.run AF r' env K:=by rw [h]
@[congr] theorem rdv_congr {x:Operand} {c:T→Rd}:rdv x c=rdv x c:=rfl
@[congr] theorem rdn_congr {s k:Nat} {p:List Nat} {c:T→T→Rd}:rdn s k p c=rdn s k p c:=rfl
@[congr] theorem resolve_congr {t t':T} {c:T→Rd} (h:t=t'):resolve t c=resolve t' c:=by rw [h]
@[congr] theorem rd_congr {t:Nat} {k:Option Slot→Rd}:Rd.rd t k=Rd.rd t k:=rfl
@[congr] theorem need_congr {p:Prop} {k:Rd}:Rd.need p k=Rd.need p k:=rfl
@[congr] theorem fin_congr {d:Option Nat} {x:T}:fin d x=fin d x:=rfl
@[congr] theorem finOwn_congr {d:Option Nat} {x:T} {ups:List (Nat×Slot)}:finOwn d x ups=finOwn d x ups:=rfl
attribute [go_sem ↓] Xk W1 U1 Yu Qq Rs Xf Wa Ajd Ue V5 Ace Agc Ak3 Agv Ah8 Agu
theorem Ac6:(∀ v∈([]:List T),v.size=1)↔True:=by simp
theorem Ja:T.sizeL []=0:=rfl
attribute [go_sem] ioUps itUps wtUps ioGUps ghost List.length_map skipRd mkSV T.noOwnL verOf binRd unRd wrapInt intRd boundRd resolveL T.sizeL T.pureL T.refFreeL T.solidL T.get T.set T.part T.offN T.getI T.offI T.withKids T.borrowL T.freezeL take virt holeAt elems elemsE appendBase appendOwn vetted buildRd pureRd giveRd zipB T.plainL md
attribute [go_sem] TK.isSl T.fgt T.fgtL refresh notPre calm calmT sameCells T.blank T.hands T.handsL T.shift T.shiftL one3 two3 rdo sUps T.flat kUps cUps xUps T.away T.awayL List.drop_zero List.drop_succ_cons
attribute [go_sem] List.range_zero List.forall_mem_cons Ac6 Int.natCast_zero Int.cast_ofNat_Int bne_self_eq_false beq_self_eq_true argEnv resSrc T.noFL Dm
attribute [go_sem ↓] skipRd binRd unRd intRd boundRd resolveL rdvL take elems elemsE appendBase appendOwn vetted buildRd pureRd giveRd callRd' ioRd ioGRd kRd cRd sRd yRd kUps cUps sUps rdo xRd xUps ghost builtinRd' lk isBoolTy mkSV verOf T.noOwnL T.sizeL T.pureL T.refFreeL T.solidL T.plainL T.freezeL T.borrowL
theorem Alb:tyAt tt 2=some ⟨1,8,.int .i64 0,.int .i64⟩:=rfl
theorem Ale:tyAt tt 3=some ⟨1,8,.int .i64 0,.int .i64⟩:=rfl
theorem Ake:tyAt tt 4=some ⟨1,1,.bool false,.bool⟩:=rfl
theorem Ajr:tyAt tt 27=some ⟨1,24,.nil,.slice 2⟩:=rfl
theorem Aj2:tyAt tt 24=some ⟨1,24,.nil,.slice 27⟩:=rfl
theorem Akj:tyAt tt 5=some ⟨1,1,.int .u8 0,.int .u8⟩:=rfl
theorem Ag7:tyAt tt 153=some ⟨1,8,.int .u64 0,.int .u64⟩:=rfl
theorem Aj7:tyAt tt 22=some ⟨1,24,.nil,.slice 5⟩:=rfl
theorem Ag0:tyAt tt 155=some ⟨3,40,.agg [.nil,.int .i64 0,.int .u64 0],.struct [(22,0,1),(3,1,1),(153,2,1)]⟩:=rfl
theorem Aja:tyAt tt 29=some ⟨2,32,.agg [.int .i64 0,.nil],.struct [(2,0,1),(27,1,1)]⟩:=rfl
theorem Akb:tyAt tt 26=some ⟨2,32,.agg [.int .i64 0,.nil],.struct [(2,0,1),(24,1,1)]⟩:=rfl
theorem Aia:tyAt tt 187=some ⟨1,24,.nil,.slice 24⟩:=rfl
theorem Ahc:tyAt tt 184=some ⟨1,24,.nil,.slice 26⟩:=rfl
theorem Ahp:tyAt tt 142=some ⟨1,24,.nil,.slice 29⟩:=rfl
theorem Ajm:tyAt tt 86=some ⟨1,8,.str .nilFunc,.plain⟩:=rfl
theorem Aj8:tyAt tt 85=some ⟨1,8,.str .nilFunc,.plain⟩:=rfl
attribute [go_sem ↓] Alb Ale Ake Ajr Aj2 Akj Ag7 Aj7 Ag0 Aja Akb Aia Ahc Ahp Ajm Aj8
attribute [go_sem] List.any_nil List.any_cons List.map_cons List.map_nil List.cons_append List.nil_append List.append_nil Option.bind_some Option.bind_none List.getElem?_toArray List.getElem?_cons_zero List.getElem?_cons_succ true_and and_true id_eq Bool.not_false Bool.not_true Bool.false_eq_true decide_eq_true_eq Bool.or_false Bool.false_or E6 E7 Qt Jm Ft List.modify_zero_cons List.modify_succ_cons List.eraseIdx_cons_succ List.eraseIdx_cons_zero List.set_cons_succ List.set_cons_zero List.eraseIdx_nil Option.getD_some Option.getD_none Nat.zero_add Nat.add_zero eq_self Bool.and_true Bool.true_and Bool.and_self Bool.and_false Bool.false_and List.take_zero List.take_succ_cons List.take_nil Option.map_some List.length_cons List.length_nil ne_eq Nat.one_ne_zero not_false_eq_true and_self ge_iff_le gt_iff_lt Int.toNat_zero Int.le_refl List.all_cons List.all_nil
theorem AWP.condT {C:Ctx} {n:Nat} {Q:Exit→Env→Prop} {env:Env} {c:Nat} {x y:Code} {k:Nat} (hc:c<1000000) (hl:lk env c=some ⟨k,.val (.bool true)⟩) (h:AWP C n x Q env):AWP C n (.cond (.tmp c) x y) Q env:=
 AWP.cond hc hl (fun _=>h) (fun h=>by cases h)
theorem AWP.condF {C:Ctx} {n:Nat} {Q:Exit→Env→Prop} {env:Env} {c:Nat} {x y:Code} {k:Nat} (hc:c<1000000) (hl:lk env c=some ⟨k,.val (.bool false)⟩) (h:AWP C n y Q env):AWP C n (.cond (.tmp c) x y) Q env:=
 AWP.cond hc hl (fun h=>by cases h) (fun _=>h)
theorem retOk1 {tt:Tt} {x:ResultVar} {r:T} {env:Env} {a:Nat×List Nat×T} (h:resSrc tt env x=some a) (hr:r=a.2.2):retOk tt [x] r env:=
 ⟨[a],by simp [h],Pb (by simp),hr⟩
theorem retOk2 {tt:Tt} {x y:ResultVar} {r:T} {env:Env} {a b:Nat×List Nat×T} (h:resSrc tt env x=some a) (g:resSrc tt env y=some b) (hn:a.1≠b.1) (hr:r=.tup [a.2.2,b.2.2]):retOk tt [x,y] r env:=
 ⟨[a,b],by simp [h,g],Pb (by simpa using hn),hr⟩
theorem AWP.text' {C : Ctx} {P : Program} (hC : C.P = P) {n : Nat} {Q : Exit → Env → Prop} {env : Env} {tt : Tt} (hP : TtOk C.P tt) (md : FuncId → List Bool) (hn1 : n ≤ 1000000) {l : List Oper} {id : Nat} (hok : l.all (opOk n) = true)
  (h:rgn (AFn P) (fun _=>True) (Q .normal) (gRds tt md l.toArray l 0) env []):AWP C n (.region id l.toArray false) Q env:=AWP.text hP md hn1 (by simpa using hok) (by subst hC;simpa using h)
theorem AWP.any' {C : Ctx} {P : Program} (hC : C.P = P) {n : Nat} {Q : Exit → Env → Prop} {env : Env} {tt : Tt} (hm : C.P.follows .mixedOrders = true) (hP : TtOk C.P tt) (md : FuncId → List Bool) (hn1 : n ≤ 1000000) {l : List Oper} {id : Nat} (hok : l.all (opOk n) = true)
  (h:rgn (AFn P) (fun tr=>okB l.toArray tr=true) (Q .normal) (gRds tt md l.toArray l 0) env []):AWP C n (.region id l.toArray true) Q env:=AWP.any hm hP md hn1 (by simpa using hok) (by subst hC;simpa using h)
theorem AFn.of' {P : Program} {tt : Tt} (hP : TtOk P tt) {f : FuncId} (hlt : f < 1000000) {fn : Func} {c : Code} {args : List T} {r : T} {n : Nat} {rs : List ResultVar} {e : Env} (hf : P.funcs[f]? = some fn) (hn : fn.ntmps = n) (hrs : fn.results.toList = rs) (hb : fn.body = some c) (hname : (fn.name == "runtime.NumGoroutine") = false) (hargs : args.length ≤ n)
  (h3:rs.length=1∨rs.length=2∨rs.length=3∨rs.length=4∨rs.length=5) (he:argEnv 0 args=e) (hm:P.follows .mixedOrders=true) (h:∀ C:Ctx,TtOk C.P tt→C.P.follows .mixedOrders=true→C.P=P→AWP C n c (endQ tt rs r) e):AFn P f args r:=by
 subst hn;subst hrs;subst he
 exact AFn.of hP hlt hf hb hname hargs h3 (fun C hC=>h C (hC▸hP) (hC▸hm) hC)
theorem AFg.of' {P : Program} {tt : Tt} (hP : TtOk P tt) {f : FuncId} {fn : Func} {c : Code} {e : TypeId} {ts ts' rest : List T} {g r1 : T} {n : Nat} {rs : List ResultVar} {E : Env} (hf : P.funcs[f]? = some fn) (hn : fn.ntmps = n) (hrs : fn.results.toList = rs) (hb : fn.body = some c) (hname : (fn.name == "runtime.NumGoroutine") = false) (hargs : rest.length + 1 ≤ n)
  (hn2:n≤1000000) (h3:rs.length=1∨rs.length=2∨rs.length=3∨rs.length=4∨rs.length=5) (hsc:∀ t∈ts,t.scalar=true) (hsc':∀ t∈ts',t.scalar=true) (hlen:ts'.length=ts.length) (he:(0,⟨0,.val (.addr 3000001 0 [] 0 [0])⟩)::(3000000,⟨0,.val g⟩)::(3000001,⟨0,.own (.box e (.agg ts))⟩)::argEnv 0 (.any::rest)=E) (hm:P.follows .mixedOrders=true)
  (h:∀ C:Ctx,TtOk C.P tt→C.P.follows .mixedOrders=true→C.P=P→AWP C n c (endQG tt rs r1 e ts') E) (hlt:f<1000000:=by decide):AFn P (5000000+f) (g::.box e (.agg ts)::rest) (.tup [r1,.box e (.agg ts')]):=by
 subst hn;subst hrs;subst he
 exact (Aiv hlt).2 (AFg.of hP hf hb hname hargs (by omega) h3 hsc hsc' hlen (fun C hC=>h C (hC▸hP) (hC▸hm) hC))
theorem AFk.of' {P : Program} {tt : Tt} (hP : TtOk P tt) {f : FuncId} {fn : Func} {c : Code} {B B' A : T} {caps : List T} {r1 : T} {tr n : Nat} {E : Env} (hf : P.funcs[f]? = some fn) (hn : fn.ntmps = n) (hrs : fn.results.toList = [.tmp tr]) (hb : fn.body = some c) (hname : (fn.name == "runtime.NumGoroutine") = false) (hargs : caps.length + 1 ≤ n) (hargs2 : caps.length < 900000)
  (ht:tr<1000000) (hsr:r1.scalar=true) (hsame:sameCells B B'=true) (hnf:B'.noF=true) (he:argEnv 1 caps++[(0,⟨0,mkSV A⟩),(3000001,⟨0,.own B⟩)]=E) (hm:P.follows .mixedOrders=true) (h:∀ C:Ctx,TtOk C.P tt→C.P.follows .mixedOrders=true→C.P=P→AWP C n c (endQK (res1 tr r1) B B') E):AFk P f (B::A::caps) (.tup [r1,B']):=by
 subst hn;subst he
 exact AFk.of hf hb hname hargs hargs2 (M5 hsr) hsame hnf (fun C2 env a w hF hr=>by
  obtain ⟨v,h1,h2⟩:=V7 hrs ht hsr C2 env a w hF hr
  exact ⟨v,h1,fun X s=>⟨[v],(La hsr v).symm,h2 X s []⟩⟩) (fun C hC=>h C (hC▸hP) (hC▸hm) hC)
theorem AFk.of0' {P : Program} {tt : Tt} (hP : TtOk P tt) {f : FuncId} {fn : Func} {c : Code} {B B' A : T} {caps : List T} {n : Nat} {E : Env} (hf : P.funcs[f]? = some fn) (hn : fn.ntmps = n) (hrs : fn.results.toList = []) (hb : fn.body = some c) (hname : (fn.name == "runtime.NumGoroutine") = false) (hargs : caps.length + 1 ≤ n) (hargs2 : caps.length < 900000)
  (hsame:sameCells B B'=true) (hnf:B'.noF=true) (he:argEnv 1 caps++[(0,⟨0,mkSV A⟩),(3000001,⟨0,.own B⟩)]=E) (hm:P.follows .mixedOrders=true) (h:∀ C:Ctx,TtOk C.P tt→C.P.follows .mixedOrders=true→C.P=P→AWP C n c (endQK (fun _=>True) B B') E):AFk P f (B::A::caps) (.tup [.tup [],B']):=by
 subst hn;subst he
 exact AFk.of hf hb hname hargs hargs2 rfl hsame hnf (fun C2 env a w hF hr=>⟨_,results0 hrs _ _,Zq⟩) (fun C hC=>h C (hC▸hP) (hC▸hm) hC)
theorem AFc.of' {P : Program} {tt : Tt} (hP : TtOk P tt) (md : FuncId → List Bool) {f : FuncId} {fn : Func} {c2 : Code} {o : Oper} {lo : List Oper} {id d n : Nat} {e e3 : TypeId} {l l' : List T} {B B' : T} {km ku : IntKind} {m nu : Int} {F : T} {r1 : T} {tr : Nat}
  (hf : P.funcs[f]? = some fn) (hn : fn.ntmps = n) (hrs : fn.results.toList = [.tmp tr]) (hb : fn.body = some (.seq (.region id (o :: lo).toArray false) c2)) (hname : (fn.name == "runtime.NumGoroutine") = false) (hn1 : n ≤ 1000000) (hd3 : 3 ≤ d) (hdn : d < n)
  (ho:o.op=.box e3 (.tmp 0)) (hg0:o.guard=none) (hdst:o.dst=some d) (hok:(o::lo).all (opOk n)=true) (ht:tr<1000000) (hFn:F.noOwn=true) (hz1:P.cellsOf e=1) (hz3:P.cellsOf e3=2) (hlen:l'.length=l.length) (hscl:∀ y∈l,y.scalar=true) (hscl':∀ y∈l',y.scalar=true) (hsr:r1.scalar=true) (hsame:sameCells B B'=true) (hnf:B'.noF=true) (hm:P.follows .mixedOrders=true)
  (h:∀ C:Ctx,TtOk C.P tt→C.P.follows .mixedOrders=true→C.P=P→rgn (AFn P) (fun _=>True) (AWP C n c2 (endQC tr d r1 e3 km m e l' B B')) (gRds tt md (o::lo).toArray lo 1)
   [(1,⟨0,.val (.int ku nu)⟩),(2,⟨0,.val F⟩),(d,⟨0,.own (.box e3 (.agg [.int km m,.sl true e l]))⟩),(3000001,⟨0,.own B⟩)] []) :
  AFc P f [.sl true e l,B,.int km m,.int ku nu,F] (.tup [r1,.sl true e l',B']):=by
 subst hn
 exact AFc.of hP md hf hb hname hn1 hd3 hdn ho hg0 hdst hok hrs ht hFn hz1 hz3 hlen hscl hscl' hsr hsame hnf (fun C hC=>h C (hC▸hP) (hC▸hm) hC)
theorem AFx.ofBox' {P : Program} {tt : Tt} (hP : TtOk P tt) (md : FuncId → List Bool) {f : FuncId} {fn : Func} {c2 : Code} {o : Oper} {lo : List Oper} {id d n : Nat} {e e3 : TypeId} {l l' : List T} {km : IntKind} {m : Int} {rest : List T} {E : Env}
  (hf : P.funcs[f]? = some fn) (hn : fn.ntmps = n) (hrs : fn.results.toList = []) (hb : fn.body = some (.seq (.region id (o :: lo).toArray false) c2)) (hname : (fn.name == "runtime.NumGoroutine") = false) (hn1 : n ≤ 1000000) (hd3 : rest.length + 1 ≤ d) (hdn : d < n)
  (ho:o.op=.box e3 (.tmp 0)) (hg0:o.guard=none) (hdst:o.dst=some d) (hok:(o::lo).all (opOk n)=true) (hz3:P.cellsOf e3=2) (hlen:l'.length=l.length) (hnf:(T.sl true e l').noF=true) (he:argEnv 1 rest++[(d,⟨0,.own (.box e3 (.agg [.int km m,.sl true e l]))⟩)]=E) (hm:P.follows .mixedOrders=true)
  (h:∀ C:Ctx,TtOk C.P tt→C.P.follows .mixedOrders=true→C.P=P→rgn (AFn P) (fun _=>True) (AWP C n c2 (endQB d e3 km m e l')) (gRds tt md (o::lo).toArray lo 1) E []) :
  AFx P f (.int .i64 (0:Nat)::.agg [.int km m,.sl true e l]::rest) (.tup [.tup [],.agg [.int km m,.sl true e l']]):=by
 subst hn;subst he
 exact AFx.ofBox hP md hf hb hname hn1 hd3 hdn ho hg0 hdst hok hrs hz3 hlen hnf (fun C hC=>h C (hC▸hP) (hC▸hm) hC)
theorem Hc {RES:Env→Prop} {B B':T} {env:Env} (h:endK RES B B' env):endQK RES B B' .ret env:=h
theorem Sy {RES:Env→Prop} {B B':T} {env:Env} (h:endK RES B B' env):endQK RES B B' .normal env:=h
theorem En {tr d:Nat} {r1:T} {e3:TypeId} {km:IntKind} {m:Int} {e:TypeId} {l:List T} {B B':T} {env:Env} (h:endC tr d r1 e3 km m e l B B' env):endQC tr d r1 e3 km m e l B B' .ret env:=h
theorem Acx {d:Nat} {e3:TypeId} {km:IntKind} {m:Int} {e:TypeId} {l':List T} {env:Env} (h:endB d e3 km m e l' env):endQB d e3 km m e l' .normal env:=h
theorem AWP.frz {C:Ctx} {n:Nat} {c:Code} {Q:Exit→Env→Prop} {env:Env} {s k:Nat} {T0:T} (hs:lk env s=some ⟨k,.own T0⟩) (h:AWP C n c Q ((s,⟨k,.val T0.freeze⟩)::env)):AWP C n c Q env:=fun C1 hE a w hF=>by
 obtain ⟨C2,hE2,hF2⟩:=hF.freeze hs
 have h1:=h C2 (hE.trans hE2) a w hF2
 rw [hE2.P] at h1
 exact wp_mono h1 (fun e a' w' ⟨C3,env',q1,q2,q3⟩=>⟨C3,env',hE2.trans q1,q2,q3⟩)
theorem retG1 {tt:Tt} {x:ResultVar} {r:T} {e:TypeId} {ts':List T} {env:Env} {a:Nat×List Nat×T} (h:resSrc tt env x=some a) (h0:a.1≠3000001) (hl:lk env 3000001=some ⟨0,.own (.box e (.agg ts'))⟩) (hr:r=a.2.2):endQG tt [x] r e ts' .ret env:=
 ⟨[a],by simp [h],Pb (by simp),by simpa using fun e=>h0 e.symm,hr,hl⟩
def qS:=And.intro @U3<|And.intro @Af7<|And.intro @Abl<|And.intro @Tk<|And.intro @Aa4<|And.intro @Xn<|And.intro @Xh<|And.intro @Nat.one_ne_zero @Nat.zero_ne_one
theorem cT {C:Ctx} {n:Nat} {Q:Exit→Env→Prop} {env:Env} {c:Nat} {x y:Code} {k:Nat} (hl:lk env c=some ⟨k,.val (.bool true)⟩) (h:AWP C n x Q env) (hc:c<1000000:=by decide):AWP C n (.cond (.tmp c) x y) Q env:=AWP.condT hc hl h
theorem cTa {C:Ctx} {n:Nat} {Q:Exit→Env→Prop} {env:Env} {c:Nat} {x y:Code} {k:Nat} (h:AWP C n x Q env) (hl:lk env c=some ⟨k,.val (.bool true)⟩:=by simp only [go_sem,Nat.reduceEqDiff,↓reduceIte];with_reducible rfl) (hc:c<1000000:=by decide):AWP C n (.cond (.tmp c) x y) Q env:=AWP.condT hc hl h
theorem cFa {C:Ctx} {n:Nat} {Q:Exit→Env→Prop} {env:Env} {c:Nat} {x y:Code} {k:Nat} (h:AWP C n y Q env) (hl:lk env c=some ⟨k,.val (.bool false)⟩:=by simp only [go_sem,Nat.reduceEqDiff,↓reduceIte];with_reducible rfl) (hc:c<1000000:=by decide):AWP C n (.cond (.tmp c) x y) Q env:=AWP.condF hc hl h
theorem tX {C : Ctx} {P : Program} (hC : C.P = P) {n : Nat} {Q : Exit → Env → Prop} {env : Env} {tt : Tt} (hP : TtOk C.P tt) {l : List Oper} {id : Nat} (hok : l.all (opOk n) = true)
  (h:rgn (AFn P) (fun _=>True) (Q .normal) (gRds tt md l.toArray l 0) env []) (hn1:n≤1000000:=by decide):AWP C n (.region id l.toArray false) Q env:=AWP.text' hC hP md hn1 hok h
theorem aX {C : Ctx} {P : Program} (hC : C.P = P) {n : Nat} {Q : Exit → Env → Prop} {env : Env} {tt : Tt} (hm : C.P.follows .mixedOrders = true) (hP : TtOk C.P tt) {l : List Oper} {id : Nat} (hok : l.all (opOk n) = true)
  (h:rgn (AFn P) (fun tr=>okB l.toArray tr=true) (Q .normal) (gRds tt md l.toArray l 0) env []) (hn1:n≤1000000:=by decide):AWP C n (.region id l.toArray true) Q env:=AWP.any' hC hm hP md hn1 hok h
attribute [go_sem] true_or or_true false_or or_false List.isEmpty_cons List.isEmpty_nil not_true_eq_false
attribute [go_sem] decide_true decide_false
theorem rC {AF : FuncId → List T → T → Prop} {chk : List (List Nat × List Nat) → Prop} {Q : Env → Prop} {tt : Tt} {md : FuncId → List Bool} {ops : Array Oper} {o : Oper} {l : List Oper} {i j : Nat} {env : Env} {acc : List (List Nat × List Nat)}
  (hj:i+1=j) (h:∀ K:List (Nat×Slot)→List Nat→Prop,(∀ U R env',rgn AF chk Q (gRds tt md ops l j) env' ((U.map (·.1),R)::acc)→(he:U++env=env':=by simp only [go_sem,Nat.reduceEqDiff,↓reduceIte];rfl)→K U R)→(gRd tt md ops i o).run AF env K) :
  rgn AF chk Q (gRds tt md ops (o::l) i) env acc:=Aib hj fun K hK=>h K fun U R e g he=>hK U R e he g
theorem rN {AF : FuncId → List T → T → Prop} {chk : List (List Nat × List Nat) → Prop} {Q : Env → Prop} {tt : Tt} {md : FuncId → List Bool} {ops : Array Oper} {i : Nat} {env : Env} {acc : List (List Nat × List Nat)}
  (h2:Q env) (h:chk acc.reverse:=by first|trivial|kernel_rfl):rgn AF chk Q (gRds tt md ops [] i) env acc:=⟨h,h2⟩
theorem sQ {C:Ctx} {n:Nat} {Q:Exit→Env→Prop} {env:Env} {x y:Code} (h:AWP C n x (thenQ (AWP C n y Q) Q) env):AWP C n (.seq x y) Q env:=AWP.seq h
theorem kQ {C:Ctx} {n:Nat} {Q:Exit→Env→Prop} {env:Env} (h:Q .normal env):AWP C n .skip Q env:=AWP.skip h
theorem lQ {C:Ctx} {n:Nat} {Q:Exit→Env→Prop} {env:Env} {l:Nat} (h:Q .normal env):AWP C n (.label l) Q env:=AWP.label h
theorem eQ {C:Ctx} {n:Nat} {Q:Exit→Env→Prop} {env:Env} {id:Nat} (h:Q (.exit id) env):AWP C n (.exit id) Q env:=AWP.exit h
theorem bQ {C:Ctx} {n:Nat} {Q:Exit→Env→Prop} {env:Env} {id:Nat} {c:Code} (h:AWP C n c (blockQ id Q) env):AWP C n (.block id c) Q env:=AWP.block h
theorem tY {C : Ctx} {P : Program} (hC : C.P = P) {n : Nat} {Q : Exit → Env → Prop} {env : Env} {tt : Tt} (hP : TtOk C.P tt) {l : List Oper} {id : Nat}
  (h:rgn (AFn P) (fun _=>True) (Q .normal) (gRds tt md l.toArray l 0) env []) (hok:l.all (opOk n)=true:=by kernel_rfl) (hn1:n≤1000000:=by decide):AWP C n (.region id l.toArray false) Q env:=tX hC hP hok h hn1
theorem aY {C : Ctx} {P : Program} (hC : C.P = P) {n : Nat} {Q : Exit → Env → Prop} {env : Env} {tt : Tt} (hm : C.P.follows .mixedOrders = true) (hP : TtOk C.P tt) {l : List Oper} {id : Nat}
  (h:rgn (AFn P) (fun tr=>okB l.toArray tr=true) (Q .normal) (gRds tt md l.toArray l 0) env []) (hok:l.all (opOk n)=true:=by kernel_rfl) (hn1:n≤1000000:=by decide):AWP C n (.region id l.toArray true) Q env:=aX hC hm hP hok h hn1
theorem sT {G A:Prop} (h:A) (f:A→G:=by first|(with_reducible first|exact fun h=>rN h|exact fun h=>sQ h|exact fun h=>tY ‹_› ‹_› h|exact fun h=>aY ‹_› ‹_› ‹_› h|exact fun h=>kQ h|exact fun h=>lQ h|exact fun h=>eQ h|exact fun h=>bQ h|exact fun h=>cTa h|exact fun h=>cFa h)|(intro h;simp only [qS,Nat.reduceEqDiff,↓reduceIte];exact h)):G:=f h
theorem rt1 {C:Ctx} {n:Nat} {Q:Exit→Env→Prop} {tt:Tt} {x:ResultVar} {r:T} {env:Env} {a:Nat×List Nat×T} (h:r=a.2.2) (hq:Q .ret env=retOk tt [x] r env:=by rfl) (h1:resSrc tt env x=some a:=by simp only [go_sem,seval,↓reduceIte];rfl):AWP C n .ret Q env:=AWP.ret (hq.mpr (retOk1 h1 h))
theorem rt2 {C:Ctx} {n:Nat} {Q:Exit→Env→Prop} {tt:Tt} {x y:ResultVar} {r:T} {env:Env} {a b:Nat×List Nat×T} (h:r=.tup [a.2.2,b.2.2]) (hq:Q .ret env=retOk tt [x,y] r env:=by rfl) (h1:resSrc tt env x=some a:=by simp only [go_sem,seval,↓reduceIte];rfl) (h2:resSrc tt env y=some b:=by simp only [go_sem,seval,↓reduceIte];rfl) (hn:a.1≠b.1:=by simp):AWP C n .ret Q env:=AWP.ret (hq.mpr (retOk2 h1 h2 hn h))
theorem rg1 {C:Ctx} {n:Nat} {Q:Exit→Env→Prop} {tt:Tt} {x:ResultVar} {r:T} {e:TypeId} {ts':List T} {env:Env} {a:Nat×List Nat×T} (hr:r=a.2.2) (hq:Q .ret env=endQG tt [x] r e ts' .ret env:=by rfl) (h:resSrc tt env x=some a:=by simp only [go_sem,seval,↓reduceIte];rfl) (h0:a.1≠3000001:=by simp) (hl:lk env 3000001=some ⟨0,.own (.box e (.agg ts'))⟩:=by rfl):AWP C n .ret Q env:=AWP.ret (hq.mpr (retG1 h h0 hl hr))
theorem fO {f : FuncId} {fn : Func} {c : Code} {args : List T} {r : T} {n : Nat} {rs : List ResultVar} {e : Env} (hf : Tryz.prog.funcs[f]? = some fn) (hn : fn.ntmps = n) (hrs : fn.results.toList = rs) (h : ∀ C : Ctx, TtOk C.P tt → C.P.follows .mixedOrders = true → C.P = Tryz.prog → AWP C n c (endQ tt rs r) e)
  (hlt : f < 1000000 := by decide) (hb : fn.body = some c := by rfl) (hname : (fn.name == "runtime.NumGoroutine") = false := by rfl) (hargs : args.length ≤ n := by simp) (h3 : rs.length = 1 ∨ rs.length = 2 ∨ rs.length = 3 ∨ rs.length = 4 ∨ rs.length = 5 := by decide) (he : argEnv 0 args = e := by simp only [go_sem, Nat.reduceAdd, ↓reduceIte]; rfl) : AFn Tryz.prog f args r := AFn.of' ttOk hlt hf hn hrs hb hname hargs h3 he mixed h
end Go.Proofs.YtapdekacpecgiaaGreat
