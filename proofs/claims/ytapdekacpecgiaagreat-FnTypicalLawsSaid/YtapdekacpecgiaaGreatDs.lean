import Derived.Test.YtapdekacpecgiaaGreatTr
import Derived.Test.YtapdekacpecgiaaGreatLa
import Derived.Test.YtapdekacpecgiaaGreatPa
import Derived.Test.YtapdekacpecgiaaGreatPa
namespace Go.Proofs.YtapdekacpecgiaaGreat
open Go.RowKit
set_option linter.unusedSimpArgs false
set_option linter.unusedVariables false
set_option linter.unusedSectionVars false
set_option maxRecDepth 20000
set_option maxHeartbeats 1000000
theorem AWP.ghost {C:Ctx} {n:Nat} {Q:Exit→Env→Prop} {env:Env} {c:Code} {t k:Nat} {y:T} (hl:lk env t=some ⟨k,.val y⟩) (h0:lk env 3000000=none) (h:AWP C n c Q ((3000000,⟨0,.val y⟩)::env)):AWP C n c Q env:=fun C1 hE a w hF=>by
 obtain ⟨hd,hn,κ,V,hI,hV⟩:=hF
 obtain ⟨h1,cs,h2,h3⟩:=hI.val _ _ _ hl
 exact h C1 hE a w ⟨hd,hn,κ,_,hI.bind 3000000 0 y (V t) (by rw [h0];exact Nat.le_refl _) h1 t ⟨cs,h2,h3⟩,fun t ht=>by rw [Al _ _ _ _ (by omega)];exact hV t ht⟩
def Byt (l:List Int):Prop:=l.length≤1099511627776∧∀ x∈l,0≤x∧x≤255
def Sok (l:List Int) (s:Int×Int):Prop:=0≤s.1∧s.1≤(l.length:Int)
theorem beqF {x y:Int} (h:¬ x=y):(x==y)=false:=by simpa using h
def hashN (h:Int):Int:=IntKind.u64.wrap (IntKind.u64.wrap (h*6364136223846793005)+1442695040888963407)
def drawX (h:Int):Int:=IntKind.i64.wrap (andI .u64 (shrI .u64 h 33) 16777215)
def nextS (l:List Int) (s:Int×Int) (n:Int):Int×Int:=if n<1 then s else if s.1<(l.length:Int) then (s.1+1,hashN s.2) else (s.1,hashN s.2)
def nextX (l:List Int) (s:Int×Int) (n:Int):Int:=if n<1 then 0 else (if s.1<(l.length:Int) then drawX (hashN s.2)+l.getD s.1.toNat 0 else drawX (hashN s.2)).tmod n
theorem srcScalar {a:Option Addr} {n c:Nat} {i j:Int}:∀ t∈[T.str (.raw a n c),.int .i64 i,.int .u64 j],t.scalar=true:=by
 intro t ht
 simp only [List.mem_cons,List.not_mem_nil,or_false] at ht
 rcases ht with rfl|rfl|rfl <;> rfl
theorem gO {f : FuncId} {fn : Func} {c : Code} {e : TypeId} {x1 y1 x3 y3 : T} {rest : List T} {g r1 : T} {n : Nat} {rs : List ResultVar} {E : Env} {x2 y2 : T} (hf : Tryz.prog.funcs[f]? = some fn) (hn : fn.ntmps = n) (hrs : fn.results.toList = rs)
  (h : ∀ C : Ctx, TtOk C.P tt → C.P.follows .mixedOrders = true → C.P = Tryz.prog → AWP C n c (endQG tt rs r1 e [y1, y2, y3]) E) (hlt : f < 1000000 := by decide) (hb : fn.body = some c := by rfl) (hname : (fn.name == "runtime.NumGoroutine") = false := by rfl) (hargs : rest.length + 1 ≤ n := by simp) (hn2 : n ≤ 1000000 := by decide) (h3 : rs.length = 1 ∨ rs.length = 2 ∨ rs.length = 3 ∨ rs.length = 4 ∨ rs.length = 5 := by decide) (hsc : ∀ t ∈ [x1, x2, x3], t.scalar = true := by exact srcScalar) (hsc' : ∀ t ∈ [y1, y2, y3], t.scalar = true := by exact srcScalar)
  (he:(0,⟨0,.val (.addr 3000001 0 [] 0 [0])⟩)::(3000000,⟨0,.val g⟩)::(3000001,⟨0,.own (.box e (.agg [x1,x2,x3]))⟩)::argEnv 0 (.any::rest)=E:=by simp only [go_sem,Nat.reduceAdd,↓reduceIte];rfl):AFn Tryz.prog (5000000+f) (g::.box e (.agg [x1,x2,x3])::rest) (.tup [r1,.box e (.agg [y1,y2,y3])]):=
 AFg.of' ttOk hf hn hrs hb hname hargs hn2 h3 hsc hsc' rfl he mixed h hlt
theorem Oc (h:Int):0≤drawX h∧drawX h≤16777215:=by
 have key:∀ b:BitVec 64,0≤((b &&& BitVec.ofInt 64 16777215).toNat:Int)∧((b &&& BitVec.ofInt 64 16777215).toNat:Int)≤16777215:=by
  intro b
  refine ⟨by omega,?_⟩
  rw [BitVec.toNat_and]
  have:(BitVec.ofInt 64 16777215).toNat=16777215:=by decide
  rw [this]
  have:=Nat.and_le_right (n:=b.toNat) (m:=16777215)
  omega
 have h1:=key (BitVec.ofInt 64 (shrI .u64 h 33))
 unfold drawX andI
 have e:IntKind.u64.wrap ((BitVec.ofInt IntKind.u64.bits (shrI .u64 h 33) &&& BitVec.ofInt IntKind.u64.bits 16777215).toNat:Int)=((BitVec.ofInt 64 (shrI .u64 h 33) &&& BitVec.ofInt 64 16777215).toNat:Int):=by
  show IntKind.u64.wrap ((BitVec.ofInt 64 (shrI .u64 h 33) &&& BitVec.ofInt 64 16777215).toNat:Int)=_
  rw [IntKind.wrap_u64]
  omega
 rw [e,wid _ (by omega) (by omega)]
 exact h1
theorem Afd {l:List Int} (hB:Byt l) (i:Nat):0≤l.getD i 0∧l.getD i 0≤255:=by
 rw [List.getD_eq_getElem?_getD]
 cases h:l[i]? with
 | none=>simp
 | some x=>simpa using hB.2 x (List.mem_of_getElem? h)
theorem Ck {l:List Int} (hB:Byt l) (s:Int×Int) (n:Int):0≤nextX l s n∧(1≤n→nextX l s n<n)∧(n<1→nextX l s n=0):=by
 unfold nextX
 have h1:=Oc (hashN s.2)
 have h2:=Afd hB s.1.toNat
 split
 ·exact ⟨by omega,fun h=>by omega,fun _=>rfl⟩
 ·refine ⟨?_,fun _=>?_,fun h=>by omega⟩
  ·rw [tm _ _ (by split <;> omega)];exact (Ag _ n (by omega)).1
  ·rw [tm _ _ (by split <;> omega)];exact (Ag _ n (by omega)).2
theorem Aj {l:List Int} {s:Int×Int} (hS:Sok l s) (n:Int):Sok l (nextS l s n):=by
 obtain ⟨h1,h2⟩:=hS
 unfold nextS
 split
 ·exact ⟨h1,h2⟩
 ·split
  ·exact ⟨by simp only;omega,by simp only;omega⟩
  ·exact ⟨h1,h2⟩
set_option maxHeartbeats 1000000 in
theorem An (a:Option Addr) (c:Nat) (l:List Int) (hB:Byt l) (s:Int×Int) (hS:Sok l s) (n:Int):AFn Tryz.prog (5000000+86) [.str (.src a c l),.box 155 (.agg [.str (.raw a l.length c),.int .i64 s.1,.int .u64 s.2]),.int .i64 n] (.tup [.int .i64 (nextX l s n),.box 155 (.agg [.str (.raw a l.length c),.int .i64 (nextS l s n).1,.int .u64 (nextS l s n).2])]):=by
 refine gO Tryz.func86 Tryz.ntmps86 (by rw [Tryz.results86]) fun C hP hM hC=>?_
 by_cases h:n<1
 ·rw [show nextS l s n=s from if_pos h,show nextX l s n=0 from if_pos h]
  (repeat (first|((with_reducible refine rC rfl fun K hK=>?_);simp only [go_sem,seval,↓reduceIte,h];refine hK _ _ _ ?_;clear hK K)|refine sT ?_))
  refine rg1 ?_
  rfl
 ·have e1:IntKind.u64.wrap (IntKind.u64.wrap (s.2*6364136223846793005)+1442695040888963407)=hashN s.2:=rfl
  have e2:IntKind.i64.wrap (IntKind.u64.wrap ((BitVec.ofInt 64 (shrI .u64 (hashN s.2) 33) &&& 16777215#64).toNat:Int))=drawX (hashN s.2):=rfl
  have h2:=Oc (hashN s.2)
  have h3:=Afd hB s.1.toNat
  have hb:=hB.1
  obtain ⟨hs1,hs2⟩:=hS
  by_cases h1:s.1<(l.length:Int)
  ·rw [show nextS l s n=(s.1+1,hashN s.2) by rw [nextS,if_neg h,if_pos h1],show nextX l s n=(drawX (hashN s.2)+l.getD s.1.toNat 0).tmod n by rw [nextX,if_neg h,if_pos h1]]
   (repeat (first|((with_reducible refine rC rfl fun K hK=>?_);simp only [go_sem,seval,↓reduceIte,h,h1,hs1,show n≠0 by omega,e1,e2,wid (l.getD s.1.toNat 0) (by omega) (by omega),wid (s.1+1) (by omega) (by omega)];refine hK _ _ _ ?_;clear hK K)|refine sT ?_))
   refine rg1 ?_
   show _=T.int .i64 ((IntKind.i64.wrap (drawX (hashN s.2)+l.getD s.1.toNat 0)).tmod n)
   rw [wid _ (by omega) (by omega)]
  ·rw [show nextS l s n=(s.1,hashN s.2) by rw [nextS,if_neg h,if_neg h1],show nextX l s n=(drawX (hashN s.2)).tmod n by rw [nextX,if_neg h,if_neg h1]]
   (repeat (first|((with_reducible refine rC rfl fun K hK=>?_);simp only [go_sem,seval,↓reduceIte,h,h1,show n≠0 by omega,e1,e2];refine hK _ _ _ ?_;clear hK K)|refine sT ?_))
   refine rg1 ?_
   rfl
def pickX (l:List Int) (s:Int×Int) (list:List Int):Int:=list.getD (nextX l s list.length).toNat 0
theorem Cb (a:Option Addr) (c:Nat) (l:List Int) (hB:Byt l) (s:Int×Int) (hS:Sok l s) (list:List Int) (h0:0<list.length) (hl:list.length≤1000):AFn Tryz.prog (5000000+150) [.str (.src a c l),.box 155 (.agg [.str (.raw a l.length c),.int .i64 s.1,.int .u64 s.2]),.sl false 2 (intL list)] (.tup [.int .i64 (pickX l s list),.box 155 (.agg [.str (.raw a l.length c),.int .i64 (nextS l s list.length).1,.int .u64 (nextS l s list.length).2])]):=by
 refine gO Tryz.func150 Tryz.ntmps150 (by rw [Tryz.results150]) fun C hP hM hC=>?_
 have h1:=Ck hB s list.length
 have h2:=h1.2.1 (by omega)
 have h3:(nextX l s (list.length:Int)).toNat<list.length:=by omega
 (repeat (first|((with_reducible refine rC rfl fun K hK=>?_);simp only [go_sem,seval,↓reduceIte,h1.1,h2,Ac list (nextX l s (list.length:Int)).toNat h3];(first|refine hK _ _ _ ?_|refine ⟨_,An a c l hB s hS list.length,hK _ _ _ ?_⟩);clear hK K)|refine sT ?_))
 refine rg1 ?_
 simp [pickX]
theorem J3 (a:Option Addr) (c:Nat) (l:List Int) (hB:Byt l) (s:Int×Int) (hS:Sok l s) (m:Int) (h:nextX l s 24=0):AFn Tryz.prog (5000000+125) [.str (.src a c l),.box 155 (.agg [.str (.raw a l.length c),.int .i64 s.1,.int .u64 s.2]),.int .i64 m] (.tup [.int .i64 (pickX l (nextS l s 24) [-1,m,1099511627776,-4611686018427387904]),.box 155 (.agg [.str (.raw a l.length c),.int .i64 (nextS l (nextS l s 24) 4).1,.int .u64 (nextS l (nextS l s 24) 4).2])]):=by
 refine gO Tryz.func125 Tryz.ntmps125 (by rw [Tryz.results125]) fun C hP hM hC=>?_
 (repeat (first|((with_reducible refine rC rfl fun K hK=>?_);simp only [go_sem,seval,↓reduceIte,h];(first|refine hK _ _ _ ?_|refine ⟨_,An a c l hB s hS 24,hK _ _ _ ?_⟩|refine ⟨_,Cb a c l hB (nextS l s 24) (Aj hS 24) [-1,m,1099511627776,-4611686018427387904] (by simp) (by simp),hK _ _ _ ?_⟩);clear hK K)|refine sT ?_))
 refine rg1 ?_
 rfl
theorem Oz (a:Option Addr) (c:Nat) (l:List Int) (hB:Byt l) (s:Int×Int) (hS:Sok l s) (m:Int) (h:¬ nextX l s 24=0):AFn Tryz.prog (5000000+125) [.str (.src a c l),.box 155 (.agg [.str (.raw a l.length c),.int .i64 s.1,.int .u64 s.2]),.int .i64 m] (.tup [.int .i64 (nextX l (nextS l s 24) m),.box 155 (.agg [.str (.raw a l.length c),.int .i64 (nextS l (nextS l s 24) m).1,.int .u64 (nextS l (nextS l s 24) m).2])]):=by
 refine gO Tryz.func125 Tryz.ntmps125 (by rw [Tryz.results125]) fun C hP hM hC=>?_
 (repeat (first|((with_reducible refine rC rfl fun K hK=>?_);simp only [go_sem,seval,↓reduceIte,beqF h];(first|refine hK _ _ _ ?_|refine ⟨_,An a c l hB s hS 24,hK _ _ _ ?_⟩|refine ⟨_,An a c l hB (nextS l s 24) (Aj hS 24) m,hK _ _ _ ?_⟩);clear hK K)|refine sT ?_))
 refine rg1 ?_
 rfl
def drawM (l:List Int) (s:Int×Int):Int:=pickX l (nextS l (nextS l s 100) 9999) [2,3,4,5,6,7,8,9,10,12,16,25,27,30,49,101,210,2+nextX l s 100,2+nextX l (nextS l s 100) 9999,10000]
def drawMS (l:List Int) (s:Int×Int):Int×Int:=nextS l (nextS l (nextS l s 100) 9999) 20
theorem Jq (a:Option Addr) (c:Nat) (l:List Int) (hB:Byt l) (s:Int×Int) (hS:Sok l s)  : AFn Tryz.prog (5000000+189) [.str (.src a c l),.box 155 (.agg [.str (.raw a l.length c),.int .i64 s.1,.int .u64 s.2])] (.tup [.int .i64 (drawM l s),.box 155 (.agg [.str (.raw a l.length c),.int .i64 (drawMS l s).1,.int .u64 (drawMS l s).2])]):=by
 refine gO Tryz.func189 Tryz.ntmps189 (by rw [Tryz.results189]) fun C hP hM hC=>?_
 have h1:=Ck hB s 100
 have h2:=Ck hB (nextS l s 100) 9999
 have h3:=h1.2.1 (by decide)
 have h4:=h2.2.1 (by decide)
 (repeat (first|((with_reducible refine rC rfl fun K hK=>?_);simp only [go_sem,seval,↓reduceIte,wid (2+nextX l s 100) (by omega) (by omega),wid (2+nextX l (nextS l s 100) 9999) (by omega) (by omega)];(first|refine hK _ _ _ ?_|refine ⟨_,An a c l hB s hS 100,hK _ _ _ ?_⟩|refine ⟨_,An a c l hB (nextS l s 100) (Aj hS 100) 9999,hK _ _ _ ?_⟩|refine ⟨_,Cb a c l hB (nextS l (nextS l s 100) 9999) (Aj (Aj hS 100) 9999) [2,3,4,5,6,7,8,9,10,12,16,25,27,30,49,101,210,2+nextX l s 100,2+nextX l (nextS l s 100) 9999,10000] (by simp) (by simp),hK _ _ _ ?_⟩);clear hK K)|refine sT ?_))
 refine rg1 ?_
 rfl
theorem Lo (a:Option Addr) (c:Nat) (l:List Int) (hB:Byt l) (s:Int×Int) (hS:Sok l s) (h:nextX l s 20=0):AFn Tryz.prog (5000000+195) [.str (.src a c l),.box 155 (.agg [.str (.raw a l.length c),.int .i64 s.1,.int .u64 s.2])] (.tup [.int .i64 (pickX l (nextS l s 20) [0,1,-5,10001,1099511627776]),.box 155 (.agg [.str (.raw a l.length c),.int .i64 (nextS l (nextS l s 20) 5).1,.int .u64 (nextS l (nextS l s 20) 5).2])]):=by
 refine gO Tryz.func195 Tryz.ntmps195 (by rw [Tryz.results195]) fun C hP hM hC=>?_
 (repeat (first|((with_reducible refine rC rfl fun K hK=>?_);simp only [go_sem,seval,↓reduceIte,h];(first|refine hK _ _ _ ?_|refine ⟨_,An a c l hB s hS 20,hK _ _ _ ?_⟩|refine ⟨_,Cb a c l hB (nextS l s 20) (Aj hS 20) [0,1,-5,10001,1099511627776] (by simp) (by simp),hK _ _ _ ?_⟩);clear hK K)|refine sT ?_))
 refine rg1 ?_
 rfl
theorem O0 (a:Option Addr) (c:Nat) (l:List Int) (hB:Byt l) (s:Int×Int) (hS:Sok l s) (h:¬ nextX l s 20=0):AFn Tryz.prog (5000000+195) [.str (.src a c l),.box 155 (.agg [.str (.raw a l.length c),.int .i64 s.1,.int .u64 s.2])] (.tup [.int .i64 (drawM l (nextS l s 20)),.box 155 (.agg [.str (.raw a l.length c),.int .i64 (drawMS l (nextS l s 20)).1,.int .u64 (drawMS l (nextS l s 20)).2])]):=by
 refine gO Tryz.func195 Tryz.ntmps195 (by rw [Tryz.results195]) fun C hP hM hC=>?_
 (repeat (first|((with_reducible refine rC rfl fun K hK=>?_);simp only [go_sem,seval,↓reduceIte,beqF h];(first|refine hK _ _ _ ?_|refine ⟨_,An a c l hB s hS 20,hK _ _ _ ?_⟩|refine ⟨_,Jq a c l hB (nextS l s 20) (Aj hS 20),hK _ _ _ ?_⟩);clear hK K)|refine sT ?_))
 refine rg1 ?_
 rfl
theorem Lf (a:Option Addr) (c:Nat) (l:List Int) (hB:Byt l) (s:Int×Int) (hS:Sok l s) (m:Int) (h0 : -1000000000000≤m∧m≤1000000000000) (h:nextX l s 14=0):AFn Tryz.prog (5000000+97) [.str (.src a c l),.box 155 (.agg [.str (.raw a l.length c),.int .i64 s.1,.int .u64 s.2]),.int .i64 m] (.tup [.int .i64 (pickX l (nextS l s 14) [-1,m+1,1099511627776,-4611686018427387904]),.box 155 (.agg [.str (.raw a l.length c),.int .i64 (nextS l (nextS l s 14) 4).1,.int .u64 (nextS l (nextS l s 14) 4).2])]):=by
 refine gO Tryz.func97 Tryz.ntmps97 (by rw [Tryz.results97]) fun C hP hM hC=>?_
 (repeat (first|((with_reducible refine rC rfl fun K hK=>?_);simp only [go_sem,seval,↓reduceIte,h,wid (m+1) (by omega) (by omega)];(first|refine hK _ _ _ ?_|refine ⟨_,An a c l hB s hS 14,hK _ _ _ ?_⟩|refine ⟨_,Cb a c l hB (nextS l s 14) (Aj hS 14) [-1,m+1,1099511627776,-4611686018427387904] (by simp) (by simp),hK _ _ _ ?_⟩);clear hK K)|refine sT ?_))
 refine rg1 ?_
 rfl
theorem Pk (a:Option Addr) (c:Nat) (l:List Int) (hB:Byt l) (s:Int×Int) (hS:Sok l s) (m:Int) (h0 : -1000000000000≤m∧m≤1000000000000) (h:¬ nextX l s 14=0):AFn Tryz.prog (5000000+97) [.str (.src a c l),.box 155 (.agg [.str (.raw a l.length c),.int .i64 s.1,.int .u64 s.2]),.int .i64 m] (.tup [.int .i64 (nextX l (nextS l s 14) (m+1)),.box 155 (.agg [.str (.raw a l.length c),.int .i64 (nextS l (nextS l s 14) (m+1)).1,.int .u64 (nextS l (nextS l s 14) (m+1)).2])]):=by
 refine gO Tryz.func97 Tryz.ntmps97 (by rw [Tryz.results97]) fun C hP hM hC=>?_
 (repeat (first|((with_reducible refine rC rfl fun K hK=>?_);simp only [go_sem,seval,↓reduceIte,beqF h,wid (m+1) (by omega) (by omega)];(first|refine hK _ _ _ ?_|refine ⟨_,An a c l hB s hS 14,hK _ _ _ ?_⟩|refine ⟨_,An a c l hB (nextS l s 14) (Aj hS 14) (m+1),hK _ _ _ ?_⟩);clear hK K)|refine sT ?_))
 refine rg1 ?_
 rfl
def mx1 (m:Int):Int:=if 1>m then 1 else m
def lsS (l:List Int) (m:Int) (s:Int×Int):Nat→Int×Int
 | 0=>s
 | i+1=>nextS l (nextS l (nextS l (lsS l m s i) m) m) 4
def lsX (l:List Int) (m:Int) (s:Int×Int):Int:=pickX l (nextS l (nextS l s m) m) [0,(1:Int).tmod (mx1 m),nextX l s m,nextX l (nextS l s m) m]
def lsL (l:List Int) (m:Int) (s:Int×Int):Nat→List Int
 | 0=>[]
 | i+1=>lsL l m s i++[lsX l m (lsS l m s i)]
theorem Cs (l:List Int) (m:Int) (s:Int×Int) (n:Nat):(lsL l m s n).length=n:=by
 induction n with
 | zero=>rfl
 | succ n ih=>rw [lsL,List.length_append,ih];rfl
theorem Eg {l:List Int} {m:Int} {s:Int×Int} (hS:Sok l s):∀ n,Sok l (lsS l m s n)
 | 0=>hS
 | n+1=>Aj (Aj (Aj (Eg hS n) m) m) 4
set_option maxHeartbeats 1000000 in
theorem Cp (a:Option Addr) (c:Nat) (l:List Int) (hB:Byt l) (s:Int×Int) (hS:Sok l s) (m n:Int) (hn:n≤1000000):AFn Tryz.prog (5000000+88) [.str (.src a c l),.box 155 (.agg [.str (.raw a l.length c),.int .i64 s.1,.int .u64 s.2]),.int .i64 m,.int .i64 n] (.tup [.sl true 2 (intL (lsL l m s n.toNat)),.box 155 (.agg [.str (.raw a l.length c),.int .i64 (lsS l m s n.toNat).1,.int .u64 (lsS l m s n.toNat).2])]):=by
 refine gO Tryz.func88 Tryz.ntmps88 (by rw [Tryz.results88]) fun C hP hM hC=>?_
 (repeat (first|((with_reducible refine rC rfl fun K hK=>?_);simp only [go_sem,seval,↓reduceIte];refine hK _ _ _ ?_;clear hK K)|refine sT ?_))
 refine AWP.loop (fun w:Nat×Nat=>[(2,⟨0,.val (.int .i64 (n-w.1))⟩),(7,⟨w.2,.own (.sl true 2 (intL (lsL l m s w.1)))⟩),(1,⟨0,.val (.int .i64 m)⟩),(3000000,⟨0,.val (.str (.src a c l))⟩),(0,⟨0,.val (.addr 3000001 0 [] 0 [0])⟩),(3000001,⟨0,.own (.box 155 (.agg [.str (.raw a l.length c),.int .i64 (lsS l m s w.1).1,.int .u64 (lsS l m s w.1).2]))⟩)]) (fun w=>w.1≤n.toNat) (fun w=>n.toNat-w.1) (0,1) (Nat.zero_le _) (fun i=>rfl) ?_ (fun w hw=>?_)
 ·simp [Sub,lk,lsL,lsS,intL]
 ·obtain ⟨i,v⟩:=w
  simp only at hw ⊢
  by_cases hi:0<n-(i:Int)
  ·have hx:mx1 m≠0:=by unfold mx1;split <;> omega
   have h1:=Eg (m:=m) hS i
   have h2:=Aj h1 m
   have h3:=Aj h2 m
   have hll:=Cs l m s i
   have hmx:(if (1:Int)>m then 1 else m)=mx1 m:=rfl
   (repeat (first|((with_reducible refine rC rfl fun K hK=>?_);simp only [go_sem,seval,↓reduceIte,hi,hmx,hx,Bt,hll,show i+1≤1099511627776 by omega,show (i+1)*8≤140737488355328 by omega,wid (n-(i:Int)-1) (by omega) (by omega)];(first|refine hK _ _ _ ?_|refine ⟨_,An a c l hB (lsS l m s i) h1 m,hK _ _ _ ?_⟩|refine ⟨_,An a c l hB (nextS l (lsS l m s i) m) h2 m,hK _ _ _ ?_⟩|refine ⟨_,Cb a c l hB (nextS l (nextS l (lsS l m s i) m) m) h3 [0,(1:Int).tmod (mx1 m),nextX l (lsS l m s i) m,nextX l (nextS l (lsS l m s i) m) m] (by simp) (by simp),hK _ _ _ ?_⟩);clear hK K)|refine sT ?_))
   exact ⟨(i+1,v+1),by simp only;omega,by simp only;omega,by simp [Sub,lk,lsL,lsS,lsX];omega⟩
  ·rw [show n.toNat=i by omega]
   (repeat (first|((with_reducible refine rC rfl fun K hK=>?_);simp only [go_sem,seval,↓reduceIte,hi];refine hK _ _ _ ?_;clear hK K)|refine sT ?_))
   refine rg1 ?_
   rfl
def frS (l:List Int):Nat→Int
 | 0=>IntKind.u64.wrap (5113+IntKind.u64.wrap (l.length:Int))
 | i+1=>IntKind.u64.wrap (IntKind.u64.wrap (IntKind.u64.wrap (frS l i*1099511628211)+IntKind.u64.wrap (l.getD i 0))+11)
def from0 (l:List Int):Int×Int:=(0,frS l (min l.length 4096))
theorem Ag1 (l:List Int):Sok l (from0 l):=⟨Int.le_refl 0,Int.natCast_nonneg _⟩
set_option maxHeartbeats 1000000 in
theorem Gl (a:Option Addr) (c:Nat) (l:List Int) (hB:Byt l):AFn Tryz.prog 83 [.str (.src a c l)] (.box 155 (.agg [.str (.raw a l.length c),.int .i64 (from0 l).1,.int .u64 (from0 l).2])):=by
 refine fO Tryz.func83 Tryz.ntmps83 (by rw [Tryz.results83]) fun C hP hM hC=>?_
 have hb:=hB.1
 (repeat (first|((with_reducible refine rC rfl fun K hK=>?_);simp only [go_sem,seval,↓reduceIte];refine hK _ _ _ ?_;clear hK K)|refine sT ?_))
 refine AWP.loop (fun i:Nat=>[(4,⟨0,.val (.int .i64 i)⟩),(3,⟨0,.val (.addr 11 1 [] 0 [0])⟩),(11,⟨1,.own (.box 155 (.agg [.str (.raw a l.length c),.int .i64 0,.int .u64 (frS l i)]))⟩),(0,⟨0,.val (.str (.src a c l))⟩)]) (fun i=>i≤l.length∧i≤4096) (fun i=>4096-i) 0 ⟨Nat.zero_le _,Nat.zero_le _⟩ (fun i=>rfl) ?_ (fun i hi=>?_)
 ·simp [Sub,lk,frS]
 ·by_cases h1:i<l.length
  ·by_cases h2:i<4096
   ·(repeat (first|((with_reducible refine rC rfl fun K hK=>?_);simp only [go_sem,seval,↓reduceIte,show (i:Int)<(l.length:Int) by omega,show (i:Int)<4096 by omega,Int.natCast_nonneg,Int.toNat_natCast,wid ((i:Int)+1) (by omega) (by omega)];refine hK _ _ _ ?_;clear hK K)|refine sT ?_))
    exact ⟨i+1,⟨h1,h2⟩,by omega,by simp [Sub,lk,frS]⟩
   ·(repeat (first|((with_reducible refine rC rfl fun K hK=>?_);simp only [go_sem,seval,↓reduceIte,show (i:Int)<(l.length:Int) by omega,show ¬ (i:Int)<4096 by omega];refine hK _ _ _ ?_;clear hK K)|refine sT ?_))
    refine rt1 ?_
    rw [from0,show min l.length 4096=i by omega]
  ·(repeat (first|((with_reducible refine rC rfl fun K hK=>?_);simp only [go_sem,seval,↓reduceIte,show ¬ (i:Int)<(l.length:Int) by omega];refine hK _ _ _ ?_;clear hK K)|refine sT ?_))
   refine rt1 ?_
   rw [from0,show min l.length 4096=i by omega]
end Go.Proofs.YtapdekacpecgiaaGreat
