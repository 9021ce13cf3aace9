import Derived.Test.YtapdekacpecgiaaGreatNh
import Derived.Test.YtapdekacpecgiaaGreatDw
import Derived.Test.YtapdekacpecgiaaGreatBy
import Derived.Test.YtapdekacpecgiaaGreatVz
namespace Go.Proofs.YtapdekacpecgiaaGreat
open Go.RowKit
set_option linter.unusedSimpArgs false
set_option linter.unusedVariables false
set_option linter.unusedSectionVars false
set_option maxRecDepth 20000
set_option maxHeartbeats 1000000
theorem Zd {a:Option Addr} {c:Nat} {l:List Int} (hB:Byt l) {s:Int×Int} (hS:Sok l s):∃ x s',Sok l s'∧AFn Tryz.prog (5000000+195) [.str (.src a c l),SRC a c l s] (.tup [.int .i64 x,SRC a c l s']):=by
 by_cases h:nextX l s 20=0
 ·exact ⟨_,_,Aj (Aj hS 20) 5,Lo a c l hB s hS h⟩
 ·exact ⟨_,_,Aj (Aj (Aj (Aj hS 20) 100) 9999) 20,O0 a c l hB s hS h⟩
theorem I6 {a:Option Addr} {c:Nat} {l:List Int} (hB:Byt l) {s:Int×Int} (hS:Sok l s) (m:Int):∃ x s',Sok l s'∧AFn Tryz.prog (5000000+125) [.str (.src a c l),SRC a c l s,.int .i64 m] (.tup [.int .i64 x,SRC a c l s']):=by
 by_cases h:nextX l s 24=0
 ·exact ⟨_,_,Aj (Aj hS 24) 4,J3 a c l hB s hS m h⟩
 ·exact ⟨_,_,Aj (Aj hS 24) m,Oz a c l hB s hS m h⟩
theorem O2 {a:Option Addr} {c:Nat} {l:List Int} (hB:Byt l) {s:Int×Int} (hS:Sok l s) (m:Int) (h0 : -1000000000000≤m∧m≤1000000000000):∃ x s',Sok l s'∧AFn Tryz.prog (5000000+97) [.str (.src a c l),SRC a c l s,.int .i64 m] (.tup [.int .i64 x,SRC a c l s']):=by
 by_cases h:nextX l s 14=0
 ·exact ⟨_,_,Aj (Aj hS 14) 4,Lf a c l hB s hS m h0 h⟩
 ·exact ⟨_,_,Aj (Aj hS 14) (m+1),Pk a c l hB s hS m h0 h⟩
theorem Dp (a:Option Addr) (c:Nat) (l:List Int) (hB:Byt l) (s:Int×Int) (hS:Sok l s)  : AFn Tryz.prog (5000000+194) [.str (.src a c l),.box 155 (.agg [.str (.raw a l.length c),.int .i64 s.1,.int .u64 s.2])] (.tup [.int .i64 (pickX l s [2,2,3,3,5,7,2,3,2,3,2,11,4,0]),.box 155 (.agg [.str (.raw a l.length c),.int .i64 (nextS l s 14).1,.int .u64 (nextS l s 14).2])]):=by
 refine gO Tryz.func194 Tryz.ntmps194 (by rw [Tryz.results194]) fun C hP hM hC=>?_
 have zq1:=Cb a c l hB s hS [2,2,3,3,5,7,2,3,2,3,2,11,4,0] (by simp) (by simp)
 (repeat (first|((with_reducible refine rC rfl fun K hK=>?_);simp only [go_sem,seval,↓reduceIte];(first|refine hK _ _ _ ?_|refine ⟨_,zq1,hK _ _ _ ?_⟩);clear hK K)|refine sT ?_))
 refine rg1 ?_
 rfl
def smP (l:List Int) (s:Int×Int):Int:=pickX l s [2,2,3,3,5,7,2,3,2,3,2,11,4,0]
set_option maxHeartbeats 4000000 in
theorem Nm (a:Option Addr) (c:Nat) (l:List Int) (hB:Byt l) (s:Int×Int) (hS:Sok l s) (m0:Int) (s2:Int×Int) (hS2:Sok l s2) (hC0:AFn Tryz.prog (5000000+195) [.str (.src a c l),SRC a c l (nextS l s 14)] (.tup [.int .i64 m0,SRC a c l s2])) (h3:nextX l s2 3=0) (hp:typ4 (smP l s)=true) (h30:nextX l (lsS l (pickX l (nextS l s2 3) [smP l s,smP l s*smP l s,smP l s*smP l s*smP l s]) (nextS l (nextS l (nextS l s2 3) 3) 4) (nextX l (nextS l (nextS l s2 3) 3) 4).toNat) 30=0) (y:Int) (s8:Int×Int) (hC1:AFn Tryz.prog (5000000+125) [.str (.src a c l),SRC a c l (nextS l (lsS l (pickX l (nextS l s2 3) [smP l s,smP l s*smP l s,smP l s*smP l s*smP l s]) (nextS l (nextS l (nextS l s2 3) 3) 4) (nextX l (nextS l (nextS l s2 3) 3) 4).toNat) 30),.int .i64 (pickX l (nextS l s2 3) [smP l s,smP l s*smP l s,smP l s*smP l s*smP l s])] (.tup [.int .i64 y,SRC a c l s8])):AFn Tryz.prog (5000000+111) [.str (.src a c l),.box 155 (.agg [.str (.raw a l.length c),.int .i64 s.1,.int .u64 s.2])] (.tup [(.tup [.int .i64 (smP l s),.int .i64 (pickX l (nextS l s2 3) [smP l s,smP l s*smP l s,smP l s*smP l s*smP l s]),.sl true 2 (intL (lsL l (pickX l (nextS l s2 3) [smP l s,smP l s*smP l s,smP l s*smP l s*smP l s]) (nextS l (nextS l (nextS l s2 3) 3) 4) (nextX l (nextS l (nextS l s2 3) 3) 4).toNat++[y]))]),.box 155 (.agg [.str (.raw a l.length c),.int .i64 s8.1,.int .u64 s8.2])]):=by
 refine gO Tryz.func111 Tryz.ntmps111 (by rw [Tryz.results111]) fun C hP hM hC=>?_
 have c1:=Dp a c l hB s hS
 rw [show pickX l s [2,2,3,3,5,7,2,3,2,3,2,11,4,0]=smP l s from rfl] at c1
 have c2:=An a c l hB s2 hS2 3
 have q3:=Aj (l:=l) hS2 3
 have cPr:=B4 (smP l s)
 rw [hp] at cPr
 obtain ⟨q,hq,pr⟩:=D1 hp
 have c3:=Cb a c l hB (nextS l s2 3) q3 [smP l s,smP l s*smP l s,smP l s*smP l s*smP l s] (by simp) (by simp)
 have q4:=Aj (l:=l) q3 3
 have w1:IntKind.i64.wrap (smP l s*smP l s)=smP l s*smP l s:=by rw [hq];rcases pr with rfl|rfl|rfl|rfl <;> rfl
 have w2:IntKind.i64.wrap (smP l s*smP l s*smP l s)=smP l s*smP l s*smP l s:=by rw [hq];rcases pr with rfl|rfl|rfl|rfl <;> rfl
 have c4:=An a c l hB (nextS l (nextS l s2 3) 3) q4 4
 have bn:=Ck hB (nextS l (nextS l s2 3) 3) 4
 have bn2:=bn.2.1 (by decide)
 have q5:=Aj (l:=l) q4 4
 have c5:=Cp a c l hB (nextS l (nextS l (nextS l s2 3) 3) 4) q5 (pickX l (nextS l s2 3) [smP l s,smP l s*smP l s,smP l s*smP l s*smP l s]) (nextX l (nextS l (nextS l s2 3) 3) 4) (by omega)
 have q6:=Eg (l:=l) (m:=(pickX l (nextS l s2 3) [smP l s,smP l s*smP l s,smP l s*smP l s*smP l s])) q5 ((nextX l (nextS l (nextS l s2 3) 3) 4).toNat)
 have c6:=An a c l hB _ q6 30
 have q7:=Aj (l:=l) q6 30
 have hll:=Cs l (pickX l (nextS l s2 3) [smP l s,smP l s*smP l s,smP l s*smP l s*smP l s]) (nextS l (nextS l (nextS l s2 3) 3) 4) ((nextX l (nextS l (nextS l s2 3) 3) 4).toNat)
 have zq1:((0:Int)==0)=true:=rfl;have zq2:((0:Int)==0)=true:=rfl;have zq3:(nextX l (nextS l (nextS l s2 3) 3) 4).toNat+1≤1099511627776:=(by omega);have zq4:((nextX l (nextS l (nextS l s2 3) 3) 4).toNat+1)*8≤140737488355328:=(by omega)
 (repeat (first|((with_reducible refine rC rfl fun K hK=>?_);simp only [go_sem,seval,↓reduceIte,h3,zq1,w1,w2,h30,zq2,Bt,hll,zq3,zq4];(first|refine hK _ _ _ ?_|refine ⟨_,c1,hK _ _ _ ?_⟩|refine ⟨_,hC0,hK _ _ _ ?_⟩|refine ⟨_,c2,hK _ _ _ ?_⟩|refine ⟨_,cPr,hK _ _ _ ?_⟩|refine ⟨_,c3,hK _ _ _ ?_⟩|refine ⟨_,c4,hK _ _ _ ?_⟩|refine ⟨_,c5,hK _ _ _ ?_⟩|refine ⟨_,c6,hK _ _ _ ?_⟩|refine ⟨_,hC1,hK _ _ _ ?_⟩);clear hK K)|refine sT ?_))
 (refine AWP.ret ?_;refine retG3 (by simp only [go_sem,seval,↓reduceIte];rfl) (by simp only [go_sem,seval,↓reduceIte];rfl) (by simp only [go_sem,seval,↓reduceIte];rfl) (by simp) (by rfl) ?_)
 rfl
set_option maxHeartbeats 4000000 in
theorem Nl (a:Option Addr) (c:Nat) (l:List Int) (hB:Byt l) (s:Int×Int) (hS:Sok l s) (m0:Int) (s2:Int×Int) (hS2:Sok l s2) (hC0:AFn Tryz.prog (5000000+195) [.str (.src a c l),SRC a c l (nextS l s 14)] (.tup [.int .i64 m0,SRC a c l s2])) (h3:nextX l s2 3=0) (hp:typ4 (smP l s)=true) (h30:nextX l (lsS l (pickX l (nextS l s2 3) [smP l s,smP l s*smP l s,smP l s*smP l s*smP l s]) (nextS l (nextS l (nextS l s2 3) 3) 4) (nextX l (nextS l (nextS l s2 3) 3) 4).toNat) 30=1):AFn Tryz.prog (5000000+111) [.str (.src a c l),.box 155 (.agg [.str (.raw a l.length c),.int .i64 s.1,.int .u64 s.2])] (.tup [(.tup [.int .i64 (smP l s),.int .i64 (pickX l (nextS l s2 3) [smP l s,smP l s*smP l s,smP l s*smP l s*smP l s]),.sl true 2 (intL (lsL l (pickX l (nextS l s2 3) [smP l s,smP l s*smP l s,smP l s*smP l s*smP l s]) (nextS l (lsS l (pickX l (nextS l s2 3) [smP l s,smP l s*smP l s,smP l s*smP l s*smP l s]) (nextS l (nextS l (nextS l s2 3) 3) 4) (nextX l (nextS l (nextS l s2 3) 3) 4).toNat) 30) 4))]),.box 155 (.agg [.str (.raw a l.length c),.int .i64 (lsS l (pickX l (nextS l s2 3) [smP l s,smP l s*smP l s,smP l s*smP l s*smP l s]) (nextS l (lsS l (pickX l (nextS l s2 3) [smP l s,smP l s*smP l s,smP l s*smP l s*smP l s]) (nextS l (nextS l (nextS l s2 3) 3) 4) (nextX l (nextS l (nextS l s2 3) 3) 4).toNat) 30) 4).1,.int .u64 (lsS l (pickX l (nextS l s2 3) [smP l s,smP l s*smP l s,smP l s*smP l s*smP l s]) (nextS l (lsS l (pickX l (nextS l s2 3) [smP l s,smP l s*smP l s,smP l s*smP l s*smP l s]) (nextS l (nextS l (nextS l s2 3) 3) 4) (nextX l (nextS l (nextS l s2 3) 3) 4).toNat) 30) 4).2])]):=by
 refine gO Tryz.func111 Tryz.ntmps111 (by rw [Tryz.results111]) fun C hP hM hC=>?_
 have c1:=Dp a c l hB s hS
 rw [show pickX l s [2,2,3,3,5,7,2,3,2,3,2,11,4,0]=smP l s from rfl] at c1
 have c2:=An a c l hB s2 hS2 3
 have q3:=Aj (l:=l) hS2 3
 have cPr:=B4 (smP l s)
 rw [hp] at cPr
 obtain ⟨q,hq,pr⟩:=D1 hp
 have c3:=Cb a c l hB (nextS l s2 3) q3 [smP l s,smP l s*smP l s,smP l s*smP l s*smP l s] (by simp) (by simp)
 have q4:=Aj (l:=l) q3 3
 have w1:IntKind.i64.wrap (smP l s*smP l s)=smP l s*smP l s:=by rw [hq];rcases pr with rfl|rfl|rfl|rfl <;> rfl
 have w2:IntKind.i64.wrap (smP l s*smP l s*smP l s)=smP l s*smP l s*smP l s:=by rw [hq];rcases pr with rfl|rfl|rfl|rfl <;> rfl
 have c4:=An a c l hB (nextS l (nextS l s2 3) 3) q4 4
 have bn:=Ck hB (nextS l (nextS l s2 3) 3) 4
 have bn2:=bn.2.1 (by decide)
 have q5:=Aj (l:=l) q4 4
 have c5:=Cp a c l hB (nextS l (nextS l (nextS l s2 3) 3) 4) q5 (pickX l (nextS l s2 3) [smP l s,smP l s*smP l s,smP l s*smP l s*smP l s]) (nextX l (nextS l (nextS l s2 3) 3) 4) (by omega)
 have q6:=Eg (l:=l) (m:=(pickX l (nextS l s2 3) [smP l s,smP l s*smP l s,smP l s*smP l s*smP l s])) q5 ((nextX l (nextS l (nextS l s2 3) 3) 4).toNat)
 have c6:=An a c l hB _ q6 30
 have q7:=Aj (l:=l) q6 30
 have hll:=Cs l (pickX l (nextS l s2 3) [smP l s,smP l s*smP l s,smP l s*smP l s*smP l s]) (nextS l (nextS l (nextS l s2 3) 3) 4) ((nextX l (nextS l (nextS l s2 3) 3) 4).toNat)
 have c7:=Cp a c l hB _ q7 (pickX l (nextS l s2 3) [smP l s,smP l s*smP l s,smP l s*smP l s*smP l s]) 4 (by omega)
 have zq1:((0:Int)==0)=true:=rfl;have zq2:((1:Int)==0)=false:=rfl;have zq3:((1:Int)==1)=true:=rfl;have zq4:(4:Int).toNat=4:=rfl
 (repeat (first|((with_reducible refine rC rfl fun K hK=>?_);simp only [go_sem,seval,↓reduceIte,h3,zq1,w1,w2,h30,zq2,zq3,zq4];(first|refine hK _ _ _ ?_|refine ⟨_,c1,hK _ _ _ ?_⟩|refine ⟨_,hC0,hK _ _ _ ?_⟩|refine ⟨_,c2,hK _ _ _ ?_⟩|refine ⟨_,cPr,hK _ _ _ ?_⟩|refine ⟨_,c3,hK _ _ _ ?_⟩|refine ⟨_,c4,hK _ _ _ ?_⟩|refine ⟨_,c5,hK _ _ _ ?_⟩|refine ⟨_,c6,hK _ _ _ ?_⟩|refine ⟨_,c7,hK _ _ _ ?_⟩);clear hK K)|refine sT ?_))
 (refine AWP.ret ?_;refine retG3 (by simp only [go_sem,seval,↓reduceIte];rfl) (by simp only [go_sem,seval,↓reduceIte];rfl) (by simp only [go_sem,seval,↓reduceIte];rfl) (by simp) (by rfl) ?_)
 rfl
set_option maxHeartbeats 4000000 in
theorem Nj (a:Option Addr) (c:Nat) (l:List Int) (hB:Byt l) (s:Int×Int) (hS:Sok l s) (m0:Int) (s2:Int×Int) (hS2:Sok l s2) (hC0:AFn Tryz.prog (5000000+195) [.str (.src a c l),SRC a c l (nextS l s 14)] (.tup [.int .i64 m0,SRC a c l s2])) (h3:nextX l s2 3=0) (hp:typ4 (smP l s)=true) (h30:¬ nextX l (lsS l (pickX l (nextS l s2 3) [smP l s,smP l s*smP l s,smP l s*smP l s*smP l s]) (nextS l (nextS l (nextS l s2 3) 3) 4) (nextX l (nextS l (nextS l s2 3) 3) 4).toNat) 30=0) (h31:¬ nextX l (lsS l (pickX l (nextS l s2 3) [smP l s,smP l s*smP l s,smP l s*smP l s*smP l s]) (nextS l (nextS l (nextS l s2 3) 3) 4) (nextX l (nextS l (nextS l s2 3) 3) 4).toNat) 30=1):AFn Tryz.prog (5000000+111) [.str (.src a c l),.box 155 (.agg [.str (.raw a l.length c),.int .i64 s.1,.int .u64 s.2])] (.tup [(.tup [.int .i64 (smP l s),.int .i64 (pickX l (nextS l s2 3) [smP l s,smP l s*smP l s,smP l s*smP l s*smP l s]),.sl true 2 (intL (lsL l (pickX l (nextS l s2 3) [smP l s,smP l s*smP l s,smP l s*smP l s*smP l s]) (nextS l (nextS l (nextS l s2 3) 3) 4) (nextX l (nextS l (nextS l s2 3) 3) 4).toNat))]),.box 155 (.agg [.str (.raw a l.length c),.int .i64 (nextS l (lsS l (pickX l (nextS l s2 3) [smP l s,smP l s*smP l s,smP l s*smP l s*smP l s]) (nextS l (nextS l (nextS l s2 3) 3) 4) (nextX l (nextS l (nextS l s2 3) 3) 4).toNat) 30).1,.int .u64 (nextS l (lsS l (pickX l (nextS l s2 3) [smP l s,smP l s*smP l s,smP l s*smP l s*smP l s]) (nextS l (nextS l (nextS l s2 3) 3) 4) (nextX l (nextS l (nextS l s2 3) 3) 4).toNat) 30).2])]):=by
 refine gO Tryz.func111 Tryz.ntmps111 (by rw [Tryz.results111]) fun C hP hM hC=>?_
 have c1:=Dp a c l hB s hS
 rw [show pickX l s [2,2,3,3,5,7,2,3,2,3,2,11,4,0]=smP l s from rfl] at c1
 have c2:=An a c l hB s2 hS2 3
 have q3:=Aj (l:=l) hS2 3
 have cPr:=B4 (smP l s)
 rw [hp] at cPr
 obtain ⟨q,hq,pr⟩:=D1 hp
 have c3:=Cb a c l hB (nextS l s2 3) q3 [smP l s,smP l s*smP l s,smP l s*smP l s*smP l s] (by simp) (by simp)
 have q4:=Aj (l:=l) q3 3
 have w1:IntKind.i64.wrap (smP l s*smP l s)=smP l s*smP l s:=by rw [hq];rcases pr with rfl|rfl|rfl|rfl <;> rfl
 have w2:IntKind.i64.wrap (smP l s*smP l s*smP l s)=smP l s*smP l s*smP l s:=by rw [hq];rcases pr with rfl|rfl|rfl|rfl <;> rfl
 have c4:=An a c l hB (nextS l (nextS l s2 3) 3) q4 4
 have bn:=Ck hB (nextS l (nextS l s2 3) 3) 4
 have bn2:=bn.2.1 (by decide)
 have q5:=Aj (l:=l) q4 4
 have c5:=Cp a c l hB (nextS l (nextS l (nextS l s2 3) 3) 4) q5 (pickX l (nextS l s2 3) [smP l s,smP l s*smP l s,smP l s*smP l s*smP l s]) (nextX l (nextS l (nextS l s2 3) 3) 4) (by omega)
 have q6:=Eg (l:=l) (m:=(pickX l (nextS l s2 3) [smP l s,smP l s*smP l s,smP l s*smP l s*smP l s])) q5 ((nextX l (nextS l (nextS l s2 3) 3) 4).toNat)
 have c6:=An a c l hB _ q6 30
 have q7:=Aj (l:=l) q6 30
 have hll:=Cs l (pickX l (nextS l s2 3) [smP l s,smP l s*smP l s,smP l s*smP l s*smP l s]) (nextS l (nextS l (nextS l s2 3) 3) 4) ((nextX l (nextS l (nextS l s2 3) 3) 4).toNat)
 have zq1:((0:Int)==0)=true:=rfl
 (repeat (first|((with_reducible refine rC rfl fun K hK=>?_);simp only [go_sem,seval,↓reduceIte,h3,zq1,w1,w2,beqF h30,beqF h31];(first|refine hK _ _ _ ?_|refine ⟨_,c1,hK _ _ _ ?_⟩|refine ⟨_,hC0,hK _ _ _ ?_⟩|refine ⟨_,c2,hK _ _ _ ?_⟩|refine ⟨_,cPr,hK _ _ _ ?_⟩|refine ⟨_,c3,hK _ _ _ ?_⟩|refine ⟨_,c4,hK _ _ _ ?_⟩|refine ⟨_,c5,hK _ _ _ ?_⟩|refine ⟨_,c6,hK _ _ _ ?_⟩);clear hK K)|refine sT ?_))
 (refine AWP.ret ?_;refine retG3 (by simp only [go_sem,seval,↓reduceIte];rfl) (by simp only [go_sem,seval,↓reduceIte];rfl) (by simp only [go_sem,seval,↓reduceIte];rfl) (by simp) (by rfl) ?_)
 rfl
set_option maxHeartbeats 4000000 in
theorem Ng (a:Option Addr) (c:Nat) (l:List Int) (hB:Byt l) (s:Int×Int) (hS:Sok l s) (m0:Int) (s2:Int×Int) (hS2:Sok l s2) (hC0:AFn Tryz.prog (5000000+195) [.str (.src a c l),SRC a c l (nextS l s 14)] (.tup [.int .i64 m0,SRC a c l s2])) (h3:¬ (nextX l s2 3=0∧typ4 (smP l s)=true)) (h30:nextX l (lsS l m0 (nextS l (nextS l s2 3) 4) (nextX l (nextS l s2 3) 4).toNat) 30=0) (y:Int) (s8:Int×Int) (hC1:AFn Tryz.prog (5000000+125) [.str (.src a c l),SRC a c l (nextS l (lsS l m0 (nextS l (nextS l s2 3) 4) (nextX l (nextS l s2 3) 4).toNat) 30),.int .i64 m0] (.tup [.int .i64 y,SRC a c l s8])):AFn Tryz.prog (5000000+111) [.str (.src a c l),.box 155 (.agg [.str (.raw a l.length c),.int .i64 s.1,.int .u64 s.2])] (.tup [(.tup [.int .i64 (smP l s),.int .i64 m0,.sl true 2 (intL (lsL l m0 (nextS l (nextS l s2 3) 4) (nextX l (nextS l s2 3) 4).toNat++[y]))]),.box 155 (.agg [.str (.raw a l.length c),.int .i64 s8.1,.int .u64 s8.2])]):=by
 refine gO Tryz.func111 Tryz.ntmps111 (by rw [Tryz.results111]) fun C hP hM hC=>?_
 have c1:=Dp a c l hB s hS
 rw [show pickX l s [2,2,3,3,5,7,2,3,2,3,2,11,4,0]=smP l s from rfl] at c1
 have c2:=An a c l hB s2 hS2 3
 have q3:=Aj (l:=l) hS2 3
 have cPr:=B4 (smP l s)
 have q4:=q3
 have c4:=An a c l hB (nextS l s2 3) q4 4
 have bn:=Ck hB (nextS l s2 3) 4
 have bn2:=bn.2.1 (by decide)
 have q5:=Aj (l:=l) q4 4
 have c5:=Cp a c l hB (nextS l (nextS l s2 3) 4) q5 m0 (nextX l (nextS l s2 3) 4) (by omega)
 have q6:=Eg (l:=l) (m:=m0) q5 ((nextX l (nextS l s2 3) 4).toNat)
 have c6:=An a c l hB _ q6 30
 have q7:=Aj (l:=l) q6 30
 have hll:=Cs l m0 (nextS l (nextS l s2 3) 4) ((nextX l (nextS l s2 3) 4).toNat)
 by_cases hx:nextX l s2 3=0
 ·have hp:typ4 (smP l s)=false:=Bool.eq_false_iff.2 fun e=>h3 ⟨hx,e⟩
  rw [hp] at cPr
  have zq1:((0:Int)==0)=true:=rfl;have zq2:((0:Int)==0)=true:=rfl;have zq3:(nextX l (nextS l s2 3) 4).toNat+1≤1099511627776:=(by omega);have zq4:((nextX l (nextS l s2 3) 4).toNat+1)*8≤140737488355328:=(by omega)
  (repeat (first|((with_reducible refine rC rfl fun K hK=>?_);simp only [go_sem,seval,↓reduceIte,hx,zq1,h30,zq2,Bt,hll,zq3,zq4];(first|refine hK _ _ _ ?_|refine ⟨_,c1,hK _ _ _ ?_⟩|refine ⟨_,hC0,hK _ _ _ ?_⟩|refine ⟨_,c2,hK _ _ _ ?_⟩|refine ⟨_,c4,hK _ _ _ ?_⟩|refine ⟨_,c5,hK _ _ _ ?_⟩|refine ⟨_,c6,hK _ _ _ ?_⟩|refine ⟨_,hC1,hK _ _ _ ?_⟩|refine ⟨_,cPr,hK _ _ _ ?_⟩);clear hK K)|refine sT ?_))
  (refine AWP.ret ?_;refine retG3 (by simp only [go_sem,seval,↓reduceIte];rfl) (by simp only [go_sem,seval,↓reduceIte];rfl) (by simp only [go_sem,seval,↓reduceIte];rfl) (by simp) (by rfl) ?_)
  rfl
 ·have zq5:((0:Int)==0)=true:=rfl;have zq6:(nextX l (nextS l s2 3) 4).toNat+1≤1099511627776:=(by omega);have zq7:((nextX l (nextS l s2 3) 4).toNat+1)*8≤140737488355328:=(by omega)
  (repeat (first|((with_reducible refine rC rfl fun K hK=>?_);simp only [go_sem,seval,↓reduceIte,beqF hx,h30,zq5,Bt,hll,zq6,zq7];(first|refine hK _ _ _ ?_|refine ⟨_,c1,hK _ _ _ ?_⟩|refine ⟨_,hC0,hK _ _ _ ?_⟩|refine ⟨_,c2,hK _ _ _ ?_⟩|refine ⟨_,c4,hK _ _ _ ?_⟩|refine ⟨_,c5,hK _ _ _ ?_⟩|refine ⟨_,c6,hK _ _ _ ?_⟩|refine ⟨_,hC1,hK _ _ _ ?_⟩);clear hK K)|refine sT ?_))
  (refine AWP.ret ?_;refine retG3 (by simp only [go_sem,seval,↓reduceIte];rfl) (by simp only [go_sem,seval,↓reduceIte];rfl) (by simp only [go_sem,seval,↓reduceIte];rfl) (by simp) (by rfl) ?_)
  rfl
set_option maxHeartbeats 4000000 in
theorem Nb (a:Option Addr) (c:Nat) (l:List Int) (hB:Byt l) (s:Int×Int) (hS:Sok l s) (m0:Int) (s2:Int×Int) (hS2:Sok l s2) (hC0:AFn Tryz.prog (5000000+195) [.str (.src a c l),SRC a c l (nextS l s 14)] (.tup [.int .i64 m0,SRC a c l s2])) (h3:¬ (nextX l s2 3=0∧typ4 (smP l s)=true)) (h30:nextX l (lsS l m0 (nextS l (nextS l s2 3) 4) (nextX l (nextS l s2 3) 4).toNat) 30=1):AFn Tryz.prog (5000000+111) [.str (.src a c l),.box 155 (.agg [.str (.raw a l.length c),.int .i64 s.1,.int .u64 s.2])] (.tup [(.tup [.int .i64 (smP l s),.int .i64 m0,.sl true 2 (intL (lsL l m0 (nextS l (lsS l m0 (nextS l (nextS l s2 3) 4) (nextX l (nextS l s2 3) 4).toNat) 30) 4))]),.box 155 (.agg [.str (.raw a l.length c),.int .i64 (lsS l m0 (nextS l (lsS l m0 (nextS l (nextS l s2 3) 4) (nextX l (nextS l s2 3) 4).toNat) 30) 4).1,.int .u64 (lsS l m0 (nextS l (lsS l m0 (nextS l (nextS l s2 3) 4) (nextX l (nextS l s2 3) 4).toNat) 30) 4).2])]):=by
 refine gO Tryz.func111 Tryz.ntmps111 (by rw [Tryz.results111]) fun C hP hM hC=>?_
 have c1:=Dp a c l hB s hS
 rw [show pickX l s [2,2,3,3,5,7,2,3,2,3,2,11,4,0]=smP l s from rfl] at c1
 have c2:=An a c l hB s2 hS2 3
 have q3:=Aj (l:=l) hS2 3
 have cPr:=B4 (smP l s)
 have q4:=q3
 have c4:=An a c l hB (nextS l s2 3) q4 4
 have bn:=Ck hB (nextS l s2 3) 4
 have bn2:=bn.2.1 (by decide)
 have q5:=Aj (l:=l) q4 4
 have c5:=Cp a c l hB (nextS l (nextS l s2 3) 4) q5 m0 (nextX l (nextS l s2 3) 4) (by omega)
 have q6:=Eg (l:=l) (m:=m0) q5 ((nextX l (nextS l s2 3) 4).toNat)
 have c6:=An a c l hB _ q6 30
 have q7:=Aj (l:=l) q6 30
 have hll:=Cs l m0 (nextS l (nextS l s2 3) 4) ((nextX l (nextS l s2 3) 4).toNat)
 have c7:=Cp a c l hB _ q7 m0 4 (by omega)
 by_cases hx:nextX l s2 3=0
 ·have hp:typ4 (smP l s)=false:=Bool.eq_false_iff.2 fun e=>h3 ⟨hx,e⟩
  rw [hp] at cPr
  have zq1:((0:Int)==0)=true:=rfl;have zq2:((1:Int)==0)=false:=rfl;have zq3:((1:Int)==1)=true:=rfl;have zq4:(4:Int).toNat=4:=rfl
  (repeat (first|((with_reducible refine rC rfl fun K hK=>?_);simp only [go_sem,seval,↓reduceIte,hx,zq1,h30,zq2,zq3,zq4];(first|refine hK _ _ _ ?_|refine ⟨_,c1,hK _ _ _ ?_⟩|refine ⟨_,hC0,hK _ _ _ ?_⟩|refine ⟨_,c2,hK _ _ _ ?_⟩|refine ⟨_,c4,hK _ _ _ ?_⟩|refine ⟨_,c5,hK _ _ _ ?_⟩|refine ⟨_,c6,hK _ _ _ ?_⟩|refine ⟨_,c7,hK _ _ _ ?_⟩|refine ⟨_,cPr,hK _ _ _ ?_⟩);clear hK K)|refine sT ?_))
  (refine AWP.ret ?_;refine retG3 (by simp only [go_sem,seval,↓reduceIte];rfl) (by simp only [go_sem,seval,↓reduceIte];rfl) (by simp only [go_sem,seval,↓reduceIte];rfl) (by simp) (by rfl) ?_)
  rfl
 ·have zq5:((1:Int)==0)=false:=rfl;have zq6:((1:Int)==1)=true:=rfl;have zq7:(4:Int).toNat=4:=rfl
  (repeat (first|((with_reducible refine rC rfl fun K hK=>?_);simp only [go_sem,seval,↓reduceIte,beqF hx,h30,zq5,zq6,zq7];(first|refine hK _ _ _ ?_|refine ⟨_,c1,hK _ _ _ ?_⟩|refine ⟨_,hC0,hK _ _ _ ?_⟩|refine ⟨_,c2,hK _ _ _ ?_⟩|refine ⟨_,c4,hK _ _ _ ?_⟩|refine ⟨_,c5,hK _ _ _ ?_⟩|refine ⟨_,c6,hK _ _ _ ?_⟩|refine ⟨_,c7,hK _ _ _ ?_⟩);clear hK K)|refine sT ?_))
  (refine AWP.ret ?_;refine retG3 (by simp only [go_sem,seval,↓reduceIte];rfl) (by simp only [go_sem,seval,↓reduceIte];rfl) (by simp only [go_sem,seval,↓reduceIte];rfl) (by simp) (by rfl) ?_)
  rfl
set_option maxHeartbeats 4000000 in
theorem Np (a:Option Addr) (c:Nat) (l:List Int) (hB:Byt l) (s:Int×Int) (hS:Sok l s) (m0:Int) (s2:Int×Int) (hS2:Sok l s2) (hC0:AFn Tryz.prog (5000000+195) [.str (.src a c l),SRC a c l (nextS l s 14)] (.tup [.int .i64 m0,SRC a c l s2])) (h3:¬ (nextX l s2 3=0∧typ4 (smP l s)=true)) (h30:¬ nextX l (lsS l m0 (nextS l (nextS l s2 3) 4) (nextX l (nextS l s2 3) 4).toNat) 30=0) (h31:¬ nextX l (lsS l m0 (nextS l (nextS l s2 3) 4) (nextX l (nextS l s2 3) 4).toNat) 30=1):AFn Tryz.prog (5000000+111) [.str (.src a c l),.box 155 (.agg [.str (.raw a l.length c),.int .i64 s.1,.int .u64 s.2])] (.tup [(.tup [.int .i64 (smP l s),.int .i64 m0,.sl true 2 (intL (lsL l m0 (nextS l (nextS l s2 3) 4) (nextX l (nextS l s2 3) 4).toNat))]),.box 155 (.agg [.str (.raw a l.length c),.int .i64 (nextS l (lsS l m0 (nextS l (nextS l s2 3) 4) (nextX l (nextS l s2 3) 4).toNat) 30).1,.int .u64 (nextS l (lsS l m0 (nextS l (nextS l s2 3) 4) (nextX l (nextS l s2 3) 4).toNat) 30).2])]):=by
 refine gO Tryz.func111 Tryz.ntmps111 (by rw [Tryz.results111]) fun C hP hM hC=>?_
 have c1:=Dp a c l hB s hS
 rw [show pickX l s [2,2,3,3,5,7,2,3,2,3,2,11,4,0]=smP l s from rfl] at c1
 have c2:=An a c l hB s2 hS2 3
 have q3:=Aj (l:=l) hS2 3
 have cPr:=B4 (smP l s)
 have q4:=q3
 have c4:=An a c l hB (nextS l s2 3) q4 4
 have bn:=Ck hB (nextS l s2 3) 4
 have bn2:=bn.2.1 (by decide)
 have q5:=Aj (l:=l) q4 4
 have c5:=Cp a c l hB (nextS l (nextS l s2 3) 4) q5 m0 (nextX l (nextS l s2 3) 4) (by omega)
 have q6:=Eg (l:=l) (m:=m0) q5 ((nextX l (nextS l s2 3) 4).toNat)
 have c6:=An a c l hB _ q6 30
 have q7:=Aj (l:=l) q6 30
 have hll:=Cs l m0 (nextS l (nextS l s2 3) 4) ((nextX l (nextS l s2 3) 4).toNat)
 by_cases hx:nextX l s2 3=0
 ·have hp:typ4 (smP l s)=false:=Bool.eq_false_iff.2 fun e=>h3 ⟨hx,e⟩
  rw [hp] at cPr
  have zq1:((0:Int)==0)=true:=rfl
  (repeat (first|((with_reducible refine rC rfl fun K hK=>?_);simp only [go_sem,seval,↓reduceIte,hx,zq1,beqF h30,beqF h31];(first|refine hK _ _ _ ?_|refine ⟨_,c1,hK _ _ _ ?_⟩|refine ⟨_,hC0,hK _ _ _ ?_⟩|refine ⟨_,c2,hK _ _ _ ?_⟩|refine ⟨_,c4,hK _ _ _ ?_⟩|refine ⟨_,c5,hK _ _ _ ?_⟩|refine ⟨_,c6,hK _ _ _ ?_⟩|refine ⟨_,cPr,hK _ _ _ ?_⟩);clear hK K)|refine sT ?_))
  (refine AWP.ret ?_;refine retG3 (by simp only [go_sem,seval,↓reduceIte];rfl) (by simp only [go_sem,seval,↓reduceIte];rfl) (by simp only [go_sem,seval,↓reduceIte];rfl) (by simp) (by rfl) ?_)
  rfl
 ·(repeat (first|((with_reducible refine rC rfl fun K hK=>?_);simp only [go_sem,seval,↓reduceIte,beqF hx,beqF h30,beqF h31];(first|refine hK _ _ _ ?_|refine ⟨_,c1,hK _ _ _ ?_⟩|refine ⟨_,hC0,hK _ _ _ ?_⟩|refine ⟨_,c2,hK _ _ _ ?_⟩|refine ⟨_,c4,hK _ _ _ ?_⟩|refine ⟨_,c5,hK _ _ _ ?_⟩|refine ⟨_,c6,hK _ _ _ ?_⟩);clear hK K)|refine sT ?_))
  (refine AWP.ret ?_;refine retG3 (by simp only [go_sem,seval,↓reduceIte];rfl) (by simp only [go_sem,seval,↓reduceIte];rfl) (by simp only [go_sem,seval,↓reduceIte];rfl) (by simp) (by rfl) ?_)
  rfl
theorem Ad9 {a:Option Addr} {c:Nat} {l:List Int} (hB:Byt l) {s:Int×Int} (hS:Sok l s):∃ p m la s',Sok l s'∧la.length≤10∧AFn Tryz.prog (5000000+111) [.str (.src a c l),SRC a c l s] (.tup [.tup [.int .i64 p,.int .i64 m,.sl true 2 (intL la)],SRC a c l s']):=by
 obtain ⟨m0,s2,hS2,hC0⟩:=Zd (a:=a) (c:=c) hB (Aj hS 14)
 by_cases h3:nextX l s2 3=0∧typ4 (smP l s)=true
 ·have q6:=Eg (l:=l) (m:=(pickX l (nextS l s2 3) [smP l s,smP l s*smP l s,smP l s*smP l s*smP l s])) (Aj (Aj (Aj hS2 3) 3) 4) ((nextX l (nextS l (nextS l s2 3) 3) 4).toNat)
  have bn:=(Ck hB (nextS l (nextS l s2 3) 3) 4).2.1 (by decide)
  have hll:=Cs l (pickX l (nextS l s2 3) [smP l s,smP l s*smP l s,smP l s*smP l s*smP l s]) (nextS l (nextS l (nextS l s2 3) 3) 4) ((nextX l (nextS l (nextS l s2 3) 3) 4).toNat)
  by_cases h30:nextX l (lsS l (pickX l (nextS l s2 3) [smP l s,smP l s*smP l s,smP l s*smP l s*smP l s]) (nextS l (nextS l (nextS l s2 3) 3) 4) (nextX l (nextS l (nextS l s2 3) 3) 4).toNat) 30=0
  ·obtain ⟨y,s8,hS8,hC1⟩:=I6 (a:=a) (c:=c) hB (Aj q6 30) (pickX l (nextS l s2 3) [smP l s,smP l s*smP l s,smP l s*smP l s*smP l s])
   exact ⟨_,_,_,_,hS8,by rw [List.length_append,hll,List.length_singleton];omega,Nm a c l hB s hS m0 s2 hS2 hC0 h3.1 h3.2 h30 y s8 hC1⟩
  ·by_cases h31:nextX l (lsS l (pickX l (nextS l s2 3) [smP l s,smP l s*smP l s,smP l s*smP l s*smP l s]) (nextS l (nextS l (nextS l s2 3) 3) 4) (nextX l (nextS l (nextS l s2 3) 3) 4).toNat) 30=1
   ·exact ⟨_,_,_,_,Eg (Aj q6 30) 4,by rw [Cs];omega,Nl a c l hB s hS m0 s2 hS2 hC0 h3.1 h3.2 h31⟩
   ·exact ⟨_,_,_,_,Aj q6 30,by rw [hll];omega,Nj a c l hB s hS m0 s2 hS2 hC0 h3.1 h3.2 h30 h31⟩
 ·have q6:=Eg (l:=l) (m:=m0) (Aj (Aj hS2 3) 4) ((nextX l (nextS l s2 3) 4).toNat)
  have bn:=(Ck hB (nextS l s2 3) 4).2.1 (by decide)
  have hll:=Cs l m0 (nextS l (nextS l s2 3) 4) ((nextX l (nextS l s2 3) 4).toNat)
  by_cases h30:nextX l (lsS l m0 (nextS l (nextS l s2 3) 4) (nextX l (nextS l s2 3) 4).toNat) 30=0
  ·obtain ⟨y,s8,hS8,hC1⟩:=I6 (a:=a) (c:=c) hB (Aj q6 30) m0
   exact ⟨_,_,_,_,hS8,by rw [List.length_append,hll,List.length_singleton];omega,Ng a c l hB s hS m0 s2 hS2 hC0 h3 h30 y s8 hC1⟩
  ·by_cases h31:nextX l (lsS l m0 (nextS l (nextS l s2 3) 4) (nextX l (nextS l s2 3) 4).toNat) 30=1
   ·exact ⟨_,_,_,_,Eg (Aj q6 30) 4,by rw [Cs];omega,Nb a c l hB s hS m0 s2 hS2 hC0 h3 h31⟩
   ·exact ⟨_,_,_,_,Aj q6 30,by rw [hll];omega,Np a c l hB s hS m0 s2 hS2 hC0 h3 h30 h31⟩
theorem Gd (a:Option Addr) (c:Nat) (l:List Int) (hB:Byt l) (p m:Int) (la:List Int) (s1:Int×Int) (hC0:AFn Tryz.prog (5000000+111) [.str (.src a c l),SRC a c l (from0 l)] (.tup [.tup [.int .i64 p,.int .i64 m,.sl true 2 (intL la)],SRC a c l s1])):AFn Tryz.prog 42 [.str (.src a c l)] (.tup [.int .i64 p,.int .i64 m,.sl true 2 (intL la)]):=by
 refine fO Tryz.func42 Tryz.ntmps42 (by rw [Tryz.results42]) fun C hP hM hC=>?_
 refine AWP.ghost (t:=0) rfl rfl ?_
 have zq1:=Gl a c l hB
 (repeat (first|((with_reducible refine rC rfl fun K hK=>?_);simp only [go_sem,seval,↓reduceIte];(first|refine hK _ _ _ ?_|refine ⟨_,zq1,hK _ _ _ ?_⟩|refine ⟨_,hC0,hK _ _ _ ?_⟩);clear hK K)|refine sT ?_))
 refine rt3 ?_
 rfl
theorem Fu (a:Option Addr) (c:Nat) (l:List Int) (hB:Byt l) (p m x:Int) (la:List Int) (s1 s2:Int×Int) (hC0:AFn Tryz.prog (5000000+111) [.str (.src a c l),SRC a c l (from0 l)] (.tup [.tup [.int .i64 p,.int .i64 m,.sl true 2 (intL la)],SRC a c l s1])) (hC1:AFn Tryz.prog (5000000+97) [.str (.src a c l),SRC a c l s1,.int .i64 9] (.tup [.int .i64 x,SRC a c l s2])):AFn Tryz.prog 32 [.str (.src a c l)] (.tup [.int .i64 p,.int .i64 m,.int .i64 (IntKind.i64.wrap (1+x)),.sl true 2 (intL la)]):=by
 refine fO Tryz.func32 Tryz.ntmps32 (by rw [Tryz.results32]) fun C hP hM hC=>?_
 refine AWP.ghost (t:=0) rfl rfl ?_
 have zq1:=Gl a c l hB
 (repeat (first|((with_reducible refine rC rfl fun K hK=>?_);simp only [go_sem,seval,↓reduceIte];(first|refine hK _ _ _ ?_|refine ⟨_,zq1,hK _ _ _ ?_⟩|refine ⟨_,hC0,hK _ _ _ ?_⟩|refine ⟨_,hC1,hK _ _ _ ?_⟩);clear hK K)|refine sT ?_))
 (refine AWP.ret ?_;refine retOk4 (by simp only [go_sem,seval,↓reduceIte];rfl) (by simp only [go_sem,seval,↓reduceIte];rfl) (by simp only [go_sem,seval,↓reduceIte];rfl) (by simp only [go_sem,seval,↓reduceIte];rfl) (by simp) ?_)
 rfl
theorem G7 (a:Option Addr) (c:Nat) (l:List Int) (p m d:Int) (la:List Int) (hC0:AFn Tryz.prog 32 [.str (.src a c l)] (.tup [.int .i64 p,.int .i64 m,.int .i64 d,.sl true 2 (intL la)])):AFn Tryz.prog 45 [.str (.src a c l)] (.tup [.int .i64 p,.int .i64 m,.int .i64 d,.sl true 2 (intL la)]):=by
 refine fO Tryz.func45 Tryz.ntmps45 (by rw [Tryz.results45]) fun C hP hM hC=>?_
 (repeat (first|((with_reducible refine rC rfl fun K hK=>?_);simp only [go_sem,seval,↓reduceIte];(first|refine hK _ _ _ ?_|refine ⟨_,hC0,hK _ _ _ ?_⟩);clear hK K)|refine sT ?_))
 (refine AWP.ret ?_;refine retOk4 (by simp only [go_sem,seval,↓reduceIte];rfl) (by simp only [go_sem,seval,↓reduceIte];rfl) (by simp only [go_sem,seval,↓reduceIte];rfl) (by simp only [go_sem,seval,↓reduceIte];rfl) (by simp) ?_)
 rfl
theorem Ic (a:Option Addr) (c:Nat) (l:List Int) (hB:Byt l) (p m x y:Int) (la:List Int) (s1 s2 s3:Int×Int) (hC0:AFn Tryz.prog (5000000+111) [.str (.src a c l),SRC a c l (from0 l)] (.tup [.tup [.int .i64 p,.int .i64 m,.sl true 2 (intL la)],SRC a c l s1])) (hC1:AFn Tryz.prog (5000000+97) [.str (.src a c l),SRC a c l s1,.int .i64 2] (.tup [.int .i64 x,SRC a c l s2])) (hC2:AFn Tryz.prog (5000000+125) [.str (.src a c l),SRC a c l s2,.int .i64 m] (.tup [.int .i64 y,SRC a c l s3])):AFn Tryz.prog 39 [.str (.src a c l)] (.tup [.int .i64 p,.int .i64 m,.sl true 2 (intL la),.int .i64 (IntKind.i64.wrap (1+x)),.int .i64 y]):=by
 refine fO Tryz.func39 Tryz.ntmps39 (by rw [Tryz.results39]) fun C hP hM hC=>?_
 refine AWP.ghost (t:=0) rfl rfl ?_
 have zq1:=Gl a c l hB
 (repeat (first|((with_reducible refine rC rfl fun K hK=>?_);simp only [go_sem,seval,↓reduceIte];(first|refine hK _ _ _ ?_|refine ⟨_,zq1,hK _ _ _ ?_⟩|refine ⟨_,hC0,hK _ _ _ ?_⟩|refine ⟨_,hC1,hK _ _ _ ?_⟩|refine ⟨_,hC2,hK _ _ _ ?_⟩);clear hK K)|refine sT ?_))
 (refine AWP.ret ?_;refine retOk5 (by simp only [go_sem,seval,↓reduceIte];rfl) (by simp only [go_sem,seval,↓reduceIte];rfl) (by simp only [go_sem,seval,↓reduceIte];rfl) (by simp only [go_sem,seval,↓reduceIte];rfl) (by simp only [go_sem,seval,↓reduceIte];rfl) (by simp) ?_)
 rfl
theorem Abz {a:Option Addr} {c:Nat} {l:List Int} (hB:Byt l):∃ p m d la k y,la.length≤10∧AFn Tryz.prog 32 [.str (.src a c l)] (.tup [.int .i64 p,.int .i64 m,.int .i64 d,.sl true 2 (intL la)])∧AFn Tryz.prog 45 [.str (.src a c l)] (.tup [.int .i64 p,.int .i64 m,.int .i64 d,.sl true 2 (intL la)])∧AFn Tryz.prog 42 [.str (.src a c l)] (.tup [.int .i64 p,.int .i64 m,.sl true 2 (intL la)])∧AFn Tryz.prog 39 [.str (.src a c l)] (.tup [.int .i64 p,.int .i64 m,.sl true 2 (intL la),.int .i64 k,.int .i64 y]):=by
 obtain ⟨p,m,la,s1,hS1,hl,hC0⟩:=Ad9 (a:=a) (c:=c) hB (Ag1 l)
 obtain ⟨x,s2,hS2,hC1⟩:=O2 (a:=a) (c:=c) hB hS1 9 (by decide)
 obtain ⟨z,s3,hS3,hC2⟩:=O2 (a:=a) (c:=c) hB hS1 2 (by decide)
 obtain ⟨y,s4,hS4,hC3⟩:=I6 (a:=a) (c:=c) hB hS3 m
 exact ⟨p,m,_,la,_,y,hl,Fu a c l hB p m x la s1 s2 hC0 hC1,G7 a c l p m _ la (Fu a c l hB p m x la s1 s2 hC0 hC1),Gd a c l hB p m la s1 hC0,Ic a c l hB p m z y la s1 s3 s4 hC0 hC2 hC3⟩
end Go.Proofs.YtapdekacpecgiaaGreat
