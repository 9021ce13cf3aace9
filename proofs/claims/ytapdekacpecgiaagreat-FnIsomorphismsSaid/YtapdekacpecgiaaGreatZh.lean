import Derived.Test.YtapdekacpecgiaaGreatBi
import Derived.Test.YtapdekacpecgiaaGreatZa
import Derived.Test.YtapdekacpecgiaaGreatVz
namespace Go.Proofs.YtapdekacpecgiaaGreat
open Go.RowKit
set_option linter.unusedSimpArgs false
set_option linter.unusedVariables false
set_option linter.unusedSectionVars false
set_option maxRecDepth 20000
set_option maxHeartbeats 1000000
theorem Ajf:∀ p∈[2,3,5,7],∀ D,D<11→1≤D→∃ k,k<4∧p^k≤D∧D<p^(k+1):=by decide
def tnS (l:List Int) (s:Int×Int):Int×Int:=nextS l (nextS l (nextS l (nextS l s 10) 6) 10) 3
set_option maxHeartbeats 4000000 in
theorem Pf (a:Option Addr) (c:Nat) (l:List Int) (hB:Byt l) (s:Int×Int) (hS:Sok l s) (R:T) (m:Int) (t:List (List Int)) (s1:Int×Int) (hR:PlN R m t) (hn0:nextX l s 10=0) (hC0:AFn Tryz.prog (5000000+222) [.str (.src a c l),SRC a c l (nextS l s 10)] (.tup [R,SRC a c l s1])):AFn Tryz.prog (5000000+170) [.str (.src a c l),.box 155 (.agg [.str (.raw a l.length c),.int .i64 s.1,.int .u64 s.2])] (.tup [R,.box 155 (.agg [.str (.raw a l.length c),.int .i64 s1.1,.int .u64 s1.2])]):=by
 refine gO Tryz.func170 Tryz.ntmps170 (by rw [Tryz.results170]) fun C hP hM hC=>?_
 rcases hR with ⟨rfl|⟨k,h,L,k1,k2,k3,k4,rfl⟩,_⟩|⟨rfl,_⟩
 ·have zq1:=Ag a c l hB s hS 10
  (repeat (first|((with_reducible refine rC rfl fun K hK=>?_);simp only [go_sem,seval,↓reduceIte,hn0];(first|refine hK _ _ _ ?_|refine ⟨_,zq1,hK _ _ _ ?_⟩|refine ⟨_,hC0,hK _ _ _ ?_⟩);clear hK K)|refine sT ?_))
  refine rg1 ?_
  rfl
 ·have zq2:=Ag a c l hB s hS 10
  (repeat (first|((with_reducible refine rC rfl fun K hK=>?_);simp only [go_sem,seval,↓reduceIte,hn0];(first|refine hK _ _ _ ?_|refine ⟨_,zq2,hK _ _ _ ?_⟩|refine ⟨_,hC0,hK _ _ _ ?_⟩);clear hK K)|refine sT ?_))
  refine rg1 ?_
  rfl
 ·have zq3:=Ag a c l hB s hS 10
  (repeat (first|((with_reducible refine rC rfl fun K hK=>?_);simp only [go_sem,seval,↓reduceIte,hn0];(first|refine hK _ _ _ ?_|refine ⟨_,zq3,hK _ _ _ ?_⟩|refine ⟨_,hC0,hK _ _ _ ?_⟩);clear hK K)|refine sT ?_))
  refine rg1 ?_
  rfl
set_option maxHeartbeats 8000000 in
theorem Ow (a:Option Addr) (c:Nat) (l:List Int) (hB:Byt l) (s:Int×Int) (hS:Sok l s) (p D i k:Nat) (h0:¬ nextX l s 10=0) (hp:pickX l (nextS l s 10) [2,2,3,3,5,7]=(p:Int)) (hp1:2≤p) (hp2:p≤7) (hD:1+nextX l (nextS l (nextS l s 10) 6) 10=(D:Int)) (h1:1≤D) (hD2:D≤10) (hk:p^k≤D) (hk2:D<p^(k+1)) (hk3:k≤3) (hx:nextX l (nextS l (nextS l (nextS l s 10) 6) 10) 3=0) (hi:nextX l (tnS l s) 3=(i:Int)) (hi2:i<3):AFn Tryz.prog (5000000+170) [.str (.src a c l),.box 155 (.agg [.str (.raw a l.length c),.int .i64 s.1,.int .u64 s.2])] (.tup [.agg [.int .i64 (p:Int),.sl true 27 (rowsO (inC (p:Int) (pc (tyL p (p:Int) ([0,0,0].set i 1) D k)) (dcL l (p:Int) (nextS l (tnS l s) 3) (D-1)) D))],.box 155 (.agg [.str (.raw a l.length c),.int .i64 (dcS l (p:Int) (nextS l (tnS l s) 3) (D-1)).1,.int .u64 (dcS l (p:Int) (nextS l (tnS l s) 3) (D-1)).2])]):=by
 refine gO Tryz.func170 Tryz.ntmps170 (by rw [Tryz.results170]) fun C hP hM hC=>?_
 have q1:=Al hS 10
 have q2:=Al q1 6
 have q3:=Al q2 10
 have q4:Sok l (tnS l s):=Al q3 3
 have q5:=Al q4 3
 have e1:IntKind.i64.wrap (1+nextX l (nextS l (nextS l s 10) 6) 10)=(D:Int):=by rw [hD];exact wid _ (by omega) (by omega)
 have cL:=Tf p (p:Int) D k ([0,0,0].set i 1) hp1 hp2 (by omega) (by omega) h1 hD2 hk hk2 hk3 (by rw [List.length_set];decide)
 have b:=Ait (m:=(p:Int)) hp1 hp2 (by omega) (by omega) hk hD2
 have pT:Pl (p:Int) (D+1) (tyL p (p:Int) ([0,0,0].set i 1) D k):=Akg (by omega) (Vq b.2.2.1 (D-1))
 have f:=Qh hB (m:=(p:Int)) (by omega) (nextS l (tnS l s) 3) (D-1)
 have cJ:=E1 (p:Int) (tyL p (p:Int) ([0,0,0].set i 1) D k) (dcL l (p:Int) (nextS l (tnS l s) 3) (D-1)) D (by omega) (by omega) pT f.2.1 (by omega) f.2.2.1 h1 (by omega)
 have eZ:[T.int .i64 0,T.int .i64 0,T.int .i64 0]=intL [0,0,0]:=rfl
 generalize hT:tyL p (p:Int) ([0,0,0].set i 1) D k=t at *
 have hll:([0,0,0]:List Int).length=3:=rfl
 have zq1:nextS l (nextS l (nextS l (nextS l s 10) 6) 10) 3=tnS l s:=rfl;have zq2:(i:Int)<((3:Nat):Int):=(by omega);have zq3:(i:Int)<3:=(by omega);have zq4:=Ae [0,0,0] i hi2;have zq5:=Aa [0,0,0] i (Nat.le_of_lt hi2);have zq6:=Ag a c l hB s hS 10
 (repeat (first|((with_reducible refine rC rfl fun K hK=>?_);simp only [go_sem,seval,↓reduceIte,beqF h0,e1,hp,hx,zq1,hi,eZ,hll,zq2,zq3,Int.natCast_nonneg,Int.toNat_natCast,Nat.mul_one,zq4,zq5,Ax];(first|refine hK _ _ _ ?_|refine ⟨_,zq6,hK _ _ _ ?_⟩|refine ⟨_,Cd a c l hB _ q1 [2,2,3,3,5,7] (by simp) (by simp),hK _ _ _ ?_⟩|refine ⟨_,Ag a c l hB _ q2 10,hK _ _ _ ?_⟩|refine ⟨_,Ag a c l hB _ q3 3,hK _ _ _ ?_⟩|refine ⟨_,Ag a c l hB _ q4 3,hK _ _ _ ?_⟩|refine ⟨_,cL,hK _ _ _ ?_⟩|refine ⟨_,E2 a c l hB _ q5 (p:Int) D (by omega) (by omega) h1 (by omega),hK _ _ _ ?_⟩|refine ⟨_,cJ,hK _ _ _ ?_⟩|refine ⟨_,Ec _ _,hK _ _ _ ?_⟩);clear hK K)|refine sT ?_))
 refine rg1 ?_
 rfl
set_option maxHeartbeats 4000000 in
theorem Ot (a:Option Addr) (c:Nat) (l:List Int) (hB:Byt l) (s:Int×Int) (hS:Sok l s) (p D:Nat) (t:List (List Int)) (s1:Int×Int) (h0:¬ nextX l s 10=0) (hp:pickX l (nextS l s 10) [2,2,3,3,5,7]=(p:Int)) (hD:1+nextX l (nextS l (nextS l s 10) 6) 10=(D:Int)) (hD2:D≤10) (hx:¬ nextX l (nextS l (nextS l (nextS l s 10) 6) 10) 3=0) (hC0:AFn Tryz.prog (5000000+226) [.str (.src a c l),SRC a c l (tnS l s),.int .i64 p,.int .i64 D] (.tup [.agg [.int .i64 (p:Int),.sl true 27 (rowsO t)],SRC a c l s1])):AFn Tryz.prog (5000000+170) [.str (.src a c l),.box 155 (.agg [.str (.raw a l.length c),.int .i64 s.1,.int .u64 s.2])] (.tup [.agg [.int .i64 (p:Int),.sl true 27 (rowsO t)],.box 155 (.agg [.str (.raw a l.length c),.int .i64 s1.1,.int .u64 s1.2])]):=by
 refine gO Tryz.func170 Tryz.ntmps170 (by rw [Tryz.results170]) fun C hP hM hC=>?_
 have q1:=Al hS 10
 have q2:=Al q1 6
 have q3:=Al q2 10
 have e1:IntKind.i64.wrap (1+nextX l (nextS l (nextS l s 10) 6) 10)=(D:Int):=by rw [hD];exact wid _ (by omega) (by omega)
 have zq1:nextS l (nextS l (nextS l (nextS l s 10) 6) 10) 3=tnS l s:=rfl;have zq2:=Ag a c l hB s hS 10
 (repeat (first|((with_reducible refine rC rfl fun K hK=>?_);simp only [go_sem,seval,↓reduceIte,beqF h0,e1,hp,beqF hx,zq1];(first|refine hK _ _ _ ?_|refine ⟨_,zq2,hK _ _ _ ?_⟩|refine ⟨_,Cd a c l hB _ q1 [2,2,3,3,5,7] (by simp) (by simp),hK _ _ _ ?_⟩|refine ⟨_,Ag a c l hB _ q2 10,hK _ _ _ ?_⟩|refine ⟨_,Ag a c l hB _ q3 3,hK _ _ _ ?_⟩|refine ⟨_,hC0,hK _ _ _ ?_⟩);clear hK K)|refine sT ?_))
 refine rg1 ?_
 rfl
theorem Ab0 {a:Option Addr} {c:Nat} {l:List Int} (hB:Byt l) {s:Int×Int} (hS:Sok l s):∃ R m t s',Shp t∧PlN R m t∧AFn Tryz.prog (5000000+170) [.str (.src a c l),SRC a c l s] (.tup [R,SRC a c l s']):=by
 have q1:=Al hS 10
 by_cases h0:nextX l s 10=0
 ·obtain ⟨R,m,t,s1,_,hsh,hR,hC0⟩:=On (a:=a) (c:=c) hB q1
  exact ⟨R,m,t,s1,hsh,hR,Pf a c l hB s hS R m t s1 hR h0 hC0⟩
 have hpk:=Ii hB (nextS l s 10) [2,2,3,3,5,7] (by simp)
 have q2:=Al q1 6
 have hd:=Bh hB (nextS l (nextS l s 10) 6) 10
 have hd2:=hd.2.1 (by decide)
 obtain ⟨D,hD⟩:∃ D:Nat,1+nextX l (nextS l (nextS l s 10) 6) 10=(D:Int):=⟨(1+nextX l (nextS l (nextS l s 10) 6) 10).toNat,by omega⟩
 simp only [List.mem_cons,List.not_mem_nil,or_false] at hpk
 obtain ⟨p,hp⟩:∃ p:Nat,pickX l (nextS l s 10) [2,2,3,3,5,7]=(p:Int):=⟨(pickX l (nextS l s 10) [2,2,3,3,5,7]).toNat,by omega⟩
 have hpm:p∈[2,3,5,7]:=by
  simp only [List.mem_cons,List.not_mem_nil,or_false]
  omega
 have hp27:2≤p∧p≤7:=by
  simp only [List.mem_cons,List.not_mem_nil,or_false] at hpm
  omega
 have q4:Sok l (tnS l s):=Al (Al q2 10) 3
 by_cases hx:nextX l (nextS l (nextS l (nextS l s 10) 6) 10) 3=0
 ·obtain ⟨k,k1,k2,k3⟩:=Ajf p hpm D (by omega) (by omega)
  have hi:=Bh hB (tnS l s) 3
  have hi2:=hi.2.1 (by decide)
  obtain ⟨i,ei⟩:∃ i:Nat,nextX l (tnS l s) 3=(i:Int):=⟨(nextX l (tnS l s) 3).toNat,by omega⟩
  have hpl:=Qi (m:=(p:Int)) (by omega) (pc (tyL p (p:Int) ([0,0,0].set i 1) D k)) (dcL l (p:Int) (nextS l (tnS l s) 3) (D-1)) D
  exact ⟨_,_,_,_,hpl.shp (by omega),.inl ⟨.inl rfl,by rw [hpl.len];omega⟩,Ow a c l hB s hS p D i k h0 hp hp27.1 hp27.2 hD (by omega) (by omega) k2 k3 (by omega) hx ei (by omega)⟩
 ·obtain ⟨t,s1,_,ht,hC0⟩:=H3 (a:=a) (c:=c) hB q4 (p:Int) D (by omega) (by omega) (by omega) (by omega)
  exact ⟨_,_,t,s1,ht.shp (by omega),.inl ⟨.inl rfl,by rw [ht.len];omega⟩,Ot a c l hB s hS p D t s1 h0 hp hD (by omega) hx hC0⟩
theorem Lv (a:Option Addr) (c:Nat) (l:List Int) (hB:Byt l) (R:T) (m:Int) (t:List (List Int)) (s1:Int×Int) (hR:PlN R m t) (hC0:AFn Tryz.prog (5000000+170) [.str (.src a c l),SRC a c l (from0 l)] (.tup [R,SRC a c l s1])):AFn Tryz.prog 68 [.str (.src a c l)] (R):=by
 refine fO Tryz.func68 Tryz.ntmps68 (by rw [Tryz.results68]) fun C hP hM hC=>?_
 refine AWP.ghost (t:=0) rfl rfl ?_
 rcases hR with ⟨rfl|⟨k,h,L,k1,k2,k3,k4,rfl⟩,_⟩|⟨rfl,_⟩
 ·have zq1:=Eg a c l hB
  (repeat (first|((with_reducible refine rC rfl fun K hK=>?_);simp only [go_sem,seval,↓reduceIte];(first|refine hK _ _ _ ?_|refine ⟨_,zq1,hK _ _ _ ?_⟩|refine ⟨_,hC0,hK _ _ _ ?_⟩);clear hK K)|refine sT ?_))
  refine rt1 ?_
  rfl
 ·have zq2:=Eg a c l hB
  (repeat (first|((with_reducible refine rC rfl fun K hK=>?_);simp only [go_sem,seval,↓reduceIte];(first|refine hK _ _ _ ?_|refine ⟨_,zq2,hK _ _ _ ?_⟩|refine ⟨_,hC0,hK _ _ _ ?_⟩);clear hK K)|refine sT ?_))
  refine rt1 ?_
  rfl
 ·have zq3:=Eg a c l hB
  (repeat (first|((with_reducible refine rC rfl fun K hK=>?_);simp only [go_sem,seval,↓reduceIte];(first|refine hK _ _ _ ?_|refine ⟨_,zq3,hK _ _ _ ?_⟩|refine ⟨_,hC0,hK _ _ _ ?_⟩);clear hK K)|refine sT ?_))
  refine rt1 ?_
  rfl
theorem Ph {a:Option Addr} {c:Nat} {l:List Int} (hB:Byt l):∃ R m t,Shp t∧PlN R m t∧AFn Tryz.prog 68 [.str (.src a c l)] R:=by
 obtain ⟨R,m,t,s1,hsh,hR,hC0⟩:=Ab0 (a:=a) (c:=c) hB (O9 l)
 exact ⟨R,m,t,hsh,hR,Lv a c l hB R m t s1 hR hC0⟩
def smM (l:List Int):Int:=if nextX l (nextS l (nextS l (from0 l) 6) 5) 16=0 then 101 else pickX l (from0 l) [2,2,3,3,4,5]
def smS (l:List Int):Int×Int:=nextS l (nextS l (nextS l (from0 l) 6) 5) 16
set_option maxHeartbeats 16000000 in
theorem Px (a:Option Addr) (c:Nat) (l:List Int) (hB:Byt l) (D:Nat) (t1 t2 tg lf:List (List Int)) (s5 s6 s8:Int×Int) (RR:T) (n:Int) (lg:List (List Int)) (hm:1<smM l) (hm2:smM l≤10000) (h1:1≤D) (hD:D≤10) (eD:1+nextX l (nextS l (from0 l) 6) 5=(D:Int)) (p1:Pl (smM l) (D+1) t1) (q5:Sok l s5) (q6:Sok l s6) (q8:Sok l s8) (hW1:AFn Tryz.prog (5000000+226) [.str (.src a c l),SRC a c l (smS l),.int .i64 (smM l),.int .i64 D] (.tup [.agg [.int .i64 (smM l),.sl true 27 (rowsO t1)],SRC a c l s5])) (hW2:AFn Tryz.prog (5000000+226) [.str (.src a c l),SRC a c l s5,.int .i64 (smM l),.int .i64 D] (.tup [.agg [.int .i64 (smM l),.sl true 27 (rowsO t2)],SRC a c l s6])) (hg:(nextX l s6 2=0∧tg=inC (smM l) (pc t1) (dcL l (smM l) (nextS l s6 2) (D-1)) D∧s8=dcS l (smM l) (nextS l s6 2) (D-1))∨(¬ nextX l s6 2=0∧tg=t2∧s8=nextS l s6 2)) (hx:(nextX l s8 30=0∧lf=t1∧PlN RR n lg∧∃ s9,AFn Tryz.prog (5000000+222) [.str (.src a c l),SRC a c l (nextS l s8 30)] (.tup [RR,SRC a c l s9]))∨(nextX l s8 30=1∧lf=put2 t1 0 1 0∧RR=(.agg [.int .i64 (smM l),.sl true 27 (rowsO tg)]))∨(¬ nextX l s8 30=0∧¬ nextX l s8 30=1∧lf=t1∧RR=(.agg [.int .i64 (smM l),.sl true 27 (rowsO tg)]))):AFn Tryz.prog 162 [.str (.src a c l)] (.tup [.agg [.int .i64 (smM l),.sl true 27 (rowsO lf)],RR]):=by
 refine fO Tryz.func162 Tryz.ntmps162 (by rw [Tryz.results162]) fun C hP hM hC=>?_
 have q0:=O9 l
 have q1:=Al q0 6
 have q2:=Al q1 5
 have e1:IntKind.i64.wrap (1+nextX l (nextS l (from0 l) 6) 5)=(D:Int):=by rw [eD];exact wid _ (by omega) (by omega)
 refine AWP.ghost (t:=0) rfl rfl ?_
 refine AWP.tailR 4 [(2,⟨1,.own (.box 26 (.agg [.int .i64 0,.nil]))⟩),(3,⟨1,.own (.box 26 (.agg [.int .i64 0,.nil]))⟩),(4,⟨0,.val (.addr 10 1 [] 0 [0])⟩),(5,⟨0,.val (.int .i64 (smM l))⟩),(6,⟨0,.val (.int .i64 D)⟩),(10,⟨1,.own (.box 155 (.agg [.str (.raw a l.length c),.int .i64 (smS l).1,.int .u64 (smS l).2]))⟩),(3000000,⟨0,.val (.str (.src a c l))⟩)] ?_ (fun R tail=>?_)
 ·simp only [dropSeq]
  refine AWP.tailC (J:=Nat) 3 (fun v=>[(2,⟨1,.own (.box 26 (.agg [.int .i64 0,.nil]))⟩),(3,⟨1,.own (.box 26 (.agg [.int .i64 0,.nil]))⟩),(4,⟨0,.val (.addr 10 1 [] 0 [0])⟩),(7,⟨2,.own (.box 26 (.agg [.int .i64 (smM l),.sl true 27 (rowsO t1)]))⟩),(8,⟨v,.own (.box 26 (.agg [.int .i64 (smM l),.sl true 27 (rowsO tg)]))⟩),(10,⟨1,.own (.box 155 (.agg [.str (.raw a l.length c),.int .i64 (s8).1,.int .u64 (s8).2]))⟩),(3000000,⟨0,.val (.str (.src a c l))⟩)]) (fun _=>True) (fun v _=>?_) (fun R tail=>?_)
  ·simp only [dropSeq]
   clear hW1 hW2 hg e1 eD q0 q1 q2 q5 q6
   have cN:=Ag a c l hB s8 q8 30
   rcases hx with ⟨x0,rfl,hR,s9,hC0⟩|⟨x0,rfl,rfl⟩|⟨x0,x1,rfl,rfl⟩
   ·rcases hR with ⟨rfl|⟨k,h,L,k1,k2,k3,k4,rfl⟩,_⟩|⟨rfl,_⟩
    ·(repeat (first|((with_reducible refine rC rfl fun K hK=>?_);simp only [go_sem,seval,↓reduceIte,x0,beq_self_eq_true];(first|refine hK _ _ _ ?_|refine ⟨_,cN,hK _ _ _ ?_⟩|refine ⟨_,hC0,hK _ _ _ ?_⟩);clear hK K)|refine sT ?_))
     refine rt2 ?_
     rfl
    ·(repeat (first|((with_reducible refine rC rfl fun K hK=>?_);simp only [go_sem,seval,↓reduceIte,x0,beq_self_eq_true];(first|refine hK _ _ _ ?_|refine ⟨_,cN,hK _ _ _ ?_⟩|refine ⟨_,hC0,hK _ _ _ ?_⟩);clear hK K)|refine sT ?_))
     refine rt2 ?_
     rfl
    ·(repeat (first|((with_reducible refine rC rfl fun K hK=>?_);simp only [go_sem,seval,↓reduceIte,x0,beq_self_eq_true];(first|refine hK _ _ _ ?_|refine ⟨_,cN,hK _ _ _ ?_⟩|refine ⟨_,hC0,hK _ _ _ ?_⟩);clear hK K)|refine sT ?_))
     refine rt2 ?_
     rfl
   ·have zq1:((1:Int)==0)=false:=rfl;have zq2:((1:Int)==1)=true:=rfl;have zq3:(0:Int)<((D+1:Nat):Int):=(by omega);have zq4:(1:Int)<((D+1-0:Nat):Int):=(by omega);have zq5:(1:Int)<((D+1:Nat):Int):=(by omega);have zq6:(0:Int)≤1:=(by omega);have zq7:(1:Int).toNat=1:=rfl;have zq8:=Aj (t1) (0) (by rw [(p1).len];omega);have zq9:=Ap (t1) (0) (by rw [(p1).len];omega);have zq10:=Bw (t1) (0) (1) (0) (by rw [(p1).len];omega)
    (repeat (first|((with_reducible refine rC rfl fun K hK=>?_);simp only [go_sem,seval,↓reduceIte,x0,zq1,zq2,zq3,zq4,zq5,Int.natCast_nonneg,Int.toNat_natCast,Nat.mul_one,Int.le_refl,Int.toNat_zero,List.take_zero,Nat.zero_mul,zq6,zq7,Nat.sub_zero,Af,(p1).len,zq8,zq9,(p1).row (0) (by omega),Ae ((t1).getD (0) []) (1) (by rw [(p1).row _ (by omega)];omega),Aa ((t1).getD (0) []) (1) (by rw [(p1).row _ (by omega)];omega),zq10];(first|refine hK _ _ _ ?_|refine ⟨_,cN,hK _ _ _ ?_⟩);clear hK K)|refine sT ?_))
    refine rt2 ?_
    rfl
   ·have zq11:(nextX l s8 30==0)=false:=(by rw [beq_eq_false_iff_ne];exact x0);have zq12:(nextX l s8 30==1)=false:=(by rw [beq_eq_false_iff_ne];exact x1)
    (repeat (first|((with_reducible refine rC rfl fun K hK=>?_);simp only [go_sem,seval,↓reduceIte,zq11,zq12];(first|refine hK _ _ _ ?_|refine ⟨_,cN,hK _ _ _ ?_⟩);clear hK K)|refine sT ?_))
    refine rt2 ?_
    rfl
  ·simp only [putSeq]
   clear hx e1 eD q0 q1 q2
   have cN:=Ag a c l hB s6 q6 2
   have cM:=Ec (smM l) tg
   rcases hg with ⟨g0,rfl,rfl⟩|⟨g0,rfl,rfl⟩
   ·have f:=Qh hB hm (nextS l s6 2) (D-1)
    have cD:=E2 a c l hB _ (Al q6 2) (smM l) D hm hm2 h1 (by omega)
    have cJ:=E1 (smM l) t1 (dcL l (smM l) (nextS l s6 2) (D-1)) D hm hm2 p1 f.2.1 (by omega) f.2.2.1 h1 (by omega)
    (repeat (first|((with_reducible refine rC rfl fun K hK=>?_);simp only [go_sem,seval,↓reduceIte,g0,beq_self_eq_true];(first|refine hK _ _ _ ?_|refine ⟨_,hW1,hK _ _ _ ?_⟩|refine ⟨_,hW2,hK _ _ _ ?_⟩|refine ⟨_,cN,hK _ _ _ ?_⟩|refine ⟨_,cD,hK _ _ _ ?_⟩|refine ⟨_,cJ,hK _ _ _ ?_⟩|refine ⟨_,cM,hK _ _ _ ?_⟩);clear hK K)|refine sT ?_))
    refine AWP.sub ?_ (by rfl) (tail 3 trivial)
    simp [Sub,lk]
   ·have zq13:(nextX l s6 2==0)=false:=(by rw [beq_eq_false_iff_ne];exact g0)
    (repeat (first|((with_reducible refine rC rfl fun K hK=>?_);simp only [go_sem,seval,↓reduceIte,zq13];(first|refine hK _ _ _ ?_|refine ⟨_,hW1,hK _ _ _ ?_⟩|refine ⟨_,hW2,hK _ _ _ ?_⟩|refine ⟨_,cN,hK _ _ _ ?_⟩);clear hK K)|refine sT ?_))
    refine AWP.sub ?_ (by rfl) (tail 2 trivial)
    simp [Sub,lk]
 ·simp only [putSeq]
  have cN:=Ag a c l hB _ q2 16
  clear hx hg hW1 hW2
  by_cases h:nextX l (nextS l (nextS l (from0 l) 6) 5) 16=0
  ·have eM:(101:Int)=smM l:=by rw [smM,if_pos h]
   have zq14:=Eg a c l hB
   (repeat (first|((with_reducible refine rC rfl fun K hK=>?_);simp only [go_sem,seval,↓reduceIte,e1,h,beq_self_eq_true];(first|refine hK _ _ _ ?_|refine ⟨_,zq14,hK _ _ _ ?_⟩|refine ⟨_,Cd a c l hB _ q0 [2,2,3,3,4,5] (by simp) (by simp),hK _ _ _ ?_⟩|refine ⟨_,Ag a c l hB _ q1 5,hK _ _ _ ?_⟩|refine ⟨_,cN,hK _ _ _ ?_⟩);clear hK K)|refine sT ?_))
   rw [eM]
   refine AWP.sub ?_ (by rfl) tail
   simp [Sub,lk,smS]
  ·have eM:pickX l (from0 l) [2,2,3,3,4,5]=smM l:=by rw [smM,if_neg h]
   have zq15:(nextX l (nextS l (nextS l (from0 l) 6) 5) 16==0)=false:=(by rw [beq_eq_false_iff_ne];exact h);have zq16:=Eg a c l hB
   (repeat (first|((with_reducible refine rC rfl fun K hK=>?_);simp only [go_sem,seval,↓reduceIte,e1,eM,zq15];(first|refine hK _ _ _ ?_|refine ⟨_,zq16,hK _ _ _ ?_⟩|refine ⟨_,Cd a c l hB _ q0 [2,2,3,3,4,5] (by simp) (by simp),hK _ _ _ ?_⟩|refine ⟨_,Ag a c l hB _ q1 5,hK _ _ _ ?_⟩|refine ⟨_,cN,hK _ _ _ ?_⟩);clear hK K)|refine sT ?_))
   refine AWP.sub ?_ (by rfl) tail
   simp [Sub,lk,smS]
theorem Xd {a:Option Addr} {c:Nat} {l:List Int} (hB:Byt l):∃ m lf R n lg,Shp lf∧1≤lf.length∧Shp lg∧PlN R n lg∧AFn Tryz.prog 162 [.str (.src a c l)] (.tup [.agg [.int .i64 m,.sl true 27 (rowsO lf)],R]):=by
 have q0:=O9 l
 have hpk:=Ii hB (from0 l) [2,2,3,3,4,5] (by simp)
 simp only [List.mem_cons,List.not_mem_nil,or_false] at hpk
 have hm:1<smM l∧smM l≤10000:=by
  unfold smM
  split <;> omega
 have hd:=Bh hB (nextS l (from0 l) 6) 5
 have hd2:=hd.2.1 (by decide)
 obtain ⟨D,hD⟩:∃ D:Nat,1+nextX l (nextS l (from0 l) 6) 5=(D:Int):=⟨(1+nextX l (nextS l (from0 l) 6) 5).toNat,by omega⟩
 have q4:Sok l (smS l):=Al (Al (Al q0 6) 5) 16
 obtain ⟨t1,s5,q5,p1,hW1⟩:=H3 (a:=a) (c:=c) hB q4 (smM l) D hm.1 hm.2 (by omega) (by omega)
 obtain ⟨t2,s6,q6,p2,hW2⟩:=H3 (a:=a) (c:=c) hB q5 (smM l) D hm.1 hm.2 (by omega) (by omega)
 obtain ⟨tg,s8,q8,pg,hg⟩:∃ tg s8,Sok l s8∧Pl (smM l) (D+1) tg∧((nextX l s6 2=0∧tg=inC (smM l) (pc t1) (dcL l (smM l) (nextS l s6 2) (D-1)) D∧s8=dcS l (smM l) (nextS l s6 2) (D-1))∨(¬ nextX l s6 2=0∧tg=t2∧s8=nextS l s6 2)):=by
  by_cases g0:nextX l s6 2=0
  ·exact ⟨_,_,Qg (Al q6 2) _,Qi (by omega) _ _ _,.inl ⟨g0,rfl,rfl⟩⟩
  ·exact ⟨_,_,Al q6 2,p2,.inr ⟨g0,rfl,rfl⟩⟩
 have mk:∀ (lf:List (List Int)) (RR:T) (n:Int) (lg:List (List Int)),_→_:=fun lf RR n lg hx=>Px a c l hB D t1 t2 tg lf s5 s6 s8 RR n lg hm.1 hm.2 (by omega) (by omega) hD p1 q5 q6 q8 hW1 hW2 hg hx
 by_cases x0:nextX l s8 30=0
 ·obtain ⟨R,n,lg,s9,_,hsh,hR,hC0⟩:=On (a:=a) (c:=c) hB (Al q8 30)
  exact ⟨smM l,t1,R,n,lg,p1.shp (by omega),by rw [p1.len];omega,hsh,hR,mk t1 R n lg (.inl ⟨x0,rfl,hR,s9,hC0⟩)⟩
 by_cases x1:nextX l s8 30=1
 ·have pp:=p1.put (show (0:Int)≤0∧(0:Int)<smM l by omega) 0 1
  exact ⟨smM l,put2 t1 0 1 0,_,smM l,tg,pp.shp (by omega),by rw [pp.len];omega,pg.shp (by omega),.inl ⟨.inl rfl,by rw [pg.len];omega⟩,mk (put2 t1 0 1 0) _ (smM l) tg (.inr (.inl ⟨x1,rfl,rfl⟩))⟩
 ·exact ⟨smM l,t1,_,smM l,tg,p1.shp (by omega),by rw [p1.len];omega,pg.shp (by omega),.inl ⟨.inl rfl,by rw [pg.len];omega⟩,mk t1 _ (smM l) tg (.inr (.inr ⟨x0,x1,rfl,rfl⟩))⟩
theorem Gx (a:Option Addr) (c:Nat) (l:List Int) (m:Int) (lf:List (List Int)) (R:T) (n:Int) (lg:List (List Int)) (hR:PlN R n lg) (hC0:AFn Tryz.prog 162 [.str (.src a c l)] (.tup [.agg [.int .i64 m,.sl true 27 (rowsO lf)],R])):AFn Tryz.prog 62 [.str (.src a c l)] (.tup [.agg [.int .i64 m,.sl true 27 (rowsO lf)],R]):=by
 refine fO Tryz.func62 Tryz.ntmps62 (by rw [Tryz.results62]) fun C hP hM hC=>?_
 rcases hR with ⟨rfl|⟨k,h,L,k1,k2,k3,k4,rfl⟩,_⟩|⟨rfl,_⟩
 ·(repeat (first|((with_reducible refine rC rfl fun K hK=>?_);simp only [go_sem,seval,↓reduceIte];(first|refine hK _ _ _ ?_|refine ⟨_,hC0,hK _ _ _ ?_⟩);clear hK K)|refine sT ?_))
  refine rt2 ?_
  rfl
 ·(repeat (first|((with_reducible refine rC rfl fun K hK=>?_);simp only [go_sem,seval,↓reduceIte];(first|refine hK _ _ _ ?_|refine ⟨_,hC0,hK _ _ _ ?_⟩);clear hK K)|refine sT ?_))
  refine rt2 ?_
  rfl
 ·(repeat (first|((with_reducible refine rC rfl fun K hK=>?_);simp only [go_sem,seval,↓reduceIte];(first|refine hK _ _ _ ?_|refine ⟨_,hC0,hK _ _ _ ?_⟩);clear hK K)|refine sT ?_))
  refine rt2 ?_
  rfl
theorem Ix {a:Option Addr} {c:Nat} {l:List Int} (hB:Byt l):∃ m lf R n lg,Shp lf∧1≤lf.length∧Shp lg∧PlN R n lg∧AFn Tryz.prog 62 [.str (.src a c l)] (.tup [.agg [.int .i64 m,.sl true 27 (rowsO lf)],R]):=by
 obtain ⟨m,lf,R,n,lg,h1,h2,h3,hR,hC0⟩:=Xd (a:=a) (c:=c) hB
 exact ⟨m,lf,R,n,lg,h1,h2,h3,hR,Gx a c l m lf R n lg hR hC0⟩
end Go.Proofs.YtapdekacpecgiaaGreat
