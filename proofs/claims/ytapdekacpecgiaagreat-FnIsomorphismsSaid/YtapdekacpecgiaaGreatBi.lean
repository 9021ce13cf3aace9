import Derived.Test.YtapdekacpecgiaaGreatBh
import Derived.Test.YtapdekacpecgiaaGreatBgw
import Derived.Test.YtapdekacpecgiaaGreatIa
import Derived.Test.YtapdekacpecgiaaGreatIa
namespace Go.Proofs.YtapdekacpecgiaaGreat
open Go.RowKit
set_option linter.unusedSimpArgs false
set_option linter.unusedVariables false
set_option linter.unusedSectionVars false
set_option maxRecDepth 20000
set_option maxHeartbeats 1000000
theorem AWP.tailC {C:Ctx} {n:Nat} {Q:Exit→Env→Prop} {env:Env} {c:Code} {J:Type} (k:Nat) (E:J→Env) (p:J→Prop) (h:∀ j,p j→AWP C n (dropSeq k c) Q (E j)) (h2:∀ R,(∀ j,p j→AWP C n R Q (E j))→AWP C n (putSeq k R c) Q env):AWP C n c Q env:=by
 have h3:=h2 _ h
 rwa [Jp] at h3
theorem Shp.nine {t:List (List Int)} (h:Shp t):t.length≤1000∧∀ i,(t.getD i []).length≤1000:=⟨h.1,fun i=>by
 by_cases hi:i<t.length
 ·exact (h.row hi).1
 ·rw [List.getD_eq_getElem?_getD,List.getElem?_eq_none (by omega)];exact Nat.zero_le _⟩
def mdM (l:List Int) (s:Int×Int):Int:=pickX l (nextS l s 60) [2,3,5,7,4,9,8,6,11,101,9973,2+nextX l s 60]
def mdS (l:List Int) (s:Int×Int):Int×Int:=nextS l (nextS l s 60) 12
theorem Alq {l:List Int} (hB:Byt l) (s:Int×Int):1<mdM l s∧mdM l s≤9973:=by
 have h1:=Bh hB s 60
 have h2:=h1.2.1 (by decide)
 have:=Ii hB (nextS l s 60) [2,3,5,7,4,9,8,6,11,101,9973,2+nextX l s 60] (by simp)
 simp only [List.mem_cons,List.not_mem_nil,or_false] at this
 rw [mdM]
 omega
theorem Ka (a:Option Addr) (c:Nat) (l:List Int) (hB:Byt l) (s:Int×Int) (hS:Sok l s)  : AFn Tryz.prog (5000000+137) [.str (.src a c l),.box 155 (.agg [.str (.raw a l.length c),.int .i64 s.1,.int .u64 s.2])] (.tup [.int .i64 (mdM l s),.box 155 (.agg [.str (.raw a l.length c),.int .i64 (mdS l s).1,.int .u64 (mdS l s).2])]):=by
 refine gO Tryz.func137 Tryz.ntmps137 (by rw [Tryz.results137]) fun C hP hM hC=>?_
 have h1:=Bh hB s 60
 have h3:=h1.2.1 (by decide)
 have zq1:=wid (2+nextX l s 60) (by omega) (by omega);have zq2:=Ag a c l hB s hS 60;have zq3:=Cd a c l hB (nextS l s 60) (Al hS 60) [2,3,5,7,4,9,8,6,11,101,9973,2+nextX l s 60] (by simp) (by simp)
 (repeat (first|((with_reducible refine rC rfl fun K hK=>?_);simp only [go_sem,seval,↓reduceIte,zq1];(first|refine hK _ _ _ ?_|refine ⟨_,zq2,hK _ _ _ ?_⟩|refine ⟨_,zq3,hK _ _ _ ?_⟩);clear hK K)|refine sT ?_))
 refine rg1 ?_
 rfl
def dcX (l:List Int) (m:Int) (s:Int×Int):Int:=pickX l (nextS l (nextS l s m) m) [0,0,nextX l s m,nextX l (nextS l s m) m]
def dcS (l:List Int) (m:Int) (s:Int×Int):Nat→Int×Int
 | 0=>s
 | i+1=>nextS l (nextS l (nextS l (dcS l m s i) m) m) 4
def dcL (l:List Int) (m:Int) (s:Int×Int):Nat→List Int
 | 0=>[0,1]
 | i+1=>dcL l m s i++[dcX l m (dcS l m s i)]
theorem Qg {l:List Int} {m:Int} {s:Int×Int} (hS:Sok l s):∀ n,Sok l (dcS l m s n)
 | 0=>hS
 | n+1=>Al (Al (Al (Qg hS n) m) m) 4
theorem Qh {l:List Int} (hB:Byt l) {m:Int} (hm:1<m) (s:Int×Int):∀ n,(dcL l m s n).length=n+2∧(∀ x∈dcL l m s n,0≤x∧x<m)∧at' (dcL l m s n) 0=0∧at' (dcL l m s n) 1=1
 | 0=>⟨rfl,fun x hx=>by
  rw [dcL] at hx
  simp only [List.mem_cons,List.not_mem_nil,or_false] at hx
  omega,rfl,rfl⟩
 | n+1=>by
  have ih:=Qh hB hm s n
  have h1:=Bh hB (dcS l m s n) m
  have h2:=h1.2.1 (by omega)
  have h3:=Bh hB (nextS l (dcS l m s n) m) m
  have h4:=h3.2.1 (by omega)
  have ha:∀ j,j<n+2→at' (dcL l m s n++[dcX l m (dcS l m s n)]) j=at' (dcL l m s n) j:=fun j hj=>by
   rw [at',at',List.getD_eq_getElem?_getD,List.getD_eq_getElem?_getD,List.getElem?_append_left (by omega)]
  refine ⟨by rw [dcL,List.length_append,ih.1];rfl,Nh ih.2.1 ?_,by rw [dcL,ha 0 (by omega)];exact ih.2.2.1,by rw [dcL,ha 1 (by omega)];exact ih.2.2.2⟩
  have:=Ii hB (nextS l (nextS l (dcS l m s n) m) m) [0,0,nextX l (dcS l m s n) m,nextX l (nextS l (dcS l m s n) m) m] (by simp)
  simp only [List.mem_cons,List.not_mem_nil,or_false] at this
  rw [dcX]
  omega
set_option maxHeartbeats 2000000 in
theorem E2 (a:Option Addr) (c:Nat) (l:List Int) (hB:Byt l) (s:Int×Int) (hS:Sok l s) (m:Int) (D:Nat) (hm:1<m) (hm2:m≤10000) (h1:1≤D) (hD:D≤100):AFn Tryz.prog (5000000+138) [.str (.src a c l),.box 155 (.agg [.str (.raw a l.length c),.int .i64 s.1,.int .u64 s.2]),.int .i64 m,.int .i64 D] (.tup [.sl true 2 (intL (dcL l m s (D-1))),.box 155 (.agg [.str (.raw a l.length c),.int .i64 (dcS l m s (D-1)).1,.int .u64 (dcS l m s (D-1)).2])]):=by
 refine gO Tryz.func138 Tryz.ntmps138 (by rw [Tryz.results138]) fun C hP hM hC=>?_
 (repeat (first|((with_reducible refine rC rfl fun K hK=>?_);simp only [go_sem,seval,↓reduceIte];refine hK _ _ _ ?_;clear hK K)|refine sT ?_))
 refine AWP.loop (fun w:Nat×Nat=>[(8,⟨0,.val (.int .i64 (w.1+2:Nat))⟩),(7,⟨w.2,.own (.sl true 2 (intL (dcL l m s w.1)))⟩),(1,⟨0,.val (.int .i64 m)⟩),(2,⟨0,.val (.int .i64 D)⟩),(3000000,⟨0,.val (.str (.src a c l))⟩),(0,⟨0,.val (.addr 3000001 0 [] 0 [0])⟩),(3000001,⟨0,.own (.box 155 (.agg [.str (.raw a l.length c),.int .i64 (dcS l m s w.1).1,.int .u64 (dcS l m s w.1).2]))⟩)]) (fun w=>w.1≤D-1) (fun w=>D-1-w.1) (0,1) (Nat.zero_le _) (fun i=>rfl) ?_ (fun w hw=>?_)
 ·simp [Sub,lk,dcL,dcS,intL]
 ·obtain ⟨i,v⟩:=w
  simp only at hw ⊢
  by_cases hi:i<D-1
  ·have h1:=Qg (m:=m) hS i
   have h2:=Al h1 m
   have h3:=Al h2 m
   have hll:=(Qh hB hm s i).1
   have zq1:((i+2:Nat):Int)≤(D:Int):=(by omega);have zq2:i+2+1≤1099511627776:=(by omega);have zq3:(i+2+1)*8≤140737488355328:=(by omega);have zq4:IntKind.i64.wrap (((i+2:Nat):Int)+1)=((i+1+2:Nat):Int):=(by rw [wid _ (by omega) (by omega)];omega);have zq5:=Ag a c l hB (dcS l m s i) h1 m;have zq6:=Ag a c l hB (nextS l (dcS l m s i) m) h2 m;have zq7:=Cd a c l hB (nextS l (nextS l (dcS l m s i) m) m) h3 [0,0,nextX l (dcS l m s i) m,nextX l (nextS l (dcS l m s i) m) m] (by simp) (by simp)
   (repeat (first|((with_reducible refine rC rfl fun K hK=>?_);simp only [go_sem,seval,↓reduceIte,zq1,Bv,hll,zq2,zq3,zq4];(first|refine hK _ _ _ ?_|refine ⟨_,zq5,hK _ _ _ ?_⟩|refine ⟨_,zq6,hK _ _ _ ?_⟩|refine ⟨_,zq7,hK _ _ _ ?_⟩);clear hK K)|refine sT ?_))
   exact ⟨(i+1,v+1),by simp only;omega,by simp only;omega,by simp [Sub,lk,dcL,dcS,dcX]⟩
  ·obtain rfl:i=D-1:=by omega
   have zq8:¬ ((D-1+2:Nat):Int)≤(D:Int):=(by omega)
   (repeat (first|((with_reducible refine rC rfl fun K hK=>?_);simp only [go_sem,seval,↓reduceIte,zq8];refine hK _ _ _ ?_;clear hK K)|refine sT ?_))
   refine rg1 ?_
   rfl
set_option maxHeartbeats 2000000 in
theorem E1 (m:Int) (t:List (List Int)) (a:List Int) (D:Nat) (hm:1<m) (hm2:m≤10000) (ht:Pl m (D+1) t) (ha:∀ x∈a,0≤x∧x<m) (hal:a.length=D+1) (ha0:at' a 0=0) (h1:1≤D) (hD:D≤999):AFn Tryz.prog 227 [.int .i64 m,.sl false 27 (rowsF t),.sl false 2 (intL a)] (.sl true 27 (rowsO (inC m (pc t) a D))):=by
 refine fO Tryz.func227 Tryz.ntmps227 (by rw [Tryz.results227]) fun C hP hM hC=>?_
 have z:(0:Int)<m:=by omega
 have hu:=Df m (at' a 1) z
 have f:=El z hu a D (D-1)
 have f0:=F0 z hu a (d:=D) (D-1) (by omega)
 have hR:=Np m a D hm hm2 ha hal h1 hD
 have hB2:=Jc m t (rvL m a D) (D+1) hm hm2 ht f.2 f.1 f0.1 (by omega) (by omega)
 have hp:=Rl z (D+1) (pc t) (pwC m (rvL m a D) D) (pwC m (rvL m a D) D)
 have hA:=C9 m a (bthT m (D+1) (pc t) (pwC m (rvL m a D) D) (pwC m (rvL m a D) D)) (D+1) z hm2 hp ha (by omega) (by omega) (by omega)
 rw [Nat.add_sub_cancel] at hB2
 rw [hal] at hA
 have zq1:IntKind.i64.wrap (((D+1:Nat):Int)-1)=(D:Int):=(by rw [wid _ (by omega) (by omega)];omega)
 (repeat (first|((with_reducible refine rC rfl fun K hK=>?_);simp only [go_sem,seval,↓reduceIte,hal,zq1];(first|refine hK _ _ _ ?_|refine ⟨_,hR,hK _ _ _ ?_⟩|refine ⟨_,hB2,hK _ _ _ ?_⟩|refine ⟨_,hA,hK _ _ _ ?_⟩);clear hK K)|refine sT ?_))
 refine rt1 ?_
 rfl
set_option maxHeartbeats 2000000 in
theorem O0 (a:Option Addr) (c:Nat) (l:List Int) (hB:Byt l) (s:Int×Int) (hS:Sok l s) (m:Int) (D:Nat) (t:List (List Int)) (s1:Int×Int) (q1:Sok l s1) (hm:1<m) (hm2:m≤10000) (ht:Pl m (D+1) t) (h1:1≤D) (hD:D≤100) (hC0:AFn Tryz.prog (5000000+257) [.str (.src a c l),SRC a c l s,.int .i64 m,.int .i64 D] (.tup [.sl true 27 (rowsO t),SRC a c l s1])) (h:0<nextX l s1 3):AFn Tryz.prog (5000000+226) [.str (.src a c l),.box 155 (.agg [.str (.raw a l.length c),.int .i64 s.1,.int .u64 s.2]),.int .i64 m,.int .i64 D] (.tup [.agg [.int .i64 m,.sl true 27 (rowsO (inC m (pc t) (dcL l m (nextS l s1 3) (D-1)) D))],.box 155 (.agg [.str (.raw a l.length c),.int .i64 (dcS l m (nextS l s1 3) (D-1)).1,.int .u64 (dcS l m (nextS l s1 3) (D-1)).2])]):=by
 refine gO Tryz.func226 Tryz.ntmps226 (by rw [Tryz.results226]) fun C hP hM hC=>?_
 have f:=Qh hB hm (nextS l s1 3) (D-1)
 have zq1:=E1 m t (dcL l m (nextS l s1 3) (D-1)) D hm hm2 ht f.2.1 (by omega) f.2.2.1 h1 (by omega)
 (repeat (first|((with_reducible refine rC rfl fun K hK=>?_);simp only [go_sem,seval,↓reduceIte,h];(first|refine hK _ _ _ ?_|refine ⟨_,hC0,hK _ _ _ ?_⟩|refine ⟨_,Ag a c l hB _ q1 3,hK _ _ _ ?_⟩|refine ⟨_,E2 a c l hB _ (Al q1 3) m D hm hm2 h1 hD,hK _ _ _ ?_⟩|refine ⟨_,zq1,hK _ _ _ ?_⟩|refine ⟨_,Ec _ _,hK _ _ _ ?_⟩);clear hK K)|refine sT ?_))
 refine rg1 ?_
 rfl
set_option maxHeartbeats 2000000 in
theorem Pd (a:Option Addr) (c:Nat) (l:List Int) (hB:Byt l) (s:Int×Int) (hS:Sok l s) (m:Int) (D:Nat) (t:List (List Int)) (s1:Int×Int) (q1:Sok l s1) (hC0:AFn Tryz.prog (5000000+257) [.str (.src a c l),SRC a c l s,.int .i64 m,.int .i64 D] (.tup [.sl true 27 (rowsO t),SRC a c l s1])) (h:¬ 0<nextX l s1 3):AFn Tryz.prog (5000000+226) [.str (.src a c l),.box 155 (.agg [.str (.raw a l.length c),.int .i64 s.1,.int .u64 s.2]),.int .i64 m,.int .i64 D] (.tup [.agg [.int .i64 m,.sl true 27 (rowsO t)],.box 155 (.agg [.str (.raw a l.length c),.int .i64 (nextS l s1 3).1,.int .u64 (nextS l s1 3).2])]):=by
 refine gO Tryz.func226 Tryz.ntmps226 (by rw [Tryz.results226]) fun C hP hM hC=>?_
 (repeat (first|((with_reducible refine rC rfl fun K hK=>?_);simp only [go_sem,seval,↓reduceIte,h];(first|refine hK _ _ _ ?_|refine ⟨_,hC0,hK _ _ _ ?_⟩|refine ⟨_,Ag a c l hB _ q1 3,hK _ _ _ ?_⟩|refine ⟨_,Ec _ _,hK _ _ _ ?_⟩);clear hK K)|refine sT ?_))
 refine rg1 ?_
 rfl
theorem H3 {a:Option Addr} {c:Nat} {l:List Int} (hB:Byt l) {s:Int×Int} (hS:Sok l s) (m:Int) (D:Nat) (hm:1<m) (hm2:m≤10000) (h1:1≤D) (hD:D≤100):∃ t s',Sok l s'∧Pl m (D+1) t∧AFn Tryz.prog (5000000+226) [.str (.src a c l),SRC a c l s,.int .i64 m,.int .i64 D] (.tup [.agg [.int .i64 m,.sl true 27 (rowsO t)],SRC a c l s']):=by
 obtain ⟨t,s1,q1,ht,hC0⟩:=Aed (a:=a) (c:=c) hB hS m D hm hm2 h1 hD
 by_cases h:0<nextX l s1 3
 ·exact ⟨_,_,Qg (Al q1 3) _,Qi (by omega) _ _ _,O0 a c l hB s hS m D t s1 q1 hm hm2 ht h1 hD hC0 h⟩
 ·exact ⟨_,_,Al q1 3,ht,Pd a c l hB s hS m D t s1 q1 hC0 h⟩
def d4D (l:List Int) (s:Int×Int):Int:=1+pickX l (nextS l (mdS l s) 10) [1,2,3,4,6,9,nextX l (mdS l s) 10]
def d4S (l:List Int) (s:Int×Int):Int×Int:=nextS l (nextS l (mdS l s) 10) 7
theorem Aio {l:List Int} (hB:Byt l) (s:Int×Int):1≤d4D l s∧d4D l s≤10:=by
 have h1:=Bh hB (mdS l s) 10
 have h2:=h1.2.1 (by decide)
 have:=Ii hB (nextS l (mdS l s) 10) [1,2,3,4,6,9,nextX l (mdS l s) 10] (by simp)
 simp only [List.mem_cons,List.not_mem_nil,or_false] at this
 rw [d4D]
 omega
set_option maxHeartbeats 2000000 in
theorem Q3 (a:Option Addr) (c:Nat) (l:List Int) (hB:Byt l) (s:Int×Int) (hS:Sok l s) (t:List (List Int)) (s':Int×Int) (hC0:AFn Tryz.prog (5000000+226) [.str (.src a c l),SRC a c l (d4S l s),.int .i64 (mdM l s),.int .i64 (d4D l s)] (.tup [.agg [.int .i64 (mdM l s),.sl true 27 (rowsO t)],SRC a c l s'])):AFn Tryz.prog (5000000+255) [.str (.src a c l),.box 155 (.agg [.str (.raw a l.length c),.int .i64 s.1,.int .u64 s.2])] (.tup [.agg [.int .i64 (mdM l s),.sl true 27 (rowsO t)],.box 155 (.agg [.str (.raw a l.length c),.int .i64 s'.1,.int .u64 s'.2])]):=by
 refine gO Tryz.func255 Tryz.ntmps255 (by rw [Tryz.results255]) fun C hP hM hC=>?_
 have hb:=Aio hB s
 have q1:Sok l (mdS l s):=Al (Al hS 60) 12
 have q2:=Al q1 10
 have e1:IntKind.i64.wrap (1+pickX l (nextS l (mdS l s) 10) [1,2,3,4,6,9,nextX l (mdS l s) 10])=d4D l s:=wid (d4D l s) (by omega) (by omega)
 have zq1:nextS l (nextS l (mdS l s) 10) 7=d4S l s:=rfl;have zq2:=Ka a c l hB s hS;have zq3:=Ag a c l hB (mdS l s) q1 10
 (repeat (first|((with_reducible refine rC rfl fun K hK=>?_);simp only [go_sem,seval,↓reduceIte,e1,zq1];(first|refine hK _ _ _ ?_|refine ⟨_,zq2,hK _ _ _ ?_⟩|refine ⟨_,zq3,hK _ _ _ ?_⟩|refine ⟨_,Cd a c l hB _ q2 [1,2,3,4,6,9,nextX l (mdS l s) 10] (by simp) (by simp),hK _ _ _ ?_⟩|refine ⟨_,hC0,hK _ _ _ ?_⟩);clear hK K)|refine sT ?_))
 refine rg1 ?_
 rfl
theorem Aac {a:Option Addr} {c:Nat} {l:List Int} (hB:Byt l) {s:Int×Int} (hS:Sok l s):∃ m t s' D,Sok l s'∧Pl m (D+1) t∧1<m∧m≤9973∧1≤D∧D≤10∧AFn Tryz.prog (5000000+255) [.str (.src a c l),SRC a c l s] (.tup [.agg [.int .i64 m,.sl true 27 (rowsO t)],SRC a c l s']):=by
 have hb:=Aio hB s
 have hm:=Alq hB s
 obtain ⟨D,hD⟩:∃ D:Nat,d4D l s=D:=⟨(d4D l s).toNat,by omega⟩
 have q:Sok l (d4S l s):=Al (Al (Al (Al hS 60) 12) 10) 7
 obtain ⟨t,s',q',ht,hC0⟩:=H3 (a:=a) (c:=c) hB q (mdM l s) D hm.1 (by omega) (by omega) (by omega)
 rw [← hD] at hC0
 exact ⟨_,t,s',D,q',ht,hm.1,hm.2,by omega,by omega,Q3 a c l hB s hS t s' hC0⟩
section
variable {a:Option Addr} {c:Nat} {l:List Int} {s:Int×Int} {m:Int} {t:List (List Int)}
set_option maxHeartbeats 4000000 in
theorem Nz (a:Option Addr) (c:Nat) (l:List Int) (hB:Byt l) (s:Int×Int) (hS:Sok l s) (m:Int) (t:List (List Int)) (s1:Int×Int) (q1:Sok l s1) (hm:1<m) (hm2:m≤9973) (hsh:Shp t) (hC0:AFn Tryz.prog (5000000+255) [.str (.src a c l),SRC a c l s] (.tup [.agg [.int .i64 m,.sl true 27 (rowsO t)],SRC a c l s1])) (i j:Nat) (hi:i<t.length) (hx:nextX l s1 t.length=(i:Int)) (h:nextX l (nextS l s1 t.length) 24=0) (hj:j<(t.getD i []).length) (hy:nextX l (nextS l (nextS l s1 t.length) 24) (t.getD i []).length=(j:Int)):AFn Tryz.prog (5000000+222) [.str (.src a c l),.box 155 (.agg [.str (.raw a l.length c),.int .i64 s.1,.int .u64 s.2])] (.tup [.agg [.int .i64 m,.sl true 27 (rowsO (t.set i ((t.getD i []).set j (nextX l (nextS l (nextS l (nextS l s1 t.length) 24) (t.getD i []).length) (m+1)))))],.box 155 (.agg [.str (.raw a l.length c),.int .i64 (nextS l (nextS l (nextS l (nextS l s1 t.length) 24) (t.getD i []).length) (m+1)).1,.int .u64 (nextS l (nextS l (nextS l (nextS l s1 t.length) 24) (t.getD i []).length) (m+1)).2])]):=by
 refine gO Tryz.func222 Tryz.ntmps222 (by rw [Tryz.results222]) fun C hP hM hC=>?_
 have q2:=Al q1 t.length
 have q3:=Al q2 24
 have q4:=Al q3 (t.getD i []).length
 have ht:=hsh.1
 have zq1:(i:Int)<(t.length:Int):=(by omega);have zq2:=Aj t i (by omega);have zq3:=Ap t i hi;have zq4:(j:Int)<((t.getD i []).length:Int):=(by omega);have zq5:=Aa (t.getD i []) j (by omega);have zq6:=wid (m+1) (by omega) (by omega);have zq7:=Ck t i j (nextX l (nextS l (nextS l (nextS l s1 t.length) 24) (t.getD i []).length) (m+1)) hi
 (repeat (first|((with_reducible refine rC rfl fun K hK=>?_);simp only [go_sem,seval,↓reduceIte,h,Af,hx,zq1,Int.natCast_nonneg,Int.toNat_natCast,Nat.mul_one,zq2,zq3,hy,zq4,Ae _ j hj,zq5,zq6,zq7];(first|refine hK _ _ _ ?_|refine ⟨_,hC0,hK _ _ _ ?_⟩|refine ⟨_,Ag a c l hB _ q1 t.length,hK _ _ _ ?_⟩|refine ⟨_,Ag a c l hB _ q2 24,hK _ _ _ ?_⟩|refine ⟨_,Ag a c l hB _ q3 (t.getD i []).length,hK _ _ _ ?_⟩|refine ⟨_,Ag a c l hB _ q4 (m+1),hK _ _ _ ?_⟩);clear hK K)|refine sT ?_))
 refine rg1 ?_
 rfl
set_option maxHeartbeats 4000000 in
theorem N2 (a:Option Addr) (c:Nat) (l:List Int) (hB:Byt l) (s:Int×Int) (hS:Sok l s) (m:Int) (t:List (List Int)) (s1:Int×Int) (q1:Sok l s1) (hC0:AFn Tryz.prog (5000000+255) [.str (.src a c l),SRC a c l s] (.tup [.agg [.int .i64 m,.sl true 27 (rowsO t)],SRC a c l s1])) (i:Nat) (hi:i<t.length) (hx:nextX l s1 t.length=(i:Int)) (h:nextX l (nextS l s1 t.length) 24=1):AFn Tryz.prog (5000000+222) [.str (.src a c l),.box 155 (.agg [.str (.raw a l.length c),.int .i64 s.1,.int .u64 s.2])] (.tup [.agg [.int .i64 (pickX l (nextS l (nextS l s1 t.length) 24) [1,10001,2]),.sl true 27 (rowsO t)],.box 155 (.agg [.str (.raw a l.length c),.int .i64 (nextS l (nextS l (nextS l s1 t.length) 24) 3).1,.int .u64 (nextS l (nextS l (nextS l s1 t.length) 24) 3).2])]):=by
 refine gO Tryz.func222 Tryz.ntmps222 (by rw [Tryz.results222]) fun C hP hM hC=>?_
 have q2:=Al q1 t.length
 have q3:=Al q2 24
 have zq1:((1:Int)==0)=false:=rfl;have zq2:(i:Int)<(t.length:Int):=(by omega);have zq3:=Aj t i (by omega);have zq4:=Ap t i hi
 (repeat (first|((with_reducible refine rC rfl fun K hK=>?_);simp only [go_sem,seval,↓reduceIte,h,zq1,Af,hx,zq2,Int.natCast_nonneg,Int.toNat_natCast,Nat.mul_one,zq3,zq4];(first|refine hK _ _ _ ?_|refine ⟨_,hC0,hK _ _ _ ?_⟩|refine ⟨_,Ag a c l hB _ q1 t.length,hK _ _ _ ?_⟩|refine ⟨_,Ag a c l hB _ q2 24,hK _ _ _ ?_⟩|refine ⟨_,Cd a c l hB _ q3 [1,10001,2] (by simp) (by simp),hK _ _ _ ?_⟩);clear hK K)|refine sT ?_))
 refine rg1 ?_
 rfl
set_option maxHeartbeats 4000000 in
theorem Nx (a:Option Addr) (c:Nat) (l:List Int) (hB:Byt l) (s:Int×Int) (hS:Sok l s) (m:Int) (t:List (List Int)) (s1:Int×Int) (q1:Sok l s1) (hC0:AFn Tryz.prog (5000000+255) [.str (.src a c l),SRC a c l s] (.tup [.agg [.int .i64 m,.sl true 27 (rowsO t)],SRC a c l s1])) (ht:2≤t.length) (i:Nat) (hi:i<t.length) (hx:nextX l s1 t.length=(i:Int)) (h:nextX l (nextS l s1 t.length) 24=2):AFn Tryz.prog (5000000+222) [.str (.src a c l),.box 155 (.agg [.str (.raw a l.length c),.int .i64 s.1,.int .u64 s.2])] (.tup [(.agg [.int .i64 m,.win 27 1 t.length (rowsO t)]),.box 155 (.agg [.str (.raw a l.length c),.int .i64 (nextS l (nextS l s1 t.length) 24).1,.int .u64 (nextS l (nextS l s1 t.length) 24).2])]):=by
 refine gO Tryz.func222 Tryz.ntmps222 (by rw [Tryz.results222]) fun C hP hM hC=>?_
 have q2:=Al q1 t.length
 have zq1:((2:Int)==0)=false:=rfl;have zq2:((2:Int)==1)=false:=rfl;have zq3:(i:Int)<(t.length:Int):=(by omega);have zq4:=Aj t i (by omega);have zq5:=Ap t i hi;have zq6:(1:Int)≤(t.length:Int):=(by omega);have zq7:(1:Int)<(t.length:Int):=(by omega);have zq8:(0:Int)≤1:=(by omega);have zq9:(1:Int).toNat=1:=rfl
 (repeat (first|((with_reducible refine rC rfl fun K hK=>?_);simp only [go_sem,seval,↓reduceIte,h,zq1,zq2,Af,hx,zq3,Int.natCast_nonneg,Int.toNat_natCast,Nat.mul_one,zq4,zq5,zq6,zq7,zq8,zq9,Int.le_refl];(first|refine hK _ _ _ ?_|refine ⟨_,hC0,hK _ _ _ ?_⟩|refine ⟨_,Ag a c l hB _ q1 t.length,hK _ _ _ ?_⟩|refine ⟨_,Ag a c l hB _ q2 24,hK _ _ _ ?_⟩);clear hK K)|refine sT ?_))
 refine rg1 ?_
 rfl
set_option maxHeartbeats 4000000 in
theorem Ny (a:Option Addr) (c:Nat) (l:List Int) (hB:Byt l) (s:Int×Int) (hS:Sok l s) (m:Int) (t:List (List Int)) (s1:Int×Int) (q1:Sok l s1) (hC0:AFn Tryz.prog (5000000+255) [.str (.src a c l),SRC a c l s] (.tup [.agg [.int .i64 m,.sl true 27 (rowsO t)],SRC a c l s1])) (i:Nat) (hi:i<t.length) (hx:nextX l s1 t.length=(i:Int)) (h:nextX l (nextS l s1 t.length) 24=3):AFn Tryz.prog (5000000+222) [.str (.src a c l),.box 155 (.agg [.str (.raw a l.length c),.int .i64 s.1,.int .u64 s.2])] (.tup [(.agg [.int .i64 m,.nil]),.box 155 (.agg [.str (.raw a l.length c),.int .i64 (nextS l (nextS l s1 t.length) 24).1,.int .u64 (nextS l (nextS l s1 t.length) 24).2])]):=by
 refine gO Tryz.func222 Tryz.ntmps222 (by rw [Tryz.results222]) fun C hP hM hC=>?_
 have q2:=Al q1 t.length
 have zq1:((3:Int)==0)=false:=rfl;have zq2:((3:Int)==1)=false:=rfl;have zq3:((3:Int)==2)=false:=rfl;have zq4:(i:Int)<(t.length:Int):=(by omega);have zq5:=Aj t i (by omega);have zq6:=Ap t i hi
 (repeat (first|((with_reducible refine rC rfl fun K hK=>?_);simp only [go_sem,seval,↓reduceIte,h,zq1,zq2,zq3,Af,hx,zq4,Int.natCast_nonneg,Int.toNat_natCast,Nat.mul_one,zq5,zq6];(first|refine hK _ _ _ ?_|refine ⟨_,hC0,hK _ _ _ ?_⟩|refine ⟨_,Ag a c l hB _ q1 t.length,hK _ _ _ ?_⟩|refine ⟨_,Ag a c l hB _ q2 24,hK _ _ _ ?_⟩);clear hK K)|refine sT ?_))
 refine rg1 ?_
 rfl
set_option maxHeartbeats 4000000 in
theorem N0 (a:Option Addr) (c:Nat) (l:List Int) (hB:Byt l) (s:Int×Int) (hS:Sok l s) (m:Int) (t:List (List Int)) (s1:Int×Int) (q1:Sok l s1) (hC0:AFn Tryz.prog (5000000+255) [.str (.src a c l),SRC a c l s] (.tup [.agg [.int .i64 m,.sl true 27 (rowsO t)],SRC a c l s1])) (i:Nat) (hi:i<t.length) (hx:nextX l s1 t.length=(i:Int)) (h0:¬ nextX l (nextS l s1 t.length) 24=0) (h1:¬ nextX l (nextS l s1 t.length) 24=1) (h2:¬ nextX l (nextS l s1 t.length) 24=2) (h3:¬ nextX l (nextS l s1 t.length) 24=3):AFn Tryz.prog (5000000+222) [.str (.src a c l),.box 155 (.agg [.str (.raw a l.length c),.int .i64 s.1,.int .u64 s.2])] (.tup [.agg [.int .i64 m,.sl true 27 (rowsO t)],.box 155 (.agg [.str (.raw a l.length c),.int .i64 (nextS l (nextS l s1 t.length) 24).1,.int .u64 (nextS l (nextS l s1 t.length) 24).2])]):=by
 refine gO Tryz.func222 Tryz.ntmps222 (by rw [Tryz.results222]) fun C hP hM hC=>?_
 have q2:=Al q1 t.length
 have zq1:(i:Int)<(t.length:Int):=(by omega);have zq2:=Aj t i (by omega);have zq3:=Ap t i hi
 (repeat (first|((with_reducible refine rC rfl fun K hK=>?_);simp only [go_sem,seval,↓reduceIte,beqF h0,beqF h1,beqF h2,beqF h3,Af,hx,zq1,Int.natCast_nonneg,Int.toNat_natCast,Nat.mul_one,zq2,zq3];(first|refine hK _ _ _ ?_|refine ⟨_,hC0,hK _ _ _ ?_⟩|refine ⟨_,Ag a c l hB _ q1 t.length,hK _ _ _ ?_⟩|refine ⟨_,Ag a c l hB _ q2 24,hK _ _ _ ?_⟩);clear hK K)|refine sT ?_))
 refine rg1 ?_
 rfl
end
def PlN (R:T) (m:Int) (t:List (List Int)):Prop:=(PlT R m t∧1≤t.length)∨(R=.agg [.int .i64 m,.nil]∧t=[])
theorem Pl.shp {m:Int} {D:Nat} {t:List (List Int)} (h:Pl m (D+1) t) (hD:D≤999):Shp t:=⟨by rw [h.len];omega,fun x hx=>by
 obtain ⟨i,hi,rfl⟩:=List.getElem_of_mem hx
 have hl:=h.len
 have:=h.row i (by omega)
 rw [List.getD_eq_getElem?_getD,List.getElem?_eq_getElem hi] at this
 have e:(t[i]).length=D+1-i:=this
 omega⟩
theorem On {a:Option Addr} {c:Nat} {l:List Int} (hB:Byt l) {s:Int×Int} (hS:Sok l s):∃ R m t s',Sok l s'∧Shp t∧PlN R m t∧AFn Tryz.prog (5000000+222) [.str (.src a c l),SRC a c l s] (.tup [R,SRC a c l s']):=by
 obtain ⟨m,t,s1,D,q1,hp,hm,hm2,hD,hD2,hC0⟩:=Aac (a:=a) (c:=c) hB hS
 have hl:=hp.len
 have hsh:=hp.shp (by omega)
 have hx:=Bh hB s1 t.length
 have hx2:=hx.2.1 (by omega)
 obtain ⟨i,ei⟩:∃ i:Nat,nextX l s1 t.length=(i:Int):=⟨(nextX l s1 t.length).toNat,by omega⟩
 have hi:i<t.length:=by omega
 have q2:=Al q1 t.length
 have q3:=Al q2 24
 by_cases h0:nextX l (nextS l s1 t.length) 24=0
 ·have hr:=hsh.row hi
  have hy:=Bh hB (nextS l (nextS l s1 t.length) 24) (t.getD i []).length
  have hy2:=hy.2.1 (by omega)
  obtain ⟨j,ej⟩:∃ j:Nat,nextX l (nextS l (nextS l s1 t.length) 24) (t.getD i []).length=(j:Int):=⟨(nextX l (nextS l (nextS l s1 t.length) 24) (t.getD i []).length).toNat,by omega⟩
  exact ⟨_,m,_,_,Al (Al q3 _) _,hsh.set i j _,.inl ⟨.inl rfl,by rw [List.length_set];omega⟩,Nz a c l hB s hS m t s1 q1 hm hm2 hsh hC0 i j hi ei h0 (by omega) ej⟩
 by_cases h1:nextX l (nextS l s1 t.length) 24=1
 ·exact ⟨_,_,t,_,Al q3 3,hsh,.inl ⟨.inl rfl,by omega⟩,N2 a c l hB s hS m t s1 q1 hC0 i hi ei h1⟩
 by_cases h2:nextX l (nextS l s1 t.length) 24=2
 ·exact ⟨_,m,(t.take t.length).drop 1,_,q3,hsh.win 1 t.length,.inl ⟨.inr ⟨1,t.length,t,by omega,by omega,hsh.1,rfl,rfl⟩,by rw [Aan (by omega) (by omega)];omega⟩,Nx a c l hB s hS m t s1 q1 hC0 (by omega) i hi ei h2⟩
 by_cases h3:nextX l (nextS l s1 t.length) 24=3
 ·exact ⟨_,m,[],_,q3,⟨Nat.zero_le _,fun x hx=>absurd hx List.not_mem_nil⟩,.inr ⟨rfl,rfl⟩,Ny a c l hB s hS m t s1 q1 hC0 i hi ei h3⟩
 ·exact ⟨_,m,t,_,q3,hsh,.inl ⟨.inl rfl,by omega⟩,N0 a c l hB s hS m t s1 q1 hC0 i hi ei h0 h1 h2 h3⟩
end Go.Proofs.YtapdekacpecgiaaGreat
