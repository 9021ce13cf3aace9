import Derived.Test.YtapdekacpecgiaaGreatKa
import Derived.Test.YtapdekacpecgiaaGreatKa
import Derived.Test.YtapdekacpecgiaaGreatKa
import Derived.Test.YtapdekacpecgiaaGreatQa
import Derived.Test.YtapdekacpecgiaaGreatKh
import Derived.Test.YtapdekacpecgiaaGreatSu
import Derived.Test.YtapdekacpecgiaaGreatLf
namespace Go.Proofs.YtapdekacpecgiaaGreat
open Go.RowKit
set_option linter.unusedSimpArgs false
set_option linter.unusedVariables false
set_option linter.unusedSectionVars false
set_option maxRecDepth 20000
set_option maxHeartbeats 1000000
def put2 (t:List (List Int)) (i j:Nat) (x:Int):List (List Int):=t.set i ((t.getD i []).set j x)
theorem S5 (t:List (List Int)) (i j a:Nat) (x:Int):(put2 t i j x).getD a []=if a=i∧i<t.length then (t.getD i []).set j x else t.getD a []:=by
 rw [put2,List.getD_eq_getElem?_getD,List.getElem?_set]
 by_cases h:i=a
 ·subst h
  by_cases h2:i<t.length
  ·rw [if_pos rfl,if_pos h2,if_pos ⟨rfl,h2⟩];rfl
  ·rw [if_pos rfl,if_neg h2,if_neg (fun e=>h2 e.2),List.getD_eq_getElem?_getD,List.getElem?_eq_none (by omega)]
 ·rw [if_neg h,if_neg (fun e=>h e.1.symm),← List.getD_eq_getElem?_getD]
theorem Amp (l:List Int) (j b:Nat) (x:Int):at' (l.set j x) b=if b=j∧j<l.length then x else at' l b:=by
 rw [at',List.getD_eq_getElem?_getD,List.getElem?_set]
 by_cases h:j=b
 ·subst h
  by_cases h2:j<l.length
  ·rw [if_pos rfl,if_pos h2,if_pos ⟨rfl,h2⟩];rfl
  ·rw [if_pos rfl,if_neg h2,if_neg (fun e=>h2 e.2),at',List.getD_eq_getElem?_getD,List.getElem?_eq_none (by omega)]
 ·rw [if_neg h,if_neg (fun e=>h e.1.symm),at',List.getD_eq_getElem?_getD]
theorem Pl.put {m:Int} {n:Nat} {t:List (List Int)} (h:Pl m n t) {x:Int} (hx:0≤x∧x<m) (i j:Nat):Pl m n (put2 t i j x):=by
 refine ⟨by rw [put2,List.length_set];exact h.len,fun a ha=>?_,fun a b=>?_⟩
 ·rw [S5]
  split
  ·rename_i e;rw [List.length_set,e.1];exact h.row i (by rw [← e.1];exact ha)
  ·exact h.row a ha
 ·show 0≤at' ((put2 t i j x).getD a []) b∧at' ((put2 t i j x).getD a []) b<m
  rw [S5]
  split
  ·rw [Amp]
   split
   ·exact hx
   ·exact h.num i b
  ·exact h.num a b
theorem zeroPl {m:Int} (hm:0<m) (n:Nat):Pl m n (tab2 n (fun _ _=>0)):=Pl.tab2 hm fun _ _ _=>by omega
theorem Ai5 {m:Int} {l:List Int} (h:∀ x∈l,0≤x∧x<m) {x:Int} (hx:0≤x∧x<m):∀ y∈l++[x],0≤y∧y<m:=fun y hy=>by
 rcases List.mem_append.1 hy with e|e
 ·exact h y e
 ·rw [List.mem_singleton.1 e];exact hx
def sadT (m:Int) (n:Nat) (s t:List (List Int)):List (List Int):=tab2 n (fun i j=>(pc s i j+pc t i j)%m)
theorem Yl {m:Int} (hm:0<m) (n:Nat) (s t:List (List Int)):Pl m n (sadT m n s t):=Pl.tab2 hm fun _ _ _=>Ag _ m hm
set_option maxHeartbeats 2000000 in
theorem Iv (m:Int) (s t:List (List Int)) (n:Nat) (hm:0<m) (hm2:m≤1000000) (hs:Pl m n s) (ht:Pl m n t) (hn:n≤1000):AFn Tryz.prog 213 [.int .i64 m,.sl false 27 (rowsF s),.sl false 27 (rowsF t)] (.sl true 27 (rowsO (sadT m n s t))):=by
 refine fO Tryz.func213 Tryz.ntmps213 (by rw [Tryz.results213]) fun C hP hM hC=>?_
 (repeat (first|((with_reducible refine rC rfl fun K hK=>?_);simp only [go_sem,seval,↓reduceIte];refine hK _ _ _ ?_;clear hK K)|refine sT ?_))
 refine AWP.loop (fun w:Nat×Nat=>[(8,⟨0,.val (.int .i64 w.1)⟩),(7,⟨w.2,.own (.sl true 27 (rowsO (tabR n w.1 (fun i j=>(pc s i j+pc t i j)%m))))⟩),(0,⟨0,.val (.int .i64 m)⟩),(1,⟨0,.val (.sl false 27 (rowsF s))⟩),(2,⟨0,.val (.sl false 27 (rowsF t))⟩)]) (fun w=>w.1≤n) (fun w=>n-w.1) (0,1) (Nat.zero_le _) (fun i=>rfl) ?_ (fun w hw=>?_)
 ·simp [Sub,lk,Iy,rowsO]
 ·obtain ⟨i,v⟩:=w
  simp only at hw ⊢
  by_cases hi:i<n
  ·have hsn:=Fp n i (fun i j=>(pc s i j+pc t i j)%m)
   have r1:=hs.row i hi
   have r2:=ht.row i hi
   have hA:=Po m (s.getD i []) (t.getD i []) (n-i-1) hm hm2 (hs.rowNum i) (ht.rowNum i) (by omega) (by omega) (by omega)
   have e:addL m (s.getD i []) (t.getD i []) (n-i-1)=tab (n-i) (fun j=>(pc s i j+pc t i j)%m):=by
    rw [addL,show n-i-1+1=n-i by omega];rfl
   rw [e] at hA
   (repeat (first|((with_reducible refine rC rfl fun K hK=>?_);simp only [go_sem,seval,↓reduceIte,Aa,hs.len,ht.len,show (i:Int)<(n:Int) by omega,Int.natCast_nonneg,Int.toNat_natCast,Ad s i (by rw [hs.len];exact hi),Ad t i (by rw [ht.len];exact hi),En,Em,hsn,show i+1≤1099511627776 by omega,show (i+1)*24≤140737488355328 by omega,wid ((i:Int)+1) (by omega) (by omega)];(first|refine hK _ _ _ ?_|refine ⟨_,hA,hK _ _ _ ?_⟩);clear hK K)|refine sT ?_))
   exact ⟨(i+1,v+1),by simp only;omega,by simp only;omega,by simp [Sub,lk]⟩
  ·(repeat (first|((with_reducible refine rC rfl fun K hK=>?_);simp only [go_sem,seval,↓reduceIte,Aa,hs.len,show ¬ (i:Int)<(n:Int) by omega];refine hK _ _ _ ?_;clear hK K)|refine sT ?_))
   refine rt1 ?_
   rw [show i=n by omega];rfl
theorem Sg (m:Int) (s t:List (List Int)) (n:Nat) (hm:0<m) (hm2:m≤10000) (hs:Pl m n s) (ht:Pl m n t) (hn:n≤1000):AFn Tryz.prog 213 [.int .i64 m,.sl false 27 (rowsF s),.sl false 27 (rowsF t)] (.sl true 27 (rowsO (sadT m n s t))):=Iv m s t n hm (by omega) hs ht hn
def sscT (m c:Int) (n:Nat) (t:List (List Int)):List (List Int):=tab2 n (fun i j=>c*pc t i j%m)
theorem Y3 {m:Int} (hm:0<m) (c:Int) (n:Nat) (t:List (List Int)):Pl m n (sscT m c n t):=Pl.tab2 hm fun _ _ _=>Ag _ m hm
set_option maxHeartbeats 2000000 in
theorem Hg (m c:Int) (t:List (List Int)) (n:Nat) (hm:0<m) (hm2:m≤1000000) (hc:0≤c∧c<m) (ht:Pl m n t) (hn:n≤1000):AFn Tryz.prog 214 [.int .i64 m,.int .i64 c,.sl false 27 (rowsF t)] (.sl true 27 (rowsO (sscT m c n t))):=by
 refine fO Tryz.func214 Tryz.ntmps214 (by rw [Tryz.results214]) fun C hP hM hC=>?_
 (repeat (first|((with_reducible refine rC rfl fun K hK=>?_);simp only [go_sem,seval,↓reduceIte];refine hK _ _ _ ?_;clear hK K)|refine sT ?_))
 refine AWP.loop (fun w:Nat×Nat=>[(8,⟨0,.val (.int .i64 w.1)⟩),(7,⟨w.2,.own (.sl true 27 (rowsO (tabR n w.1 (fun i j=>c*pc t i j%m))))⟩),(0,⟨0,.val (.int .i64 m)⟩),(1,⟨0,.val (.int .i64 c)⟩),(2,⟨0,.val (.sl false 27 (rowsF t))⟩)]) (fun w=>w.1≤n) (fun w=>n-w.1) (0,1) (Nat.zero_le _) (fun i=>rfl) ?_ (fun w hw=>?_)
 ·simp [Sub,lk,Iy,rowsO]
 ·obtain ⟨i,v⟩:=w
  simp only at hw ⊢
  by_cases hi:i<n
  ·have hsn:=Fp n i (fun i j=>c*pc t i j%m)
   have r2:=ht.row i hi
   have hA:=Na m c (t.getD i []) (n-i-1) hm hm2 (ht.rowNum i) (by omega) (by omega) hc.1 hc.2
   have e:scL m c (t.getD i []) (n-i-1)=tab (n-i) (fun j=>c*pc t i j%m):=by
    rw [scL,show n-i-1+1=n-i by omega];rfl
   rw [e] at hA
   (repeat (first|((with_reducible refine rC rfl fun K hK=>?_);simp only [go_sem,seval,↓reduceIte,Aa,ht.len,show (i:Int)<(n:Int) by omega,Int.natCast_nonneg,Int.toNat_natCast,Ad t i (by rw [ht.len];exact hi),En,Em,hsn,show i+1≤1099511627776 by omega,show (i+1)*24≤140737488355328 by omega,wid ((i:Int)+1) (by omega) (by omega)];(first|refine hK _ _ _ ?_|refine ⟨_,hA,hK _ _ _ ?_⟩);clear hK K)|refine sT ?_))
   exact ⟨(i+1,v+1),by simp only;omega,by simp only;omega,by simp [Sub,lk]⟩
  ·(repeat (first|((with_reducible refine rC rfl fun K hK=>?_);simp only [go_sem,seval,↓reduceIte,Aa,ht.len,show ¬ (i:Int)<(n:Int) by omega];refine hK _ _ _ ?_;clear hK K)|refine sT ?_))
   refine rt1 ?_
   rw [show i=n by omega];rfl
theorem P0 (m c:Int) (t:List (List Int)) (n:Nat) (hm:0<m) (hm2:m≤10000) (hc:0≤c∧c<m) (ht:Pl m n t) (hn:n≤1000):AFn Tryz.prog 214 [.int .i64 m,.int .i64 c,.sl false 27 (rowsF t)] (.sl true 27 (rowsO (sscT m c n t))):=Hg m c t n hm (by omega) hc ht hn
theorem Gk (ll:List (List Int)) (i j:Nat) (v:Int) (h:i<ll.length):(rowsO ll).modify i ((T.int .i64 v).set [j])=rowsO (put2 ll i j v):=C9 ll i j v h
def zeT (D:Nat):List (List Int):=tab2 (D+1) (fun _ _=>0)
theorem Vh {m:Int} (hm:0<m) (D:Nat):Pl m (D+1) (zeT D):=zeroPl hm _
end Go.Proofs.YtapdekacpecgiaaGreat
