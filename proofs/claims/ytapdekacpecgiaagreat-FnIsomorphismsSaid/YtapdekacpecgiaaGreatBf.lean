import Derived.Test.YtapdekacpecgiaaGreatKa
import Derived.Test.YtapdekacpecgiaaGreatKa
import Derived.Test.YtapdekacpecgiaaGreatKa
import Derived.Test.YtapdekacpecgiaaGreatQa
import Derived.Test.YtapdekacpecgiaaGreatKh
import Derived.Test.YtapdekacpecgiaaGreatSu
import Derived.Test.YtapdekacpecgiaaGreatLf
namespace Go.Proofs.YtapdekacpecgiaaGreat
open Go.RowKit
set_option linter.unusedSimpArgs false
set_option linter.unusedVariables false
set_option linter.unusedSectionVars false
set_option maxRecDepth 20000
set_option maxHeartbeats 1000000
def put2 (t:List (List Int)) (i j:Nat) (x:Int):List (List Int):=t.set i ((t.getD i []).set j x)
theorem T5 (t:List (List Int)) (i j a:Nat) (x:Int):(put2 t i j x).getD a []=if a=i∧i<t.length then (t.getD i []).set j x else t.getD a []:=by
 rw [put2,List.getD_eq_getElem?_getD,List.getElem?_set]
 by_cases h:i=a
 ·subst h
  by_cases h2:i<t.length
  ·rw [if_pos rfl,if_pos h2,if_pos ⟨rfl,h2⟩];rfl
  ·rw [if_pos rfl,if_neg h2,if_neg (fun e=>h2 e.2),List.getD_eq_getElem?_getD,List.getElem?_eq_none (by omega)]
 ·rw [if_neg h,if_neg (fun e=>h e.1.symm),← List.getD_eq_getElem?_getD]
theorem Afi (l:List Int) (j b:Nat) (x:Int):at' (l.set j x) b=if b=j∧j<l.length then x else at' l b:=by
 rw [at',List.getD_eq_getElem?_getD,List.getElem?_set]
 by_cases h:j=b
 ·subst h
  by_cases h2:j<l.length
  ·rw [if_pos rfl,if_pos h2,if_pos ⟨rfl,h2⟩];rfl
  ·rw [if_pos rfl,if_neg h2,if_neg (fun e=>h2 e.2),at',List.getD_eq_getElem?_getD,List.getElem?_eq_none (by omega)]
 ·rw [if_neg h,if_neg (fun e=>h e.1.symm),at',List.getD_eq_getElem?_getD]
theorem Pl.put {m:Int} {n:Nat} {t:List (List Int)} (h:Pl m n t) {x:Int} (hx:0≤x∧x<m) (i j:Nat):Pl m n (put2 t i j x):=by
 refine ⟨by rw [put2,List.length_set];exact h.len,fun a ha=>?_,fun a b=>?_⟩
 ·rw [T5]
  split
  ·rename_i e;rw [List.length_set,e.1];exact h.row i (by rw [← e.1];exact ha)
  ·exact h.row a ha
 ·show 0≤at' ((put2 t i j x).getD a []) b∧at' ((put2 t i j x).getD a []) b<m
  rw [T5]
  split
  ·rw [Afi]
   split
   ·exact hx
   ·exact h.num i b
  ·exact h.num a b
theorem zeroPl {m:Int} (hm:0<m) (n:Nat):Pl m n (tab2 n (fun _ _=>0)):=Pl.tab2 hm fun _ _ _=>by omega
theorem Ng {m:Int} {l:List Int} (h:∀ x∈l,0≤x∧x<m) {x:Int} (hx:0≤x∧x<m) (j:Nat):∀ y∈l.set j x,0≤y∧y<m:=fun y hy=>by
 rcases List.mem_or_eq_of_mem_set hy with e|e
 ·exact h y e
 ·rw [e];exact hx
theorem Nh {m:Int} {l:List Int} (h:∀ x∈l,0≤x∧x<m) {x:Int} (hx:0≤x∧x<m):∀ y∈l++[x],0≤y∧y<m:=fun y hy=>by
 rcases List.mem_append.1 hy with e|e
 ·exact h y e
 ·rw [List.mem_singleton.1 e];exact hx
def sadT (m:Int) (n:Nat) (s t:List (List Int)):List (List Int):=tab2 n (fun i j=>(pc s i j+pc t i j)%m)
theorem Ev {m:Int} (hm:0<m) (n:Nat) (s t:List (List Int)):Pl m n (sadT m n s t):=Pl.tab2 hm fun _ _ _=>Aq _ m hm
set_option maxHeartbeats 2000000 in
theorem I5 (m:Int) (s t:List (List Int)) (n:Nat) (hm:0<m) (hm2:m≤1000000) (hs:Pl m n s) (ht:Pl m n t) (hn:n≤1000):AFn Tryz.prog 213 [.int .i64 m,.sl false 27 (rowsF s),.sl false 27 (rowsF t)] (.sl true 27 (rowsO (sadT m n s t))):=by
 refine fO Tryz.func213 Tryz.ntmps213 (by rw [Tryz.results213]) fun C hP hM hC=>?_
 (repeat (first|((with_reducible refine rC rfl fun K hK=>?_);simp only [go_sem,seval,↓reduceIte];refine hK _ _ _ ?_;clear hK K)|refine sT ?_))
 refine AWP.loop (fun w:Nat×Nat=>[(8,⟨0,.val (.int .i64 w.1)⟩),(7,⟨w.2,.own (.sl true 27 (rowsO (tabR n w.1 (fun i j=>(pc s i j+pc t i j)%m))))⟩),(0,⟨0,.val (.int .i64 m)⟩),(1,⟨0,.val (.sl false 27 (rowsF s))⟩),(2,⟨0,.val (.sl false 27 (rowsF t))⟩)]) (fun w=>w.1≤n) (fun w=>n-w.1) (0,1) (Nat.zero_le _) (fun i=>rfl) ?_ (fun w hw=>?_)
 ·simp [Sub,lk,I9,rowsO]
 ·obtain ⟨i,v⟩:=w
  simp only at hw ⊢
  by_cases hi:i<n
  ·have hsn:=F8 n i (fun i j=>(pc s i j+pc t i j)%m)
   have r1:=hs.row i hi
   have r2:=ht.row i hi
   have hA:=P5 m (s.getD i []) (t.getD i []) (n-i-1) hm hm2 (hs.rowNum i) (ht.rowNum i) (by omega) (by omega) (by omega)
   have e:addL m (s.getD i []) (t.getD i []) (n-i-1)=tab (n-i) (fun j=>(pc s i j+pc t i j)%m):=by
    rw [addL,show n-i-1+1=n-i by omega];rfl
   rw [e] at hA
   (repeat (first|((with_reducible refine rC rfl fun K hK=>?_);simp only [go_sem,seval,↓reduceIte,Ab,hs.len,ht.len,show (i:Int)<(n:Int) by omega,Int.natCast_nonneg,Int.toNat_natCast,Ak s i (by rw [hs.len];exact hi),Ak t i (by rw [ht.len];exact hi),Ex,D5,hsn,show i+1≤1099511627776 by omega,show (i+1)*24≤140737488355328 by omega,wid ((i:Int)+1) (by omega) (by omega)];(first|refine hK _ _ _ ?_|refine ⟨_,hA,hK _ _ _ ?_⟩);clear hK K)|refine sT ?_))
   exact ⟨(i+1,v+1),by simp only;omega,by simp only;omega,by simp [Sub,lk]⟩
  ·(repeat (first|((with_reducible refine rC rfl fun K hK=>?_);simp only [go_sem,seval,↓reduceIte,Ab,hs.len,show ¬ (i:Int)<(n:Int) by omega];refine hK _ _ _ ?_;clear hK K)|refine sT ?_))
   refine rt1 ?_
   rw [show i=n by omega];rfl
theorem Cn (m:Int) (s t:List (List Int)) (n:Nat) (hm:0<m) (hm2:m≤10000) (hs:Pl m n s) (ht:Pl m n t) (hn:n≤1000):AFn Tryz.prog 213 [.int .i64 m,.sl false 27 (rowsF s),.sl false 27 (rowsF t)] (.sl true 27 (rowsO (sadT m n s t))):=I5 m s t n hm (by omega) hs ht hn
def sscT (m c:Int) (n:Nat) (t:List (List Int)):List (List Int):=tab2 n (fun i j=>c*pc t i j%m)
theorem Ef {m:Int} (hm:0<m) (c:Int) (n:Nat) (t:List (List Int)):Pl m n (sscT m c n t):=Pl.tab2 hm fun _ _ _=>Aq _ m hm
set_option maxHeartbeats 2000000 in
theorem H0 (m c:Int) (t:List (List Int)) (n:Nat) (hm:0<m) (hm2:m≤1000000) (hc:0≤c∧c<m) (ht:Pl m n t) (hn:n≤1000):AFn Tryz.prog 214 [.int .i64 m,.int .i64 c,.sl false 27 (rowsF t)] (.sl true 27 (rowsO (sscT m c n t))):=by
 refine fO Tryz.func214 Tryz.ntmps214 (by rw [Tryz.results214]) fun C hP hM hC=>?_
 (repeat (first|((with_reducible refine rC rfl fun K hK=>?_);simp only [go_sem,seval,↓reduceIte];refine hK _ _ _ ?_;clear hK K)|refine sT ?_))
 refine AWP.loop (fun w:Nat×Nat=>[(8,⟨0,.val (.int .i64 w.1)⟩),(7,⟨w.2,.own (.sl true 27 (rowsO (tabR n w.1 (fun i j=>c*pc t i j%m))))⟩),(0,⟨0,.val (.int .i64 m)⟩),(1,⟨0,.val (.int .i64 c)⟩),(2,⟨0,.val (.sl false 27 (rowsF t))⟩)]) (fun w=>w.1≤n) (fun w=>n-w.1) (0,1) (Nat.zero_le _) (fun i=>rfl) ?_ (fun w hw=>?_)
 ·simp [Sub,lk,I9,rowsO]
 ·obtain ⟨i,v⟩:=w
  simp only at hw ⊢
  by_cases hi:i<n
  ·have hsn:=F8 n i (fun i j=>c*pc t i j%m)
   have r2:=ht.row i hi
   have hA:=Nw m c (t.getD i []) (n-i-1) hm hm2 (ht.rowNum i) (by omega) (by omega) hc.1 hc.2
   have e:scL m c (t.getD i []) (n-i-1)=tab (n-i) (fun j=>c*pc t i j%m):=by
    rw [scL,show n-i-1+1=n-i by omega];rfl
   rw [e] at hA
   (repeat (first|((with_reducible refine rC rfl fun K hK=>?_);simp only [go_sem,seval,↓reduceIte,Ab,ht.len,show (i:Int)<(n:Int) by omega,Int.natCast_nonneg,Int.toNat_natCast,Ak t i (by rw [ht.len];exact hi),Ex,D5,hsn,show i+1≤1099511627776 by omega,show (i+1)*24≤140737488355328 by omega,wid ((i:Int)+1) (by omega) (by omega)];(first|refine hK _ _ _ ?_|refine ⟨_,hA,hK _ _ _ ?_⟩);clear hK K)|refine sT ?_))
   exact ⟨(i+1,v+1),by simp only;omega,by simp only;omega,by simp [Sub,lk]⟩
  ·(repeat (first|((with_reducible refine rC rfl fun K hK=>?_);simp only [go_sem,seval,↓reduceIte,Ab,ht.len,show ¬ (i:Int)<(n:Int) by omega];refine hK _ _ _ ?_;clear hK K)|refine sT ?_))
   refine rt1 ?_
   rw [show i=n by omega];rfl
theorem Bs (m c:Int) (t:List (List Int)) (n:Nat) (hm:0<m) (hm2:m≤10000) (hc:0≤c∧c<m) (ht:Pl m n t) (hn:n≤1000):AFn Tryz.prog 214 [.int .i64 m,.int .i64 c,.sl false 27 (rowsF t)] (.sl true 27 (rowsO (sscT m c n t))):=H0 m c t n hm (by omega) hc ht hn
def trnJ (t:List (List Int)) (i:Nat) (s:List (List Int)):Nat→List (List Int)
 | 0=>s
 | j+1=>put2 (trnJ t i s j) j i (pc t i j)
def trnI (t:List (List Int)) (n:Nat):Nat→List (List Int)
 | 0=>tab2 n (fun _ _=>0)
 | i+1=>trnJ t i (trnI t n i) (n-i)
theorem Ra {m:Int} {n:Nat} {t s:List (List Int)} (ht:Pl m n t) (hs:Pl m n s) (i:Nat):∀ j,Pl m n (trnJ t i s j)
 | 0=>hs
 | j+1=>(Ra ht hs i j).put (ht.num i j) j i
theorem Rc {m:Int} {n:Nat} {t:List (List Int)} (hm:0<m) (ht:Pl m n t):∀ i,Pl m n (trnI t n i)
 | 0=>zeroPl hm n
 | i+1=>Ra ht (Rc hm ht i) i _
set_option maxHeartbeats 4000000 in
theorem Ru (m:Int) (t:List (List Int)) (n:Nat) (hm:0<m) (ht:Pl m n t) (h1:1≤n) (hn:n≤1000):AFn Tryz.prog 276 [.sl false 27 (rowsF t)] (.sl true 27 (rowsO (trnI t n n))):=by
 refine fO Tryz.func276 Tryz.ntmps276 (by rw [Tryz.results276]) fun C hP hM hC=>?_
 have hZ:=Bz (n-1) (by omega)
 rw [show n-1+1=n by omega] at hZ
 (repeat (first|((with_reducible refine rC rfl fun K hK=>?_);simp only [go_sem,seval,↓reduceIte,Ab,ht.len,show IntKind.i64.wrap ((n:Int)-1)=((n-1:Nat):Int) by rw [wid _ (by omega) (by omega)];omega];(first|refine hK _ _ _ ?_|refine ⟨_,hZ,hK _ _ _ ?_⟩);clear hK K)|refine sT ?_))
 refine AWP.loop (fun i:Nat=>[(4,⟨0,.val (.int .i64 i)⟩),(3,⟨1,.own (.sl true 27 (rowsO (trnI t n i)))⟩),(0,⟨0,.val (.sl false 27 (rowsF t))⟩)]) (fun i=>i≤n) (fun i=>n-i) 0 (Nat.zero_le _) (fun i=>rfl) ?_ (fun i hi=>?_)
 ·simp [Sub,lk,trnI]
 ·by_cases hlt:i<n
  ·have hrow:=ht.row i hlt
   have hP2:=Rc hm ht i
   (repeat (first|((with_reducible refine rC rfl fun K hK=>?_);simp only [go_sem,seval,↓reduceIte,Ab,ht.len,show (i:Int)<(n:Int) by omega];refine hK _ _ _ ?_;clear hK K)|refine sT ?_))
   refine AWP.loop (fun j:Nat=>[(5,⟨0,.val (.int .i64 j)⟩),(4,⟨0,.val (.int .i64 i)⟩),(3,⟨1,.own (.sl true 27 (rowsO (trnJ t i (trnI t n i) j)))⟩),(0,⟨0,.val (.sl false 27 (rowsF t))⟩)]) (fun j=>j≤n-i) (fun j=>n-i-j) 0 (Nat.zero_le _) (fun j=>rfl) ?_ (fun j hj=>?_)
   ·simp [Sub,lk,trnJ]
   ·have hQ:=Ra ht hP2 i j
    have hql:=hQ.len
    by_cases hjt:j<n-i
    ·have hr2:=hQ.row j (by omega)
     (repeat (first|((with_reducible refine rC rfl fun K hK=>?_);simp only [go_sem,seval,↓reduceIte,Ab,ht.len,show (i:Int)<(n:Int) by omega,Int.natCast_nonneg,Int.toNat_natCast,Ak t i (by rw [ht.len];exact hlt),hrow,show (j:Int)<((n-i:Nat):Int) by omega,Af,hql,show (j:Int)<(n:Int) by omega,Nat.mul_one,Aj _ j (show j≤(trnJ t i (trnI t n i) j).length by omega),Ap _ j (show j<(trnJ t i (trnI t n i) j).length by omega),hr2,show (i:Int)<((n-j:Nat):Int) by omega,Ac (t.getD i []) j (by omega),Ae ((trnJ t i (trnI t n i) j).getD j []) i (by omega),Aa ((trnJ t i (trnI t n i) j).getD j []) i (by omega),Ck (trnJ t i (trnI t n i) j) j i ((t.getD i []).getD j 0) (by omega),wid ((j:Int)+1) (by omega) (by omega)];refine hK _ _ _ ?_;clear hK K)|refine sT ?_))
     exact ⟨j+1,by omega,by omega,by simp [Sub,lk,trnJ];rfl⟩
    ·have hje:j=n-i:=by omega
     (repeat (first|((with_reducible refine rC rfl fun K hK=>?_);simp only [go_sem,seval,↓reduceIte,Ab,ht.len,show (i:Int)<(n:Int) by omega,Int.natCast_nonneg,Int.toNat_natCast,Ak t i (by rw [ht.len];exact hlt),hrow,show ¬ (j:Int)<((n-i:Nat):Int) by omega,wid ((i:Int)+1) (by omega) (by omega)];refine hK _ _ _ ?_;clear hK K)|refine sT ?_))
     refine ⟨i+1,hlt,by omega,?_⟩
     rw [hje]
     simp [Sub,lk,trnI]
  ·(repeat (first|((with_reducible refine rC rfl fun K hK=>?_);simp only [go_sem,seval,↓reduceIte,Ab,ht.len,show ¬ (i:Int)<(n:Int) by omega];refine hK _ _ _ ?_;clear hK K)|refine sT ?_))
   refine rt1 ?_
   rw [show i=n by omega]
theorem Bw (ll:List (List Int)) (i j:Nat) (v:Int) (h:i<ll.length):(rowsO ll).modify i ((T.int .i64 v).set [j])=rowsO (put2 ll i j v):=Ck ll i j v h
def zeT (D:Nat):List (List Int):=tab2 (D+1) (fun _ _=>0)
theorem E4 {m:Int} (hm:0<m) (D:Nat):Pl m (D+1) (zeT D):=zeroPl hm _
def mul2 (D:Nat):List (List Int):=put2 (put2 (zeT D) 1 0 1) 0 1 1
def mulU (D:Nat) (c:Int):List (List Int):=if 1<D then put2 (mul2 D) 1 1 c else mul2 D
theorem Q5 {m:Int} (hm:1<m) (D:Nat) {c:Int} (hc:0≤c∧c<m):Pl m (D+1) (mulU D c):=by
 have h:=((E4 (show 0<m by omega) D).put (show 0≤(1:Int)∧1<m by omega) 1 0).put (show 0≤(1:Int)∧1<m by omega) 0 1
 unfold mulU
 split
 ·exact h.put hc 1 1
 ·exact h
set_option maxHeartbeats 4000000 in
theorem Dl (m c:Int) (D:Nat) (h1:1≤D) (hD:D≤100):AFn Tryz.prog 266 [.int .i64 m,.int .i64 D,.int .i64 c] (.sl true 27 (rowsO (mulU D c))):=by
 refine fO Tryz.func266 Tryz.ntmps266 (by rw [Tryz.results266]) fun C hP hM hC=>?_
 have hZ:AFn Tryz.prog 176 [.int .i64 D] (.sl true 27 (rowsO (zeT D))):=Bz D (by omega)
 have p0:Pl 2 (D+1) (zeT D):=E4 (by decide) D
 have p1:Pl 2 (D+1) (put2 (zeT D) 1 0 1):=p0.put (by decide) 1 0
 have p2:Pl 2 (D+1) (put2 (put2 (zeT D) 1 0 1) 0 1 1):=p1.put (by decide) 0 1
 by_cases h:1<D
 ·(repeat (first|((with_reducible refine rC rfl fun K hK=>?_);simp only [go_sem,seval,↓reduceIte,show (1:Int)<(D:Int) by omega,show (1:Int)<((D+1:Nat):Int) by omega,show (0:Int)<((D+1:Nat):Int) by omega,show (0:Int)<((D+1-1:Nat):Int) by omega,show (0:Int)<(D:Int) by omega,show (1:Int)<((D+1-1:Nat):Int) by omega,show (1:Int)<(D:Int) by omega,Int.natCast_nonneg,Int.toNat_natCast,Nat.mul_one,Int.le_refl,Int.toNat_zero,List.take_zero,Nat.zero_mul,show (0:Int)≤1 by omega,show (1:Int).toNat=1 from rfl,Nat.sub_zero,Af,(p0).len,Aj (zeT D) (1) (by rw [(p0).len];omega),Ap (zeT D) (1) (by rw [(p0).len];omega),(p0).row (1) (by omega),Ae ((zeT D).getD (1) []) (0) (by rw [(p0).row _ (by omega)];omega),Aa ((zeT D).getD (1) []) (0) (by rw [(p0).row _ (by omega)];omega),Bw (zeT D) (1) (0) 1 (by rw [(p0).len];omega),Af,(p1).len,Aj (put2 (zeT D) 1 0 1) (0) (by rw [(p1).len];omega),Ap (put2 (zeT D) 1 0 1) (0) (by rw [(p1).len];omega),(p1).row (0) (by omega),Ae ((put2 (zeT D) 1 0 1).getD (0) []) (1) (by rw [(p1).row _ (by omega)];omega),Aa ((put2 (zeT D) 1 0 1).getD (0) []) (1) (by rw [(p1).row _ (by omega)];omega),Bw (put2 (zeT D) 1 0 1) (0) (1) 1 (by rw [(p1).len];omega),Af,(p2).len,Aj (put2 (put2 (zeT D) 1 0 1) 0 1 1) (1) (by rw [(p2).len];omega),Ap (put2 (put2 (zeT D) 1 0 1) 0 1 1) (1) (by rw [(p2).len];omega),(p2).row (1) (by omega),Ae ((put2 (put2 (zeT D) 1 0 1) 0 1 1).getD (1) []) (1) (by rw [(p2).row _ (by omega)];omega),Aa ((put2 (put2 (zeT D) 1 0 1) 0 1 1).getD (1) []) (1) (by rw [(p2).row _ (by omega)];omega),Bw (put2 (put2 (zeT D) 1 0 1) 0 1 1) (1) (1) c (by rw [(p2).len];omega)];(first|refine hK _ _ _ ?_|refine ⟨_,hZ,hK _ _ _ ?_⟩);clear hK K)|refine sT ?_))
  refine rt1 ?_
  rw [mulU,if_pos h];rfl
 ·(repeat (first|((with_reducible refine rC rfl fun K hK=>?_);simp only [go_sem,seval,↓reduceIte,show ¬ (1:Int)<(D:Int) by omega,show (1:Int)<((D+1:Nat):Int) by omega,show (0:Int)<((D+1:Nat):Int) by omega,show (0:Int)<((D+1-1:Nat):Int) by omega,show (0:Int)<(D:Int) by omega,Int.natCast_nonneg,Int.toNat_natCast,Nat.mul_one,Int.le_refl,Int.toNat_zero,List.take_zero,Nat.zero_mul,show (0:Int)≤1 by omega,show (1:Int).toNat=1 from rfl,Nat.sub_zero,Af,(p0).len,Aj (zeT D) (1) (by rw [(p0).len];omega),Ap (zeT D) (1) (by rw [(p0).len];omega),(p0).row (1) (by omega),Ae ((zeT D).getD (1) []) (0) (by rw [(p0).row _ (by omega)];omega),Aa ((zeT D).getD (1) []) (0) (by rw [(p0).row _ (by omega)];omega),Bw (zeT D) (1) (0) 1 (by rw [(p0).len];omega),Af,(p1).len,Aj (put2 (zeT D) 1 0 1) (0) (by rw [(p1).len];omega),Ap (put2 (zeT D) 1 0 1) (0) (by rw [(p1).len];omega),(p1).row (0) (by omega),Ae ((put2 (zeT D) 1 0 1).getD (0) []) (1) (by rw [(p1).row _ (by omega)];omega),Aa ((put2 (zeT D) 1 0 1).getD (0) []) (1) (by rw [(p1).row _ (by omega)];omega),Bw (put2 (zeT D) 1 0 1) (0) (1) 1 (by rw [(p1).len];omega)];(first|refine hK _ _ _ ?_|refine ⟨_,hZ,hK _ _ _ ?_⟩);clear hK K)|refine sT ?_))
  refine rt1 ?_
  rw [mulU,if_neg h];rfl
def tnP (m c:Int):Nat→Int
 | 0=>1
 | k+1=>tnP m c k*(m-c)%m
theorem Acj {m:Int} (hm:1<m) (c:Int):∀ k,0≤tnP m c k∧tnP m c k<m
 | 0=>by rw [tnP];omega
 | k+1=>Aq _ m (by omega)
def tnT (m c:Int) (D:Nat):Nat→List (List Int)
 | 0=>zeT D
 | k+1=>put2 (put2 (tnT m c D k) (k+1) k (tnP m c k)) k (k+1) (tnP m c k)
theorem Vo {m:Int} (hm:1<m) (c:Int) (D:Nat):∀ k,Pl m (D+1) (tnT m c D k)
 | 0=>E4 (by omega) D
 | k+1=>((Vo hm c D k).put (Acj hm c k) _ _).put (Acj hm c k) _ _
set_option maxHeartbeats 4000000 in
theorem N1 (m c:Int) (D:Nat) (hm:1<m) (hm2:m≤10000) (hc:0≤c∧c<m) (h1:1≤D) (hD:D≤100):AFn Tryz.prog 267 [.int .i64 m,.int .i64 D,.int .i64 c] (.sl true 27 (rowsO (tnT m c D ((D+1)/2)))):=by
 refine fO Tryz.func267 Tryz.ntmps267 (by rw [Tryz.results267]) fun C hP hM hC=>?_
 have hZ:AFn Tryz.prog 176 [.int .i64 D] (.sl true 27 (rowsO (zeT D))):=Bz D (by omega)
 have e1:(1:Int).tmod m=1:=by rw [tm _ _ (by omega)];exact Int.emod_eq_of_lt (by omega) hm
 (repeat (first|((with_reducible refine rC rfl fun K hK=>?_);simp only [go_sem,seval,↓reduceIte,e1,show m≠0 by omega];(first|refine hK _ _ _ ?_|refine ⟨_,hZ,hK _ _ _ ?_⟩);clear hK K)|refine sT ?_))
 refine AWP.loop (fun k:Nat=>[(9,⟨0,.val (.int .i64 k)⟩),(8,⟨0,.val (.int .i64 (tnP m c k))⟩),(7,⟨1,.own (.sl true 27 (rowsO (tnT m c D k)))⟩),(0,⟨0,.val (.int .i64 m)⟩),(1,⟨0,.val (.int .i64 D)⟩),(2,⟨0,.val (.int .i64 c)⟩)]) (fun k=>k≤(D+1)/2) (fun k=>(D+1)/2-k) 0 (Nat.zero_le _) (fun k=>rfl) ?_ (fun k hk=>?_)
 ·simp [Sub,lk,tnP,tnT]
 ·have p0:=Vo hm c D k
  have hp:=Acj hm c k
  have p1:=p0.put hp (k+1) k
  have w1:IntKind.i64.wrap (2*(k:Int))=2*(k:Int):=wid _ (by omega) (by omega)
  have w2:IntKind.i64.wrap (2*(k:Int)+1)=2*(k:Int)+1:=wid _ (by omega) (by omega)
  by_cases h:2*k+1≤D
  ·have w3:IntKind.i64.wrap ((k:Int)+1)=((k+1:Nat):Int):=by rw [wid _ (by omega) (by omega)];omega
   have w4:IntKind.i64.wrap (m-c)=m-c:=wid _ (by omega) (by omega)
   have hmul:0≤tnP m c k*(m-c)∧tnP m c k*(m-c)≤10000*10000:=⟨Int.mul_nonneg hp.1 (by omega),Int.mul_le_mul (by omega) (by omega) (by omega) (by omega)⟩
   have w5:IntKind.i64.wrap (tnP m c k*(m-c))=tnP m c k*(m-c):=wid _ (by omega) (by omega)
   (repeat (first|((with_reducible refine rC rfl fun K hK=>?_);simp only [go_sem,seval,↓reduceIte,w1,w2,show 2*(k:Int)+1≤(D:Int) by omega,w3,show ((k+1:Nat):Int)<((D+1:Nat):Int) by omega,show (k:Int)<((D+1:Nat):Int) by omega,show (k:Int)<((D+1-(k+1):Nat):Int) by omega,show (k:Int)<((D-k:Nat):Int) by omega,show ((k+1:Nat):Int)<((D+1-k:Nat):Int) by omega,Int.natCast_nonneg,Int.toNat_natCast,Nat.mul_one,Int.le_refl,Int.toNat_zero,List.take_zero,Nat.zero_mul,show (0:Int)≤1 by omega,show (1:Int).toNat=1 from rfl,Nat.sub_zero,Af,(p0).len,Aj (tnT m c D k) (k+1) (by rw [(p0).len];omega),Ap (tnT m c D k) (k+1) (by rw [(p0).len];omega),(p0).row (k+1) (by omega),Ae ((tnT m c D k).getD (k+1) []) (k) (by rw [(p0).row _ (by omega)];omega),Aa ((tnT m c D k).getD (k+1) []) (k) (by rw [(p0).row _ (by omega)];omega),Bw (tnT m c D k) (k+1) (k) (tnP m c k) (by rw [(p0).len];omega),Af,(p1).len,Aj (put2 (tnT m c D k) (k+1) k (tnP m c k)) (k) (by rw [(p1).len];omega),Ap (put2 (tnT m c D k) (k+1) k (tnP m c k)) (k) (by rw [(p1).len];omega),(p1).row (k) (by omega),Ae ((put2 (tnT m c D k) (k+1) k (tnP m c k)).getD (k) []) (k+1) (by rw [(p1).row _ (by omega)];omega),Aa ((put2 (tnT m c D k) (k+1) k (tnP m c k)).getD (k) []) (k+1) (by rw [(p1).row _ (by omega)];omega),Bw (put2 (tnT m c D k) (k+1) k (tnP m c k)) (k) (k+1) (tnP m c k) (by rw [(p1).len];omega),w4,w5,tm (tnP m c k*(m-c)) m hmul.1,show m≠0 by omega];refine hK _ _ _ ?_;clear hK K)|refine sT ?_))
   exact ⟨k+1,by omega,by omega,by simp [Sub,lk,tnP,tnT]⟩
  ·(repeat (first|((with_reducible refine rC rfl fun K hK=>?_);simp only [go_sem,seval,↓reduceIte,w1,w2,show ¬ 2*(k:Int)+1≤(D:Int) by omega];refine hK _ _ _ ?_;clear hK K)|refine sT ?_))
   refine rt1 ?_
   rw [show k=(D+1)/2 by omega]
def roW (m:Int) (l:List Int) (n:Nat) (w:Int):Nat→Int
 | 0=>w
 | i+1=>(roW m l n w i+(m-at' l (i+1))*at' l (n-i))%m
def roV (m a e:Int) (n:Nat):Int:=if n=4 then e else if n=2 then (2*m-2*a)%m else 0
def roL (m a e:Int) (D:Nat):Nat→List Int
 | 0=>(tab (D+1) (fun _=>0)).set 0 1
 | n+1=>(roL m a e D n).set (n+1) (roW m (roL m a e D n) n (roV m a e (n+1)) n*invL m 2%m)
theorem Abh {m:Int} (hm:0<m) (l:List Int) (n:Nat) {w:Int} (hw:0≤w∧w<m):∀ i,0≤roW m l n w i∧roW m l n w i<m
 | 0=>hw
 | i+1=>Aq _ m hm
theorem Aln {m a e:Int} (hm:0<m) (he:0≤e∧e<m) (n:Nat):0≤roV m a e n∧roV m a e n<m:=by
 unfold roV
 split
 ·exact he
 ·split
  ·exact Aq _ m hm
  ·omega
theorem Acr {m:Int} (hm:1<m) (a e:Int) (D:Nat):∀ n,(roL m a e D n).length=D+1∧∀ x∈roL m a e D n,0≤x∧x<m
 | 0=>⟨by rw [roL,List.length_set,Ah],Ng (fun x hx=>by obtain ⟨i,_,rfl⟩:=Cr.1 hx;omega) (by omega) 0⟩
 | n+1=>by
  have ih:=Acr hm a e D n
  exact ⟨by rw [roL,List.length_set];exact ih.1,Ng ih.2 (Aq _ m (by omega)) _⟩
set_option maxHeartbeats 8000000 in
theorem Q7 (m a e:Int) (D:Nat) (hm:1<m) (hm2:m≤10000) (ha:0≤a∧a<m) (he:0≤e∧e<m) (h1:1≤D) (hD:D≤100):AFn Tryz.prog 274 [.int .i64 m,.int .i64 D,.int .i64 a,.int .i64 e] (.sl true 2 (intL (roL m a e D D))):=by
 refine fO Tryz.func274 Tryz.ntmps274 (by rw [Tryz.results274]) fun C hP hM hC=>?_
 have hl0:(tab (D+1) (fun _=>0)).length=D+1:=Ah _ _
 have hI:=Df m 2 (by omega)
 (repeat (first|((with_reducible refine rC rfl fun K hK=>?_);simp only [go_sem,seval,↓reduceIte,show IntKind.i64.wrap ((D:Int)+1)=((D+1:Nat):Int) by rw [wid _ (by omega) (by omega)];omega,Int.natCast_nonneg,Int.toNat_natCast,show ((D+1:Nat):Int)≤1099511627776 by omega,Bd,Dd,hl0,show (0:Int)<((D+1:Nat):Int) by omega,Int.le_refl,Int.toNat_zero,List.take_zero,Nat.zero_mul,Ae (tab (D+1) (fun _=>0)) 0 (by omega),Ax];(first|refine hK _ _ _ ?_|refine ⟨_,Hy m 2 (by omega) (by omega),hK _ _ _ ?_⟩);clear hK K)|refine sT ?_))
 refine AWP.loop (fun n:Nat=>[(11,⟨0,.val (.int .i64 (n+1:Nat))⟩),(10,⟨1,.own (.sl true 2 (intL (roL m a e D n)))⟩),(9,⟨0,.val (.int .i64 (invL m 2))⟩),(0,⟨0,.val (.int .i64 m)⟩),(1,⟨0,.val (.int .i64 D)⟩),(2,⟨0,.val (.int .i64 a)⟩),(3,⟨0,.val (.int .i64 e)⟩)]) (fun n=>n≤D) (fun n=>D-n) 0 (Nat.zero_le _) (fun n=>rfl) ?_ (fun n hn=>?_)
 ·simp [Sub,lk,roL]
 ·have hf:=Acr hm a e D n
  by_cases hlt:n<D
  ·have hV:=Aln (a:=a) (show 0<m by omega) he (n+1)
   have w1:IntKind.i64.wrap (2*m)=2*m:=wid _ (by omega) (by omega)
   have w2:IntKind.i64.wrap (2*a)=2*a:=wid _ (by omega) (by omega)
   have w3:IntKind.i64.wrap (2*m-2*a)=2*m-2*a:=wid _ (by omega) (by omega)
   by_cases c2:n+1=2
   ·have hv:roV m a e (n+1)=(2*m-2*a)%m:=by rw [roV,if_neg (by omega),if_pos c2]
    (repeat (first|((with_reducible refine rC rfl fun K hK=>?_);simp only [go_sem,seval,↓reduceIte,show ((n+1:Nat):Int)≤(D:Int) by omega,show (((n+1:Nat):Int)==2)=true by rw [beq_iff_eq];omega,show (((n+1:Nat):Int)==4)=false by rw [beq_eq_false_iff_ne];omega,w1,w2,w3,tm (2*m-2*a) m (by omega),show m≠0 by omega];refine hK _ _ _ ?_;clear hK K)|refine sT ?_))
    refine AWP.loop (fun i:Nat=>[(13,⟨0,.val (.int .i64 (i+1:Nat))⟩),(12,⟨0,.val (.int .i64 (roW m (roL m a e D n) n (roV m a e (n+1)) i))⟩),(11,⟨0,.val (.int .i64 (n+1:Nat))⟩),(10,⟨1,.own (.sl true 2 (intL (roL m a e D n)))⟩),(9,⟨0,.val (.int .i64 (invL m 2))⟩),(0,⟨0,.val (.int .i64 m)⟩),(1,⟨0,.val (.int .i64 D)⟩),(2,⟨0,.val (.int .i64 a)⟩),(3,⟨0,.val (.int .i64 e)⟩)]) (fun i=>i≤n) (fun i=>n-i) 0 (Nat.zero_le _) (fun i=>rfl) ?_ (fun i hi=>?_)
    ·simp [Sub,lk,roW,hv]
    ·have hW:=Abh (show 0<m by omega) (roL m a e D n) n hV i
     by_cases hin:i<n
     ·have b1:=An hf.2 (show 0<m by omega) (i+1)
      have b2:=An hf.2 (show 0<m by omega) (n-i)
      have hmul:0≤(m-at' (roL m a e D n) (i+1))*at' (roL m a e D n) (n-i)∧(m-at' (roL m a e D n) (i+1))*at' (roL m a e D n) (n-i)≤10000*10000:=⟨Int.mul_nonneg (by omega) b2.1,Int.mul_le_mul (by omega) (by omega) (by omega) (by omega)⟩
      (repeat (first|((with_reducible refine rC rfl fun K hK=>?_);simp only [go_sem,seval,↓reduceIte,show ((i+1:Nat):Int)<((n+1:Nat):Int) by omega,hf.1,show ((i+1:Nat):Int)<((D+1:Nat):Int) by omega,Int.natCast_nonneg,Int.toNat_natCast,Nat.mul_one,Aa (roL m a e D n) (i+1) (by omega),Ae (roL m a e D n) (i+1) (by omega),show (roL m a e D n).getD (i+1) 0=at' (roL m a e D n) (i+1) from rfl,show IntKind.i64.wrap (((n+1:Nat):Int)-((i+1:Nat):Int))=((n-i:Nat):Int) by rw [wid _ (by omega) (by omega)];omega,show ((n-i:Nat):Int)<((D+1:Nat):Int) by omega,Aa (roL m a e D n) (n-i) (by omega),Ae (roL m a e D n) (n-i) (by omega),show (roL m a e D n).getD (n-i) 0=at' (roL m a e D n) (n-i) from rfl,wid (m-at' (roL m a e D n) (i+1)) (by omega) (by omega),wid ((m-at' (roL m a e D n) (i+1))*at' (roL m a e D n) (n-i)) (by omega) (by omega),wid (roW m (roL m a e D n) n (roV m a e (n+1)) i+(m-at' (roL m a e D n) (i+1))*at' (roL m a e D n) (n-i)) (by omega) (by omega),tm (roW m (roL m a e D n) n (roV m a e (n+1)) i+(m-at' (roL m a e D n) (i+1))*at' (roL m a e D n) (n-i)) m (by omega),show m≠0 by omega,show IntKind.i64.wrap (((i+1:Nat):Int)+1)=((i+1+1:Nat):Int) by rw [wid _ (by omega) (by omega)];omega];refine hK _ _ _ ?_;clear hK K)|refine sT ?_))
      exact ⟨i+1,by omega,by omega,by simp [Sub,lk,roW]⟩
     ·have hie:i=n:=by omega
      subst hie
      have hmul:0≤roW m (roL m a e D i) i (roV m a e (i+1)) i*invL m 2∧roW m (roL m a e D i) i (roV m a e (i+1)) i*invL m 2≤10000*10000:=⟨Int.mul_nonneg hW.1 hI.1,Int.mul_le_mul (by omega) (by omega) hI.1 (by omega)⟩
      (repeat (first|((with_reducible refine rC rfl fun K hK=>?_);simp only [go_sem,seval,↓reduceIte,show ¬ ((i+1:Nat):Int)<((i+1:Nat):Int) by omega,hf.1,show ((i+1:Nat):Int)<((D+1:Nat):Int) by omega,Int.natCast_nonneg,Int.toNat_natCast,Nat.mul_one,Aa (roL m a e D i) (i+1) (by omega),Ae (roL m a e D i) (i+1) (by omega),Ax,wid (roW m (roL m a e D i) i (roV m a e (i+1)) i*invL m 2) (by omega) (by omega),tm (roW m (roL m a e D i) i (roV m a e (i+1)) i*invL m 2) m hmul.1,show m≠0 by omega,show IntKind.i64.wrap (((i+1:Nat):Int)+1)=((i+1+1:Nat):Int) by rw [wid _ (by omega) (by omega)];omega];refine hK _ _ _ ?_;clear hK K)|refine sT ?_))
      exact ⟨i+1,by omega,by omega,by simp [Sub,lk,roL]⟩
   by_cases c4:n+1=4
   ·have hv:roV m a e (n+1)=e:=by rw [roV,if_pos c4]
    (repeat (first|((with_reducible refine rC rfl fun K hK=>?_);simp only [go_sem,seval,↓reduceIte,show ((n+1:Nat):Int)≤(D:Int) by omega,show (((n+1:Nat):Int)==2)=false by rw [beq_eq_false_iff_ne];omega,show (((n+1:Nat):Int)==4)=true by rw [beq_iff_eq];omega,w1,w2,w3,tm (2*m-2*a) m (by omega),show m≠0 by omega];refine hK _ _ _ ?_;clear hK K)|refine sT ?_))
    refine AWP.loop (fun i:Nat=>[(13,⟨0,.val (.int .i64 (i+1:Nat))⟩),(12,⟨0,.val (.int .i64 (roW m (roL m a e D n) n (roV m a e (n+1)) i))⟩),(11,⟨0,.val (.int .i64 (n+1:Nat))⟩),(10,⟨1,.own (.sl true 2 (intL (roL m a e D n)))⟩),(9,⟨0,.val (.int .i64 (invL m 2))⟩),(0,⟨0,.val (.int .i64 m)⟩),(1,⟨0,.val (.int .i64 D)⟩),(2,⟨0,.val (.int .i64 a)⟩),(3,⟨0,.val (.int .i64 e)⟩)]) (fun i=>i≤n) (fun i=>n-i) 0 (Nat.zero_le _) (fun i=>rfl) ?_ (fun i hi=>?_)
    ·simp [Sub,lk,roW,hv]
    ·have hW:=Abh (show 0<m by omega) (roL m a e D n) n hV i
     by_cases hin:i<n
     ·have b1:=An hf.2 (show 0<m by omega) (i+1)
      have b2:=An hf.2 (show 0<m by omega) (n-i)
      have hmul:0≤(m-at' (roL m a e D n) (i+1))*at' (roL m a e D n) (n-i)∧(m-at' (roL m a e D n) (i+1))*at' (roL m a e D n) (n-i)≤10000*10000:=⟨Int.mul_nonneg (by omega) b2.1,Int.mul_le_mul (by omega) (by omega) (by omega) (by omega)⟩
      (repeat (first|((with_reducible refine rC rfl fun K hK=>?_);simp only [go_sem,seval,↓reduceIte,show ((i+1:Nat):Int)<((n+1:Nat):Int) by omega,hf.1,show ((i+1:Nat):Int)<((D+1:Nat):Int) by omega,Int.natCast_nonneg,Int.toNat_natCast,Nat.mul_one,Aa (roL m a e D n) (i+1) (by omega),Ae (roL m a e D n) (i+1) (by omega),show (roL m a e D n).getD (i+1) 0=at' (roL m a e D n) (i+1) from rfl,show IntKind.i64.wrap (((n+1:Nat):Int)-((i+1:Nat):Int))=((n-i:Nat):Int) by rw [wid _ (by omega) (by omega)];omega,show ((n-i:Nat):Int)<((D+1:Nat):Int) by omega,Aa (roL m a e D n) (n-i) (by omega),Ae (roL m a e D n) (n-i) (by omega),show (roL m a e D n).getD (n-i) 0=at' (roL m a e D n) (n-i) from rfl,wid (m-at' (roL m a e D n) (i+1)) (by omega) (by omega),wid ((m-at' (roL m a e D n) (i+1))*at' (roL m a e D n) (n-i)) (by omega) (by omega),wid (roW m (roL m a e D n) n (roV m a e (n+1)) i+(m-at' (roL m a e D n) (i+1))*at' (roL m a e D n) (n-i)) (by omega) (by omega),tm (roW m (roL m a e D n) n (roV m a e (n+1)) i+(m-at' (roL m a e D n) (i+1))*at' (roL m a e D n) (n-i)) m (by omega),show m≠0 by omega,show IntKind.i64.wrap (((i+1:Nat):Int)+1)=((i+1+1:Nat):Int) by rw [wid _ (by omega) (by omega)];omega];refine hK _ _ _ ?_;clear hK K)|refine sT ?_))
      exact ⟨i+1,by omega,by omega,by simp [Sub,lk,roW]⟩
     ·have hie:i=n:=by omega
      subst hie
      have hmul:0≤roW m (roL m a e D i) i (roV m a e (i+1)) i*invL m 2∧roW m (roL m a e D i) i (roV m a e (i+1)) i*invL m 2≤10000*10000:=⟨Int.mul_nonneg hW.1 hI.1,Int.mul_le_mul (by omega) (by omega) hI.1 (by omega)⟩
      (repeat (first|((with_reducible refine rC rfl fun K hK=>?_);simp only [go_sem,seval,↓reduceIte,show ¬ ((i+1:Nat):Int)<((i+1:Nat):Int) by omega,hf.1,show ((i+1:Nat):Int)<((D+1:Nat):Int) by omega,Int.natCast_nonneg,Int.toNat_natCast,Nat.mul_one,Aa (roL m a e D i) (i+1) (by omega),Ae (roL m a e D i) (i+1) (by omega),Ax,wid (roW m (roL m a e D i) i (roV m a e (i+1)) i*invL m 2) (by omega) (by omega),tm (roW m (roL m a e D i) i (roV m a e (i+1)) i*invL m 2) m hmul.1,show m≠0 by omega,show IntKind.i64.wrap (((i+1:Nat):Int)+1)=((i+1+1:Nat):Int) by rw [wid _ (by omega) (by omega)];omega];refine hK _ _ _ ?_;clear hK K)|refine sT ?_))
      exact ⟨i+1,by omega,by omega,by simp [Sub,lk,roL]⟩
   ·have hv:roV m a e (n+1)=0:=by rw [roV,if_neg c4,if_neg c2]
    (repeat (first|((with_reducible refine rC rfl fun K hK=>?_);simp only [go_sem,seval,↓reduceIte,show ((n+1:Nat):Int)≤(D:Int) by omega,show (((n+1:Nat):Int)==2)=false by rw [beq_eq_false_iff_ne];omega,show (((n+1:Nat):Int)==4)=false by rw [beq_eq_false_iff_ne];omega,w1,w2,w3,tm (2*m-2*a) m (by omega),show m≠0 by omega];refine hK _ _ _ ?_;clear hK K)|refine sT ?_))
    refine AWP.loop (fun i:Nat=>[(13,⟨0,.val (.int .i64 (i+1:Nat))⟩),(12,⟨0,.val (.int .i64 (roW m (roL m a e D n) n (roV m a e (n+1)) i))⟩),(11,⟨0,.val (.int .i64 (n+1:Nat))⟩),(10,⟨1,.own (.sl true 2 (intL (roL m a e D n)))⟩),(9,⟨0,.val (.int .i64 (invL m 2))⟩),(0,⟨0,.val (.int .i64 m)⟩),(1,⟨0,.val (.int .i64 D)⟩),(2,⟨0,.val (.int .i64 a)⟩),(3,⟨0,.val (.int .i64 e)⟩)]) (fun i=>i≤n) (fun i=>n-i) 0 (Nat.zero_le _) (fun i=>rfl) ?_ (fun i hi=>?_)
    ·simp [Sub,lk,roW,hv]
    ·have hW:=Abh (show 0<m by omega) (roL m a e D n) n hV i
     by_cases hin:i<n
     ·have b1:=An hf.2 (show 0<m by omega) (i+1)
      have b2:=An hf.2 (show 0<m by omega) (n-i)
      have hmul:0≤(m-at' (roL m a e D n) (i+1))*at' (roL m a e D n) (n-i)∧(m-at' (roL m a e D n) (i+1))*at' (roL m a e D n) (n-i)≤10000*10000:=⟨Int.mul_nonneg (by omega) b2.1,Int.mul_le_mul (by omega) (by omega) (by omega) (by omega)⟩
      (repeat (first|((with_reducible refine rC rfl fun K hK=>?_);simp only [go_sem,seval,↓reduceIte,show ((i+1:Nat):Int)<((n+1:Nat):Int) by omega,hf.1,show ((i+1:Nat):Int)<((D+1:Nat):Int) by omega,Int.natCast_nonneg,Int.toNat_natCast,Nat.mul_one,Aa (roL m a e D n) (i+1) (by omega),Ae (roL m a e D n) (i+1) (by omega),show (roL m a e D n).getD (i+1) 0=at' (roL m a e D n) (i+1) from rfl,show IntKind.i64.wrap (((n+1:Nat):Int)-((i+1:Nat):Int))=((n-i:Nat):Int) by rw [wid _ (by omega) (by omega)];omega,show ((n-i:Nat):Int)<((D+1:Nat):Int) by omega,Aa (roL m a e D n) (n-i) (by omega),Ae (roL m a e D n) (n-i) (by omega),show (roL m a e D n).getD (n-i) 0=at' (roL m a e D n) (n-i) from rfl,wid (m-at' (roL m a e D n) (i+1)) (by omega) (by omega),wid ((m-at' (roL m a e D n) (i+1))*at' (roL m a e D n) (n-i)) (by omega) (by omega),wid (roW m (roL m a e D n) n (roV m a e (n+1)) i+(m-at' (roL m a e D n) (i+1))*at' (roL m a e D n) (n-i)) (by omega) (by omega),tm (roW m (roL m a e D n) n (roV m a e (n+1)) i+(m-at' (roL m a e D n) (i+1))*at' (roL m a e D n) (n-i)) m (by omega),show m≠0 by omega,show IntKind.i64.wrap (((i+1:Nat):Int)+1)=((i+1+1:Nat):Int) by rw [wid _ (by omega) (by omega)];omega];refine hK _ _ _ ?_;clear hK K)|refine sT ?_))
      exact ⟨i+1,by omega,by omega,by simp [Sub,lk,roW]⟩
     ·have hie:i=n:=by omega
      subst hie
      have hmul:0≤roW m (roL m a e D i) i (roV m a e (i+1)) i*invL m 2∧roW m (roL m a e D i) i (roV m a e (i+1)) i*invL m 2≤10000*10000:=⟨Int.mul_nonneg hW.1 hI.1,Int.mul_le_mul (by omega) (by omega) hI.1 (by omega)⟩
      (repeat (first|((with_reducible refine rC rfl fun K hK=>?_);simp only [go_sem,seval,↓reduceIte,show ¬ ((i+1:Nat):Int)<((i+1:Nat):Int) by omega,hf.1,show ((i+1:Nat):Int)<((D+1:Nat):Int) by omega,Int.natCast_nonneg,Int.toNat_natCast,Nat.mul_one,Aa (roL m a e D i) (i+1) (by omega),Ae (roL m a e D i) (i+1) (by omega),Ax,wid (roW m (roL m a e D i) i (roV m a e (i+1)) i*invL m 2) (by omega) (by omega),tm (roW m (roL m a e D i) i (roV m a e (i+1)) i*invL m 2) m hmul.1,show m≠0 by omega,show IntKind.i64.wrap (((i+1:Nat):Int)+1)=((i+1+1:Nat):Int) by rw [wid _ (by omega) (by omega)];omega];refine hK _ _ _ ?_;clear hK K)|refine sT ?_))
      exact ⟨i+1,by omega,by omega,by simp [Sub,lk,roL]⟩
  ·(repeat (first|((with_reducible refine rC rfl fun K hK=>?_);simp only [go_sem,seval,↓reduceIte,show ¬ ((n+1:Nat):Int)≤(D:Int) by omega];refine hK _ _ _ ?_;clear hK K)|refine sT ?_))
   refine rt1 ?_
   rw [show n=D by omega]
def euA (r:List Int) (D:Nat):Nat→List (List Int)
 | 0=>zeT D
 | i+1=>put2 (euA r D i) 1 i (at' r i)
def euB (m:Int) (r:List Int) (s:List (List Int)):Nat→List (List Int)
 | 0=>s
 | i+1=>put2 (euB m r s i) i 1 ((pc (euB m r s i) i 1+at' r i)%m)
def euP (m b:Int):Nat→Int
 | 0=>1
 | k+1=>euP m b k*b%m
def euC (m b:Int) (D:Nat):Nat→List (List Int)
 | 0=>zeT D
 | k+1=>put2 (euC m b D k) (2*k) (2*k) (euP m b k)
theorem Ae7 {m:Int} (hm:1<m) {r:List Int} (hr:∀ x∈r,0≤x∧x<m) (D:Nat):∀ i,Pl m (D+1) (euA r D i)
 | 0=>E4 (by omega) D
 | i+1=>(Ae7 hm hr D i).put (An hr (by omega) i) 1 i
theorem Adx {m:Int} (hm:1<m) (r:List Int) {s:List (List Int)} {n:Nat} (hs:Pl m n s):∀ i,Pl m n (euB m r s i)
 | 0=>hs
 | i+1=>(Adx hm r hs i).put (Aq _ m (by omega)) i 1
theorem Ai2 {m:Int} (hm:1<m) (b:Int):∀ k,0≤euP m b k∧euP m b k<m
 | 0=>by rw [euP];omega
 | k+1=>Aq _ m (by omega)
theorem Adv {m:Int} (hm:1<m) (b:Int) (D:Nat):∀ k,Pl m (D+1) (euC m b D k)
 | 0=>E4 (by omega) D
 | k+1=>(Adv hm b D k).put (Ai2 hm b k) _ _
def euT (m a b:Int) (D:Nat):List (List Int):=pmul m (D+1) (pc (euB m (roL m a b D D) (euA (roL m a b D D) D D) D)) (pc (euC m b D (D/4+1)))
theorem Akx {m:Int} (hm:0<m) (a b:Int) (D:Nat):Pl m (D+1) (euT m a b D):=E0 hm _ _ _
set_option maxHeartbeats 8000000 in
theorem Ps (m a b:Int) (D:Nat) (hm:1<m) (hm2:m≤10000) (ha:0≤a∧a<m) (hb:0≤b∧b<m) (h1:1≤D) (hD:D≤100):AFn Tryz.prog 268 [.int .i64 m,.int .i64 D,.int .i64 a,.int .i64 b] (.sl true 27 (rowsO (euT m a b D))):=by
 refine fO Tryz.func268 Tryz.ntmps268 (by rw [Tryz.results268]) fun C hP hM hC=>?_
 have hZ:AFn Tryz.prog 176 [.int .i64 D] (.sl true 27 (rowsO (zeT D))):=Bz D (by omega)
 have hR:=Q7 m a b D hm hm2 ha hb h1 hD
 have hrf:=Acr hm a b D D
 obtain ⟨r,er⟩:∃ r,r=roL m a b D D:=⟨_,rfl⟩
 unfold euT
 rw [← er] at hrf hR ⊢
 have e1:(1:Int).tmod m=1:=by rw [tm _ _ (by omega)];exact Int.emod_eq_of_lt (by omega) hm
 have pA:=Ae7 hm hrf.2 D
 have pB:=Adx hm r (pA D)
 have pC:=Adv hm b D
 (repeat (first|((with_reducible refine rC rfl fun K hK=>?_);simp only [go_sem,seval,↓reduceIte];(first|refine hK _ _ _ ?_|refine ⟨_,hZ,hK _ _ _ ?_⟩|refine ⟨_,hR,hK _ _ _ ?_⟩);clear hK K)|refine sT ?_))
 refine AWP.loop (fun i:Nat=>[(12,⟨0,.val (.int .i64 i)⟩),(11,⟨1,.own (.sl true 27 (rowsO (zeT D)))⟩),(10,⟨1,.own (.sl true 27 (rowsO (euA r D i)))⟩),(9,⟨1,.own (.sl true 2 (intL r))⟩),(0,⟨0,.val (.int .i64 m)⟩),(1,⟨0,.val (.int .i64 D)⟩),(3,⟨0,.val (.int .i64 b)⟩)]) (fun i=>i≤D) (fun i=>D-i) 0 (Nat.zero_le _) (fun i=>rfl) ?_ (fun i hi=>?_)
 ·simp [Sub,lk,euA]
 ·have p0:=pA i
  by_cases h:i<D
  ·have zq1:(i:Int)<(D:Int):=(by omega);have zq2:(0:Int)≤1:=(by omega);have zq3:(1:Int).toNat=1:=rfl;have zq4:((i:Nat):Int)<((D+1:Nat):Int):=(by omega);have zq5:=Aa (r) (i) (by omega);have zq6:=Ae (r) (i) (by omega);have zq7:(r).getD (i) 0=at' (r) (i):=rfl;have zq8:(1:Int)<((D+1:Nat):Int):=(by omega);have zq9:(i:Int)<((D+1-1:Nat):Int):=(by omega);have zq10:(i:Int)<(D:Int):=(by omega);have zq11:=Aj (euA r D i) (1) (by rw [(p0).len];omega);have zq12:=Ap (euA r D i) (1) (by rw [(p0).len];omega);have zq13:=Bw (euA r D i) (1) (i) (at' r i) (by rw [(p0).len];omega);have zq14:=wid ((i:Int)+1) (by omega) (by omega)
   (repeat (first|((with_reducible refine rC rfl fun K hK=>?_);simp only [go_sem,seval,↓reduceIte,zq1,Int.natCast_nonneg,Int.toNat_natCast,Nat.mul_one,Int.le_refl,Int.toNat_zero,List.take_zero,Nat.zero_mul,zq2,zq3,Nat.sub_zero,hrf.1,zq4,zq5,zq6,zq7,zq8,zq9,zq10,Af,(p0).len,zq11,zq12,(p0).row (1) (by omega),Ae ((euA r D i).getD (1) []) (i) (by rw [(p0).row _ (by omega)];omega),Aa ((euA r D i).getD (1) []) (i) (by rw [(p0).row _ (by omega)];omega),zq13,zq14];refine hK _ _ _ ?_;clear hK K)|refine sT ?_))
   exact ⟨i+1,by omega,by omega,by simp [Sub,lk,euA]⟩
  ·have zq15:¬ (i:Int)<(D:Int):=(by omega)
   (repeat (first|((with_reducible refine rC rfl fun K hK=>?_);simp only [go_sem,seval,↓reduceIte,zq15];refine hK _ _ _ ?_;clear hK K)|refine sT ?_))
   rw [show i=D by omega]
   refine AWP.loop (fun i:Nat=>[(13,⟨0,.val (.int .i64 i)⟩),(11,⟨1,.own (.sl true 27 (rowsO (zeT D)))⟩),(10,⟨1,.own (.sl true 27 (rowsO (euB m r (euA r D D) i)))⟩),(9,⟨1,.own (.sl true 2 (intL r))⟩),(0,⟨0,.val (.int .i64 m)⟩),(1,⟨0,.val (.int .i64 D)⟩),(3,⟨0,.val (.int .i64 b)⟩)]) (fun i=>i≤D) (fun i=>D-i) 0 (Nat.zero_le _) (fun i=>rfl) ?_ (fun i hi=>?_)
   ·simp [Sub,lk,euB]
   ·have p0:=pB i
    have nb:=p0.num i 1
    have rb:=An hrf.2 (show 0<m by omega) i
    by_cases h:i<D
    ·have zq16:(i:Int)<(D:Int):=(by omega);have zq17:(0:Int)≤1:=(by omega);have zq18:(1:Int).toNat=1:=rfl;have zq19:((i:Nat):Int)<((D+1:Nat):Int):=(by omega);have zq20:=Aa (r) (i) (by omega);have zq21:=Ae (r) (i) (by omega);have zq22:(r).getD (i) 0=at' (r) (i):=rfl;have zq23:(i:Int)<((D+1:Nat):Int):=(by omega);have zq24:(1:Int)<((D+1-i:Nat):Int):=(by omega);have zq25:=Aj (euB m r (euA r D D) i) (i) (by rw [(p0).len];omega);have zq26:=Ap (euB m r (euA r D D) i) (i) (by rw [(p0).len];omega);have zq27:=Bw (euB m r (euA r D D) i) (i) (1) ((pc (euB m r (euA r D D) i) i 1+at' r i)%m) (by rw [(p0).len];omega);have zq28:((euB m r (euA r D D) i).getD i []).getD 1 0=pc (euB m r (euA r D D) i) i 1:=rfl;have zq29:=wid (pc (euB m r (euA r D D) i) i 1+at' r i) (by omega) (by omega);have zq30:=tm (pc (euB m r (euA r D D) i) i 1+at' r i) m (by omega);have zq31:m≠0:=(by omega);have zq32:=wid ((i:Int)+1) (by omega) (by omega)
     (repeat (first|((with_reducible refine rC rfl fun K hK=>?_);simp only [go_sem,seval,↓reduceIte,zq16,Int.natCast_nonneg,Int.toNat_natCast,Nat.mul_one,Int.le_refl,Int.toNat_zero,List.take_zero,Nat.zero_mul,zq17,zq18,Nat.sub_zero,hrf.1,zq19,zq20,zq21,zq22,zq23,zq24,Af,(p0).len,zq25,zq26,(p0).row (i) (by omega),Ae ((euB m r (euA r D D) i).getD (i) []) (1) (by rw [(p0).row _ (by omega)];omega),Aa ((euB m r (euA r D D) i).getD (i) []) (1) (by rw [(p0).row _ (by omega)];omega),zq27,Ac ((euB m r (euA r D D) i).getD i []) 1 (by rw [p0.row _ (by omega)];omega),zq28,zq29,zq30,zq31,zq32];refine hK _ _ _ ?_;clear hK K)|refine sT ?_))
     exact ⟨i+1,by omega,by omega,by simp [Sub,lk,euB]⟩
    ·have zq33:¬ (i:Int)<(D:Int):=(by omega);have zq34:m≠0:=(by omega)
     (repeat (first|((with_reducible refine rC rfl fun K hK=>?_);simp only [go_sem,seval,↓reduceIte,zq33,e1,zq34];refine hK _ _ _ ?_;clear hK K)|refine sT ?_))
     rw [show i=D by omega]
     refine AWP.loop (fun k:Nat=>[(16,⟨0,.val (.int .i64 k)⟩),(15,⟨0,.val (.int .i64 (euP m b k))⟩),(11,⟨1,.own (.sl true 27 (rowsO (euC m b D k)))⟩),(10,⟨1,.own (.sl true 27 (rowsO (euB m r (euA r D D) D)))⟩),(0,⟨0,.val (.int .i64 m)⟩),(1,⟨0,.val (.int .i64 D)⟩),(3,⟨0,.val (.int .i64 b)⟩)]) (fun k=>k≤D/4+1) (fun k=>D/4+1-k) 0 (Nat.zero_le _) (fun k=>rfl) ?_ (fun k hk=>?_)
     ·simp [Sub,lk,euP,euC]
     ·have p0:=pC k
      have hp:=Ai2 hm b k
      have w1:IntKind.i64.wrap (4*(k:Int))=4*(k:Int):=wid _ (by omega) (by omega)
      by_cases h:4*k≤D
      ·have hmul:0≤euP m b k*b∧euP m b k*b≤10000*10000:=⟨Int.mul_nonneg hp.1 hb.1,Int.mul_le_mul (by omega) (by omega) hb.1 (by omega)⟩
       have w2:IntKind.i64.wrap (2*(k:Int))=((2*k:Nat):Int):=by rw [wid _ (by omega) (by omega)];omega
       have zq35:4*(k:Int)≤(D:Int):=(by omega);have zq36:(0:Int)≤1:=(by omega);have zq37:(1:Int).toNat=1:=rfl;have zq38:((2*k:Nat):Int)<((D+1:Nat):Int):=(by omega);have zq39:((2*k:Nat):Int)<((D+1-2*k:Nat):Int):=(by omega);have zq40:=Aj (euC m b D k) (2*k) (by rw [(p0).len];omega);have zq41:=Ap (euC m b D k) (2*k) (by rw [(p0).len];omega);have zq42:=Bw (euC m b D k) (2*k) (2*k) (euP m b k) (by rw [(p0).len];omega);have zq43:=wid (euP m b k*b) (by omega) (by omega);have zq44:=tm (euP m b k*b) m hmul.1;have zq45:m≠0:=(by omega);have zq46:=wid ((k:Int)+1) (by omega) (by omega)
       (repeat (first|((with_reducible refine rC rfl fun K hK=>?_);simp only [go_sem,seval,↓reduceIte,w1,w2,zq35,Int.natCast_nonneg,Int.toNat_natCast,Nat.mul_one,Int.le_refl,Int.toNat_zero,List.take_zero,Nat.zero_mul,zq36,zq37,Nat.sub_zero,zq38,zq39,Af,(p0).len,zq40,zq41,(p0).row (2*k) (by omega),Ae ((euC m b D k).getD (2*k) []) (2*k) (by rw [(p0).row _ (by omega)];omega),Aa ((euC m b D k).getD (2*k) []) (2*k) (by rw [(p0).row _ (by omega)];omega),zq42,zq43,zq44,zq45,zq46];refine hK _ _ _ ?_;clear hK K)|refine sT ?_))
       exact ⟨k+1,by omega,by omega,by simp [Sub,lk,euP,euC]⟩
      ·have zq47:¬ 4*(k:Int)≤(D:Int):=(by omega);have zq48:=Ch m (euB m r (euA r D D) D) (euC m b D k) (D+1) (by omega) hm2 (pB D) p0 (by omega) (by omega)
       (repeat (first|((with_reducible refine rC rfl fun K hK=>?_);simp only [go_sem,seval,↓reduceIte,w1,zq47];(first|refine hK _ _ _ ?_|refine ⟨_,zq48,hK _ _ _ ?_⟩);clear hK K)|refine sT ?_))
       refine rt1 ?_
       rw [show k=D/4+1 by omega]
def wsV (m:Int) (h s:List Int) (n:Nat):Int:=at' h 0*at' s (n-1)+at' h 1*at' s (n-2)+at' h 2*at' (timesL m s s n) n+at' h 3*at' (timesL m s s n) (n-1)+at' h 4*at' (timesL m (timesL m s s n) s n) n+(if n=3 then 1 else 0)
def wsL (m:Int) (h:List Int) (N:Nat):Nat→List Int
 | 0=>tab (N+1) (fun _=>0)
 | k+1=>(wsL m h N k).set (k+3) (wsV m h (wsL m h N k) (k+3)%m)
theorem Zu {m:Int} (hm:1<m) (h:List Int) (N:Nat):∀ k,(wsL m h N k).length=N+1∧∀ x∈wsL m h N k,0≤x∧x<m
 | 0=>⟨Ah _ _,fun x hx=>by obtain ⟨i,_,rfl⟩:=Cr.1 hx;omega⟩
 | k+1=>by
  have ih:=Zu hm h N k
  exact ⟨by rw [wsL,List.length_set];exact ih.1,Ng ih.2 (Aq _ m (by omega)) _⟩
theorem M6 {m:Int} (hm:0<m) (a b:List Int) (d:Nat):(timesL m a b d).length=d+1∧∀ x∈timesL m a b d,0≤x∧x<m:=⟨Ah _ _,fun x hx=>by obtain ⟨i,_,rfl⟩:=Cr.1 hx;exact Aq _ m hm⟩
theorem J9 {m a b:Int} (hm2:m≤10000) (ha:0≤a∧a<m) (hb:0≤b∧b<m):0≤a*b∧a*b≤100000000:=⟨Int.mul_nonneg ha.1 hb.1,by have:=Int.mul_le_mul (show a≤10000 by omega) (show b≤10000 by omega) hb.1 (by omega);omega⟩
set_option maxHeartbeats 8000000 in
theorem O1 (m:Int) (h:List Int) (N:Nat) (hm:1<m) (hm2:m≤10000) (hl:h.length=5) (hh:∀ x∈h,0≤x∧x<m) (hN:2≤N) (hN2:N≤101):AFn Tryz.prog 275 [.int .i64 m,.int .i64 N,.sl false 2 (intL h)] (.sl true 2 (intL (wsL m h N (N-2)))):=by
 refine fO Tryz.func275 Tryz.ntmps275 (by rw [Tryz.results275]) fun C hP hM hC=>?_
 have hl0:(tab (N+1) (fun _=>0)).length=N+1:=Ah _ _
 have zq1:IntKind.i64.wrap ((N:Int)+1)=((N+1:Nat):Int):=(by rw [wid _ (by omega) (by omega)];omega);have zq2:((N+1:Nat):Int)≤1099511627776:=(by omega)
 (repeat (first|((with_reducible refine rC rfl fun K hK=>?_);simp only [go_sem,seval,↓reduceIte,zq1,Int.natCast_nonneg,Int.toNat_natCast,zq2,Bd,Dd];refine hK _ _ _ ?_;clear hK K)|refine sT ?_))
 refine AWP.loop (fun k:Nat=>[(8,⟨0,.val (.int .i64 (k+3:Nat))⟩),(7,⟨1,.own (.sl true 2 (intL (wsL m h N k)))⟩),(0,⟨0,.val (.int .i64 m)⟩),(1,⟨0,.val (.int .i64 N)⟩),(2,⟨0,.val (.sl false 2 (intL h))⟩)]) (fun k=>k≤N-2) (fun k=>N-2-k) 0 (Nat.zero_le _) (fun k=>rfl) ?_ (fun k hk=>?_)
 ·simp [Sub,lk,wsL]
 ·have hf:=Zu hm h N k
  by_cases hlt:k<N-2
  ·obtain ⟨s,es⟩:∃ s,s=wsL m h N k:=⟨_,rfl⟩
   rw [← es] at hf ⊢
   have q1:=M6 (show 0<m by omega) s s (k+3)
   have c1:=Da m s s (k+3) (by omega) hm2 hf.2 hf.2 (by omega) (by omega) (by omega)
   obtain ⟨u,eu⟩:∃ u,u=timesL m s s (k+3):=⟨_,rfl⟩
   rw [← eu] at q1 c1
   have q2:=M6 (show 0<m by omega) u s (k+3)
   have c2:=Da m u s (k+3) (by omega) hm2 q1.2 hf.2 (by omega) (by omega) (by omega)
   obtain ⟨w,ew⟩:∃ w,w=timesL m u s (k+3):=⟨_,rfl⟩
   rw [← ew] at q2 c2
   have z:(0:Int)<m:=by omega
   have b0:=J9 hm2 (An hh z 0) (An hf.2 z (k+2))
   have b1:=J9 hm2 (An hh z 1) (An hf.2 z (k+1))
   have b2:=J9 hm2 (An hh z 2) (An q1.2 z (k+3))
   have b3:=J9 hm2 (An hh z 3) (An q1.2 z (k+2))
   have b4:=J9 hm2 (An hh z 4) (An q2.2 z (k+3))
   have ev:wsV m h s (k+3)=at' h 0*at' s (k+2)+at' h 1*at' s (k+1)+at' h 2*at' u (k+3)+at' h 3*at' u (k+2)+at' h 4*at' w (k+3)+(if k+3=3 then 1 else 0):=by
    rw [wsV,← eu,← ew];rfl
   have i3:IntKind.i64.wrap (((k+3:Nat):Int)+1)=((k+1+3:Nat):Int):=by rw [wid _ (by omega) (by omega)];omega
   by_cases h3:k=0
   ·have ev2:wsV m h s (k+3)=at' h 0*at' s (k+2)+at' h 1*at' s (k+1)+at' h 2*at' u (k+3)+at' h 3*at' u (k+2)+at' h 4*at' w (k+3)+1:=by rw [ev,if_pos (by omega)]
    have zq3:((k+3:Nat):Int)≤(N:Int):=(by omega);have zq4:(0:Int)≤1:=(by omega);have zq5:(1:Int).toNat=1:=rfl;have zq6:(0:Int)<((5:Nat):Int):=(by omega);have zq7:=Ac h 0 (by omega);have zq8:h.getD 0 0=at' h 0:=rfl;have zq9:(1:Int)<((5:Nat):Int):=(by omega);have zq10:(0:Int)≤1:=(by omega);have zq11:(1:Int).toNat=1:=rfl;have zq12:=Aa h 1 (by omega);have zq13:=Ac h 1 (by omega);have zq14:h.getD 1 0=at' h 1:=rfl;have zq15:(2:Int)<((5:Nat):Int):=(by omega);have zq16:(0:Int)≤2:=(by omega);have zq17:(2:Int).toNat=2:=rfl;have zq18:=Aa h 2 (by omega);have zq19:=Ac h 2 (by omega);have zq20:h.getD 2 0=at' h 2:=rfl;have zq21:(3:Int)<((5:Nat):Int):=(by omega);have zq22:(0:Int)≤3:=(by omega);have zq23:(3:Int).toNat=3:=rfl;have zq24:=Aa h 3 (by omega);have zq25:=Ac h 3 (by omega);have zq26:h.getD 3 0=at' h 3:=rfl;have zq27:(4:Int)<((5:Nat):Int):=(by omega);have zq28:(0:Int)≤4:=(by omega);have zq29:(4:Int).toNat=4:=rfl;have zq30:=Aa h 4 (by omega);have zq31:=Ac h 4 (by omega);have zq32:h.getD 4 0=at' h 4:=rfl;have zq33:IntKind.i64.wrap (((k+3:Nat):Int)-1)=((k+2:Nat):Int):=(by rw [wid _ (by omega) (by omega)];omega);have zq34:IntKind.i64.wrap (((k+3:Nat):Int)-2)=((k+1:Nat):Int):=(by rw [wid _ (by omega) (by omega)];omega);have zq35:((k+2:Nat):Int)<((N+1:Nat):Int):=(by omega);have zq36:=Aa (s) (k+2) (by omega);have zq37:=Ae (s) (k+2) (by omega);have zq38:(s).getD (k+2) 0=at' (s) (k+2):=rfl;have zq39:((k+1:Nat):Int)<((N+1:Nat):Int):=(by omega);have zq40:=Aa (s) (k+1) (by omega);have zq41:=Ae (s) (k+1) (by omega);have zq42:(s).getD (k+1) 0=at' (s) (k+1):=rfl;have zq43:((k+3:Nat):Int)<((k+3+1:Nat):Int):=(by omega);have zq44:=Aa (u) (k+3) (by omega);have zq45:=Ae (u) (k+3) (by omega);have zq46:(u).getD (k+3) 0=at' (u) (k+3):=rfl;have zq47:((k+2:Nat):Int)<((k+3+1:Nat):Int):=(by omega);have zq48:=Aa (u) (k+2) (by omega);have zq49:=Ae (u) (k+2) (by omega);have zq50:(u).getD (k+2) 0=at' (u) (k+2):=rfl;have zq51:((k+3:Nat):Int)<((k+3+1:Nat):Int):=(by omega);have zq52:=Aa (w) (k+3) (by omega);have zq53:=Ae (w) (k+3) (by omega);have zq54:(w).getD (k+3) 0=at' (w) (k+3):=rfl;have zq55:((k+3:Nat):Int)<((N+1:Nat):Int):=(by omega);have zq56:=Aa s (k+3) (by omega);have zq57:=Ae s (k+3) (by omega);have zq58:m≠0:=(by omega);have zq59:=wid (at' h 0*at' s (k+2)) (by omega) (by omega);have zq60:=wid (at' h 1*at' s (k+1)) (by omega) (by omega);have zq61:=wid (at' h 2*at' u (k+3)) (by omega) (by omega);have zq62:=wid (at' h 3*at' u (k+2)) (by omega) (by omega);have zq63:=wid (at' h 4*at' w (k+3)) (by omega) (by omega);have zq64:=wid (at' h 0*at' s (k+2)+at' h 1*at' s (k+1)) (by omega) (by omega);have zq65:=wid (at' h 0*at' s (k+2)+at' h 1*at' s (k+1)+at' h 2*at' u (k+3)) (by omega) (by omega);have zq66:=wid (at' h 0*at' s (k+2)+at' h 1*at' s (k+1)+at' h 2*at' u (k+3)+at' h 3*at' u (k+2)) (by omega) (by omega);have zq67:=wid (at' h 0*at' s (k+2)+at' h 1*at' s (k+1)+at' h 2*at' u (k+3)+at' h 3*at' u (k+2)+at' h 4*at' w (k+3)) (by omega) (by omega);have zq68:(((k+3:Nat):Int)==3)=true:=(by rw [beq_iff_eq];omega);have zq69:=wid (at' h 0*at' s (k+2)+at' h 1*at' s (k+1)+at' h 2*at' u (k+3)+at' h 3*at' u (k+2)+at' h 4*at' w (k+3)+1) (by omega) (by omega);have zq70:=tm (at' h 0*at' s (k+2)+at' h 1*at' s (k+1)+at' h 2*at' u (k+3)+at' h 3*at' u (k+2)+at' h 4*at' w (k+3)+1) m (by omega)
    (repeat (first|((with_reducible refine rC rfl fun K hK=>?_);simp only [go_sem,seval,↓reduceIte,zq3,Int.natCast_nonneg,Int.toNat_natCast,Nat.mul_one,Int.le_refl,Int.toNat_zero,List.take_zero,Nat.zero_mul,zq4,zq5,Nat.sub_zero,hl,zq6,zq7,zq8,zq9,zq10,zq11,zq12,zq13,zq14,zq15,zq16,zq17,zq18,zq19,zq20,zq21,zq22,zq23,zq24,zq25,zq26,zq27,zq28,zq29,zq30,zq31,zq32,zq33,zq34,hf.1,zq35,zq36,zq37,zq38,hf.1,zq39,zq40,zq41,zq42,q1.1,zq43,zq44,zq45,zq46,q1.1,zq47,zq48,zq49,zq50,q2.1,zq51,zq52,zq53,zq54,zq55,zq56,zq57,Ax,zq58,i3,zq59,zq60,zq61,zq62,zq63,zq64,zq65,zq66,zq67,zq68,zq69,zq70];(first|refine hK _ _ _ ?_|refine ⟨_,c1,hK _ _ _ ?_⟩|refine ⟨_,c2,hK _ _ _ ?_⟩);clear hK K)|refine sT ?_))
    have en:wsL m h N (k+1)=s.set (k+3) (wsV m h s (k+3)%m):=by rw [wsL,← es]
    rw [ev2] at en
    exact ⟨k+1,by omega,by omega,by simp only [en];simp [Sub,lk]⟩
   ·have ev2:wsV m h s (k+3)=at' h 0*at' s (k+2)+at' h 1*at' s (k+1)+at' h 2*at' u (k+3)+at' h 3*at' u (k+2)+at' h 4*at' w (k+3):=by rw [ev,if_neg (by omega),Int.add_zero]
    have zq71:((k+3:Nat):Int)≤(N:Int):=(by omega);have zq72:(0:Int)≤1:=(by omega);have zq73:(1:Int).toNat=1:=rfl;have zq74:(0:Int)<((5:Nat):Int):=(by omega);have zq75:=Ac h 0 (by omega);have zq76:h.getD 0 0=at' h 0:=rfl;have zq77:(1:Int)<((5:Nat):Int):=(by omega);have zq78:(0:Int)≤1:=(by omega);have zq79:(1:Int).toNat=1:=rfl;have zq80:=Aa h 1 (by omega);have zq81:=Ac h 1 (by omega);have zq82:h.getD 1 0=at' h 1:=rfl;have zq83:(2:Int)<((5:Nat):Int):=(by omega);have zq84:(0:Int)≤2:=(by omega);have zq85:(2:Int).toNat=2:=rfl;have zq86:=Aa h 2 (by omega);have zq87:=Ac h 2 (by omega);have zq88:h.getD 2 0=at' h 2:=rfl;have zq89:(3:Int)<((5:Nat):Int):=(by omega);have zq90:(0:Int)≤3:=(by omega);have zq91:(3:Int).toNat=3:=rfl;have zq92:=Aa h 3 (by omega);have zq93:=Ac h 3 (by omega);have zq94:h.getD 3 0=at' h 3:=rfl;have zq95:(4:Int)<((5:Nat):Int):=(by omega);have zq96:(0:Int)≤4:=(by omega);have zq97:(4:Int).toNat=4:=rfl;have zq98:=Aa h 4 (by omega);have zq99:=Ac h 4 (by omega);have zq100:h.getD 4 0=at' h 4:=rfl;have zq101:IntKind.i64.wrap (((k+3:Nat):Int)-1)=((k+2:Nat):Int):=(by rw [wid _ (by omega) (by omega)];omega);have zq102:IntKind.i64.wrap (((k+3:Nat):Int)-2)=((k+1:Nat):Int):=(by rw [wid _ (by omega) (by omega)];omega);have zq103:((k+2:Nat):Int)<((N+1:Nat):Int):=(by omega);have zq104:=Aa (s) (k+2) (by omega);have zq105:=Ae (s) (k+2) (by omega);have zq106:(s).getD (k+2) 0=at' (s) (k+2):=rfl;have zq107:((k+1:Nat):Int)<((N+1:Nat):Int):=(by omega);have zq108:=Aa (s) (k+1) (by omega);have zq109:=Ae (s) (k+1) (by omega);have zq110:(s).getD (k+1) 0=at' (s) (k+1):=rfl;have zq111:((k+3:Nat):Int)<((k+3+1:Nat):Int):=(by omega);have zq112:=Aa (u) (k+3) (by omega);have zq113:=Ae (u) (k+3) (by omega);have zq114:(u).getD (k+3) 0=at' (u) (k+3):=rfl;have zq115:((k+2:Nat):Int)<((k+3+1:Nat):Int):=(by omega);have zq116:=Aa (u) (k+2) (by omega);have zq117:=Ae (u) (k+2) (by omega);have zq118:(u).getD (k+2) 0=at' (u) (k+2):=rfl;have zq119:((k+3:Nat):Int)<((k+3+1:Nat):Int):=(by omega);have zq120:=Aa (w) (k+3) (by omega);have zq121:=Ae (w) (k+3) (by omega);have zq122:(w).getD (k+3) 0=at' (w) (k+3):=rfl;have zq123:((k+3:Nat):Int)<((N+1:Nat):Int):=(by omega);have zq124:=Aa s (k+3) (by omega);have zq125:=Ae s (k+3) (by omega);have zq126:m≠0:=(by omega);have zq127:=wid (at' h 0*at' s (k+2)) (by omega) (by omega);have zq128:=wid (at' h 1*at' s (k+1)) (by omega) (by omega);have zq129:=wid (at' h 2*at' u (k+3)) (by omega) (by omega);have zq130:=wid (at' h 3*at' u (k+2)) (by omega) (by omega);have zq131:=wid (at' h 4*at' w (k+3)) (by omega) (by omega);have zq132:=wid (at' h 0*at' s (k+2)+at' h 1*at' s (k+1)) (by omega) (by omega);have zq133:=wid (at' h 0*at' s (k+2)+at' h 1*at' s (k+1)+at' h 2*at' u (k+3)) (by omega) (by omega);have zq134:=wid (at' h 0*at' s (k+2)+at' h 1*at' s (k+1)+at' h 2*at' u (k+3)+at' h 3*at' u (k+2)) (by omega) (by omega);have zq135:=wid (at' h 0*at' s (k+2)+at' h 1*at' s (k+1)+at' h 2*at' u (k+3)+at' h 3*at' u (k+2)+at' h 4*at' w (k+3)) (by omega) (by omega);have zq136:(((k+3:Nat):Int)==3)=false:=(by rw [beq_eq_false_iff_ne];omega);have zq137:=tm (at' h 0*at' s (k+2)+at' h 1*at' s (k+1)+at' h 2*at' u (k+3)+at' h 3*at' u (k+2)+at' h 4*at' w (k+3)) m (by omega)
    (repeat (first|((with_reducible refine rC rfl fun K hK=>?_);simp only [go_sem,seval,↓reduceIte,zq71,Int.natCast_nonneg,Int.toNat_natCast,Nat.mul_one,Int.le_refl,Int.toNat_zero,List.take_zero,Nat.zero_mul,zq72,zq73,Nat.sub_zero,hl,zq74,zq75,zq76,zq77,zq78,zq79,zq80,zq81,zq82,zq83,zq84,zq85,zq86,zq87,zq88,zq89,zq90,zq91,zq92,zq93,zq94,zq95,zq96,zq97,zq98,zq99,zq100,zq101,zq102,hf.1,zq103,zq104,zq105,zq106,hf.1,zq107,zq108,zq109,zq110,q1.1,zq111,zq112,zq113,zq114,q1.1,zq115,zq116,zq117,zq118,q2.1,zq119,zq120,zq121,zq122,zq123,zq124,zq125,Ax,zq126,i3,zq127,zq128,zq129,zq130,zq131,zq132,zq133,zq134,zq135,zq136,zq137];(first|refine hK _ _ _ ?_|refine ⟨_,c1,hK _ _ _ ?_⟩|refine ⟨_,c2,hK _ _ _ ?_⟩);clear hK K)|refine sT ?_))
    have en:wsL m h N (k+1)=s.set (k+3) (wsV m h s (k+3)%m):=by rw [wsL,← es]
    rw [ev2] at en
    exact ⟨k+1,by omega,by omega,by simp only [en];simp [Sub,lk]⟩
  ·have zq138:¬ ((k+3:Nat):Int)≤(N:Int):=(by omega)
   (repeat (first|((with_reducible refine rC rfl fun K hK=>?_);simp only [go_sem,seval,↓reduceIte,zq138];refine hK _ _ _ ?_;clear hK K)|refine sT ?_))
   refine rt1 ?_
   rw [show k=N-2 by omega]
end Go.Proofs.YtapdekacpecgiaaGreat
