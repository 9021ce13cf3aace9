import Derived.Test.YtapdekacpecgiaaGreatKa
import Derived.Test.YtapdekacpecgiaaGreatFin
import Derived.WalkKit
import Derived.ProofKit
namespace Go.Proofs.YtapdekacpecgiaaGreat
open Go.RowKit
set_option linter.unusedSimpArgs false
set_option linter.unusedVariables false
set_option linter.unusedSectionVars false
set_option maxRecDepth 20000
set_option maxHeartbeats 1000000
def tabsO (L:List (List (List Int))):List T:=L.map fun ll=>(.sl true 27 (rowsO ll))
theorem F8 (L:List (List (List Int))):(tabsO L).length=L.length:=by simp [tabsO]
theorem J4 (L:List (List (List Int))) (i:Nat) (h:i<L.length):(tabsO L)[i]? = some (.sl true 27 (rowsO (L.getD i []))):=by
 simp [tabsO,List.getD_eq_getElem?_getD,h]
theorem Gq (L:List (List (List Int))) (i:Nat) (h:i≤L.length):T.sizeL ((tabsO L).take i)=i:=by
 rw [Bj (n:=1) (fun t ht=>by
  have ht:=List.mem_of_mem_take ht
  simp only [tabsO,List.mem_map] at ht
  obtain ⟨x,_,rfl⟩:=ht
  rfl)]
 simp [F8];omega
theorem Aat (L:List (List (List Int))) (ll:List (List Int)):tabsO L++[.sl true 27 (rowsO ll)]=tabsO (L++[ll]):=by simp [tabsO]
def lfL (m:Int) (n:Nat) (ll:List (List Int)) (c:Nat):List (List Int):=aftL m n (pc ll) (tab (n-c) (fun i=>pc ll i c)) (n-c)
def rtL (m:Int) (n:Nat) (ll:List (List Int)) (a:Nat):List (List Int):=aftL m n (pc ll) (ll.getD a []) (n-a)
theorem Ale {m:Int} (hm:0<m) {n:Nat} {ll:List (List Int)} {a b c:Nat} (h:a+b<n):pc (lfL m n ll c) a b=lfS m n (pc ll) a b c%m:=by
 have h1:=J9 hm (t:=pc ll) (c:=tab (n-c) (fun i=>pc ll i c)) h
 rw [Ae] at h1
 rw [lfL,h1,lfS]
 exact Be fun i hi=>by rw [Bl hi]
theorem Amg {m:Int} (hm:0<m) {n:Nat} {ll:List (List Int)} {a b c:Nat} (hl:Pl m n ll) (ha:a<n) (h:b+c<n):pc (rtL m n ll a) b c=rtS m n (pc ll) a b c%m:=by
 have h1:=J9 hm (t:=pc ll) (c:=ll.getD a []) h
 rw [hl.row a ha] at h1
 rw [rtL,h1,rtS];rfl
def seqT (k:Nat) (f:Nat→List (List Int)):List (List (List Int)):=(List.range k).map f
theorem Fd (k:Nat) (f:Nat→List (List Int)):(seqT k f).length=k:=by simp [seqT]
theorem It {k i:Nat} {f:Nat→List (List Int)} (h:i<k):(seqT k f).getD i []=f i:=by simp [seqT,List.getD_eq_getElem?_getD,h]
theorem Rz (k:Nat) (f:Nat→List (List Int)):seqT k f++[f k]=seqT (k+1) f:=by simp [seqT,List.range_succ]
theorem Ado {n:Nat} {t:Nat→Nat→Int} {i j:Nat} (h:j≤i):ok2 n t i j:=fun h1=>by omega
theorem Pi {n:Nat} {t:Nat→Nat→Int} {i j:Nat} (h:n≤i+j):ok2 n t i j:=fun _ h1=>by omega
theorem Ju {m:Int} {n:Nat} {t:Nat→Nat→Int} {a b c:Nat} (h:n≤a+b+c):ok3 m n t a b c:=fun h1=>by omega
set_option maxHeartbeats 4000000 in
theorem Pd (m:Int) (ll:List (List Int)) (n:Nat) (r:T) (hm:0<m) (hm2:m≤10000) (hl:Pl m n ll) (hn:1≤n) (hn2:n≤1000) (hr:FaultR m n (pc ll) r):AFn Tryz.prog 224 [.agg [.int .i64 m,.sl false 27 (rowsF ll)]] r:=by
 refine fO Tryz.func224 Tryz.ntmps224 (by rw [Tryz.results224]) fun C hP hM hC=>?_
 (repeat (first|((with_reducible refine rC rfl fun K hK=>?_);simp only [go_sem,seval,↓reduceIte,Aa,hl.len];refine hK _ _ _ ?_;clear hK K)|refine sT ?_))
 refine AWP.loop (fun i:Nat=>[(5,⟨0,.val (.int .i64 i)⟩),(3,⟨0,.val (.int .i64 n)⟩),(4,⟨0,.val (.sl false 27 (rowsF ll))⟩),(1,⟨1,.own (.box 26 (.agg [.int .i64 m,.sl false 27 (rowsF ll)]))⟩)]) (fun i=>i≤n∧∀ i',i'<i→ok1 (pc ll) i') (fun i=>n-i) 0 ⟨Nat.zero_le _,fun i hi=>absurd hi (Nat.not_lt_zero _)⟩ (fun i=>rfl) ?_ (fun i hi=>?_)
 ·simp [Sub,lk]
 ·by_cases hin:i<n
  ·have hrow:=hl.row i hin
   have hj:0<(ll.getD i []).length:=by omega
   by_cases h1:i=1
   ·by_cases hok:ok1 (pc ll) i
    ·have hv:pc ll i 0=1:=by have:=hok;unfold ok1 at this;rwa [if_pos h1] at this
     (repeat (first|((with_reducible refine rC rfl fun K hK=>?_);simp only [go_sem,seval,↓reduceIte,show (i:Int)<(n:Int) by omega,show ((i:Int)==1)=true by subst h1;rfl,Ad ll i (by rw [hl.len];exact hin),Aa,hl.len,Int.toNat_natCast,Int.natCast_nonneg,Int.le_refl,Int.toNat_zero,Ac _ _ hj,hrow,show (0:Int)<((n-i:Nat):Int) by omega,show (ll.getD i []).getD 0 0=pc ll i 0 from rfl,hv,show ((1:Int) != 1)=false from rfl,wid ((i:Int)+1) (by omega) (by omega)];refine hK _ _ _ ?_;clear hK K)|refine sT ?_))
     refine ⟨i+1,⟨by omega,fun i' hi'=>?_⟩,by omega,by simp [Sub,lk]⟩
     by_cases e:i'=i
     ·rw [e];exact hok
     ·exact hi.2 i' (by omega)
    ·have hv : (pc ll i 0 != 1) = true := by
      have:=hok;unfold ok1 at this;rw [if_pos h1] at this;simpa using this
     (repeat (first|((with_reducible refine rC rfl fun K hK=>?_);simp only [go_sem,seval,↓reduceIte,show (i:Int)<(n:Int) by omega,show ((i:Int)==1)=true by subst h1;rfl,Ad ll i (by rw [hl.len];exact hin),Aa,hl.len,Int.toNat_natCast,Int.natCast_nonneg,Int.le_refl,Int.toNat_zero,Ac _ _ hj,hrow,show (0:Int)<((n-i:Nat):Int) by omega,show (ll.getD i []).getD 0 0=pc ll i 0 from rfl,hv];refine hK _ _ _ ?_;clear hK K)|refine sT ?_))
     refine rt1 ?_
     exact hr.one i hin hi.2 hok
   ·by_cases hok:ok1 (pc ll) i
    ·have hv:pc ll i 0=0:=by have:=hok;unfold ok1 at this;rwa [if_neg h1] at this
     (repeat (first|((with_reducible refine rC rfl fun K hK=>?_);simp only [go_sem,seval,↓reduceIte,show (i:Int)<(n:Int) by omega,show ((i:Int)==1)=false by rw [beq_eq_false_iff_ne];omega,Ad ll i (by rw [hl.len];exact hin),Aa,hl.len,Int.toNat_natCast,Int.natCast_nonneg,Int.le_refl,Int.toNat_zero,Ac _ _ hj,hrow,show (0:Int)<((n-i:Nat):Int) by omega,show (ll.getD i []).getD 0 0=pc ll i 0 from rfl,hv,show ((0:Int) != 0)=false from rfl,wid ((i:Int)+1) (by omega) (by omega)];refine hK _ _ _ ?_;clear hK K)|refine sT ?_))
     refine ⟨i+1,⟨by omega,fun i' hi'=>?_⟩,by omega,by simp [Sub,lk]⟩
     by_cases e:i'=i
     ·rw [e];exact hok
     ·exact hi.2 i' (by omega)
    ·have hv : (pc ll i 0 != 0) = true := by
      have:=hok;unfold ok1 at this;rw [if_neg h1] at this;simpa using this
     (repeat (first|((with_reducible refine rC rfl fun K hK=>?_);simp only [go_sem,seval,↓reduceIte,show (i:Int)<(n:Int) by omega,show ((i:Int)==1)=false by rw [beq_eq_false_iff_ne];omega,Ad ll i (by rw [hl.len];exact hin),Aa,hl.len,Int.toNat_natCast,Int.natCast_nonneg,Int.le_refl,Int.toNat_zero,Ac _ _ hj,hrow,show (0:Int)<((n-i:Nat):Int) by omega,show (ll.getD i []).getD 0 0=pc ll i 0 from rfl,hv];refine hK _ _ _ ?_;clear hK K)|refine sT ?_))
     refine rt1 ?_
     exact hr.one i hin hi.2 hok
  ·have hA:∀ i,i<n→ok1 (pc ll) i:=fun i' h=>hi.2 i' (by omega)
   (repeat (first|((with_reducible refine rC rfl fun K hK=>?_);simp only [go_sem,seval,↓reduceIte,show ¬ (i:Int)<(n:Int) by omega];refine hK _ _ _ ?_;clear hK K)|refine sT ?_))
   refine AWP.loop (fun i:Nat=>[(7,⟨0,.val (.int .i64 i)⟩),(3,⟨0,.val (.int .i64 n)⟩),(4,⟨0,.val (.sl false 27 (rowsF ll))⟩),(1,⟨1,.own (.box 26 (.agg [.int .i64 m,.sl false 27 (rowsF ll)]))⟩)]) (fun i=>i≤n∧∀ i',i'<i→∀ j,ok2 n (pc ll) i' j) (fun i=>n-i) 0 ⟨Nat.zero_le _,fun i hi=>absurd hi (Nat.not_lt_zero _)⟩ (fun i=>rfl) ?_ (fun i hi=>?_)
   ·simp [Sub,lk]
   ·by_cases hin:i<n
    ·have hrow:=hl.row i hin
     (repeat (first|((with_reducible refine rC rfl fun K hK=>?_);simp only [go_sem,seval,↓reduceIte,show (i:Int)<(n:Int) by omega,wid ((i:Int)+1) (by omega) (by omega)];refine hK _ _ _ ?_;clear hK K)|refine sT ?_))
     refine AWP.loop (fun j:Nat=>[(8,⟨0,.val (.int .i64 j)⟩),(7,⟨0,.val (.int .i64 i)⟩),(3,⟨0,.val (.int .i64 n)⟩),(4,⟨0,.val (.sl false 27 (rowsF ll))⟩),(1,⟨1,.own (.box 26 (.agg [.int .i64 m,.sl false 27 (rowsF ll)]))⟩)]) (fun j=>i<j∧j≤n+1∧∀ j',j'<j→ok2 n (pc ll) i j') (fun j=>n+2-j) (i+1) ⟨by omega,by omega,fun j hj=>Ado (by omega)⟩ (fun i=>rfl) ?_ (fun j hj=>?_)
     ·simp [Sub,lk]
     ·have w1:=widK (i+j) (by omega)
      by_cases hij:i+j<n
      ·have hrow2:=hl.row j (by omega)
       have k1:j<(ll.getD i []).length:=by omega
       have k2:i<(ll.getD j []).length:=by omega
       by_cases hok:ok2 n (pc ll) i j
       ·have hv:(pc ll i j != pc ll j i)=false:=by simpa using hok hj.1 hij
        (repeat (first|((with_reducible refine rC rfl fun K hK=>?_);simp only [go_sem,seval,↓reduceIte,← Int.natCast_add,w1,show ((i+j:Nat):Int)<(n:Int) by omega,Ad ll i (by rw [hl.len];omega),Ad ll j (by rw [hl.len];omega),Aa,hl.len,show (i:Int)<(n:Int) by omega,show (j:Int)<(n:Int) by omega,Int.toNat_natCast,Int.natCast_nonneg,Ac _ _ k1,Ac _ _ k2,hrow,hrow2,show (j:Int)<((n-i:Nat):Int) by omega,show (i:Int)<((n-j:Nat):Int) by omega,show (ll.getD i []).getD j 0=pc ll i j from rfl,show (ll.getD j []).getD i 0=pc ll j i from rfl,hv,wid ((j:Int)+1) (by omega) (by omega)];refine hK _ _ _ ?_;clear hK K)|refine sT ?_))
        refine ⟨j+1,⟨by omega,by omega,fun j' hj'=>?_⟩,by omega,by simp [Sub,lk]⟩
        by_cases e:j'=j
        ·rw [e];exact hok
        ·exact hj.2.2 j' (by omega)
       ·have hv : (pc ll i j != pc ll j i) = true := by
         have h5:¬ pc ll i j=pc ll j i:=fun h6=>hok fun _ _=>h6
         simpa using h5
        (repeat (first|((with_reducible refine rC rfl fun K hK=>?_);simp only [go_sem,seval,↓reduceIte,← Int.natCast_add,w1,show ((i+j:Nat):Int)<(n:Int) by omega,Ad ll i (by rw [hl.len];omega),Ad ll j (by rw [hl.len];omega),Aa,hl.len,show (i:Int)<(n:Int) by omega,show (j:Int)<(n:Int) by omega,Int.toNat_natCast,Int.natCast_nonneg,Ac _ _ k1,Ac _ _ k2,hrow,hrow2,show (j:Int)<((n-i:Nat):Int) by omega,show (i:Int)<((n-j:Nat):Int) by omega,show (ll.getD i []).getD j 0=pc ll i j from rfl,show (ll.getD j []).getD i 0=pc ll j i from rfl,hv];refine hK _ _ _ ?_;clear hK K)|refine sT ?_))
        refine rt1 ?_
        exact hr.two hA i j hi.2 hj.2.2 hok
      ·(repeat (first|((with_reducible refine rC rfl fun K hK=>?_);simp only [go_sem,seval,↓reduceIte,← Int.natCast_add,w1,show ¬ ((i+j:Nat):Int)<(n:Int) by omega,wid ((i:Int)+1) (by omega) (by omega)];refine hK _ _ _ ?_;clear hK K)|refine sT ?_))
       refine ⟨i+1,⟨by omega,fun i' hi' j'=>?_⟩,by omega,by simp [Sub,lk]⟩
       by_cases e:i'=i
       ·rw [e]
        by_cases hjj:j'<j
        ·exact hj.2.2 j' hjj
        ·exact Pi (by omega)
       ·exact hi.2 i' (by omega) j'
    ·have hB : ∀ i j, ok2 n (pc ll) i j := fun i' j => by
      by_cases h5:i'<i
      ·exact hi.2 i' h5 j
      ·exact Pi (by omega)
     (repeat (first|((with_reducible refine rC rfl fun K hK=>?_);simp only [go_sem,seval,↓reduceIte,show ¬ (i:Int)<(n:Int) by omega];refine hK _ _ _ ?_;clear hK K)|refine sT ?_))
     refine AWP.loop (fun w:Nat×Nat=>[(11,⟨0,.val (.int .i64 w.1)⟩),(9,⟨w.2,.own (.sl true 24 (tabsO (seqT w.1 (lfL m n ll))))⟩),(10,⟨w.2,.own (.sl true 24 (tabsO (seqT w.1 (rtL m n ll))))⟩),(3,⟨0,.val (.int .i64 n)⟩),(4,⟨0,.val (.sl false 27 (rowsF ll))⟩),(1,⟨1,.own (.box 26 (.agg [.int .i64 m,.sl false 27 (rowsF ll)]))⟩)]) (fun w=>w.1≤n) (fun w=>n-w.1) (0,1) (Nat.zero_le _) (fun i=>rfl) ?_ (fun w hw=>?_)
     ·simp [Sub,lk,tabsO,seqT]
     ·obtain ⟨c,v⟩:=w
      simp only at hw ⊢
      by_cases hcn:c<n
      ·have hrow:=hl.row c hcn
       have hC1:=Ox m ll n c hl (by omega) hn2
       have hA1:=Iz m (tab (n-c) (fun i=>pc ll i c)) ll n hm hm2 hl (fun x hx=>by obtain ⟨i,_,rfl⟩:=D8.1 hx;exact hl.num i c) (by rw [Ae];omega) hn hn2
       rw [Ae] at hA1
       have hA2:=Iz m (ll.getD c []) ll n hm hm2 hl (hl.rowNum c) (by omega) hn hn2
       rw [hrow] at hA2
       have s1:=Rz c (lfL m n ll)
       have s2:=Rz c (rtL m n ll)
       rw [show lfL m n ll c=aftL m n (pc ll) (tab (n-c) (fun i=>pc ll i c)) (n-c) from rfl] at s1
       rw [show rtL m n ll c=aftL m n (pc ll) (ll.getD c []) (n-c) from rfl] at s2
       (repeat (first|((with_reducible refine rC rfl fun K hK=>?_);simp only [go_sem,seval,↓reduceIte,show (c:Int)<(n:Int) by omega,Jf,F8,Fd,Aat,s1,s2,show c+1≤1099511627776 by omega,show (c+1)*24≤140737488355328 by omega,Ad ll c (by rw [hl.len];omega),Aa,hl.len,Int.toNat_natCast,Int.natCast_nonneg,wid ((c:Int)+1) (by omega) (by omega)];(first|refine hK _ _ _ ?_|refine ⟨_,hC1,hK _ _ _ ?_⟩|refine ⟨_,hA1,hK _ _ _ ?_⟩|refine ⟨_,hA2,hK _ _ _ ?_⟩);clear hK K)|refine sT ?_))
       exact ⟨(c+1,v+1),by simp only;omega,by simp only;omega,by simp [Sub,lk]⟩
      ·have hcn2:c=n:=by omega
       subst hcn2
       (repeat (first|((with_reducible refine rC rfl fun K hK=>?_);simp only [go_sem,seval,↓reduceIte,show ¬ (c:Int)<(c:Int) by omega];refine hK _ _ _ ?_;clear hK K)|refine sT ?_))
       refine AWP.loop (fun a:Nat=>[(12,⟨0,.val (.int .i64 a)⟩),(9,⟨v,.own (.sl true 24 (tabsO (seqT c (lfL m c ll))))⟩),(10,⟨v,.own (.sl true 24 (tabsO (seqT c (rtL m c ll))))⟩),(3,⟨0,.val (.int .i64 c)⟩)]) (fun a=>a≤c∧∀ a',a'<a→∀ b k,ok3 m c (pc ll) a' b k) (fun a=>c-a) 0 ⟨Nat.zero_le _,fun i hi=>absurd hi (Nat.not_lt_zero _)⟩ (fun i=>rfl) ?_ (fun a ha=>?_)
       ·simp [Sub,lk]
       ·by_cases hac:a<c
        ·(repeat (first|((with_reducible refine rC rfl fun K hK=>?_);simp only [go_sem,seval,↓reduceIte,show (a:Int)<(c:Int) by omega];refine hK _ _ _ ?_;clear hK K)|refine sT ?_))
         refine AWP.loop (fun b:Nat=>[(13,⟨0,.val (.int .i64 b)⟩),(12,⟨0,.val (.int .i64 a)⟩),(9,⟨v,.own (.sl true 24 (tabsO (seqT c (lfL m c ll))))⟩),(10,⟨v,.own (.sl true 24 (tabsO (seqT c (rtL m c ll))))⟩),(3,⟨0,.val (.int .i64 c)⟩)]) (fun b=>a+b≤c∧∀ b',b'<b→∀ k,ok3 m c (pc ll) a b' k) (fun b=>c-b) 0 ⟨by omega,fun i hi=>absurd hi (Nat.not_lt_zero _)⟩ (fun i=>rfl) ?_ (fun b hb=>?_)
         ·simp [Sub,lk]
         ·have w1:=widK (a+b) (by omega)
          by_cases hbc:a+b<c
          ·(repeat (first|((with_reducible refine rC rfl fun K hK=>?_);simp only [go_sem,seval,↓reduceIte,← Int.natCast_add,w1,show ((a+b:Nat):Int)<(c:Int) by omega];refine hK _ _ _ ?_;clear hK K)|refine sT ?_))
           refine AWP.loop (fun k:Nat=>[(14,⟨0,.val (.int .i64 k)⟩),(13,⟨0,.val (.int .i64 b)⟩),(12,⟨0,.val (.int .i64 a)⟩),(9,⟨v,.own (.sl true 24 (tabsO (seqT c (lfL m c ll))))⟩),(10,⟨v,.own (.sl true 24 (tabsO (seqT c (rtL m c ll))))⟩),(3,⟨0,.val (.int .i64 c)⟩)]) (fun k=>a+b+k≤c∧∀ k',k'<k→ok3 m c (pc ll) a b k') (fun k=>c-k) 0 ⟨by omega,fun i hi=>absurd hi (Nat.not_lt_zero _)⟩ (fun i=>rfl) ?_ (fun k hk=>?_)
           ·simp [Sub,lk]
           ·have w2:=widK (a+b+k) (by omega)
            by_cases hkc:a+b+k<c
            ·have x1:k<(seqT c (lfL m c ll)).length:=by rw [Fd];omega
             have x2:a<(seqT c (rtL m c ll)).length:=by rw [Fd];omega
             have p1:Pl m c (lfL m c ll k):=Gj hm c _ _ _
             have p2:Pl m c (rtL m c ll a):=Gj hm c _ _ _
             have y1:a<(lfL m c ll k).length:=by rw [p1.len];omega
             have y2:b<(rtL m c ll a).length:=by rw [p2.len];omega
             have r1:=p1.row a (by omega)
             have r2:=p2.row b (by omega)
             have z1:b<((lfL m c ll k).getD a []).length:=by omega
             have z2:k<((rtL m c ll a).getD b []).length:=by omega
             have v1:=Ale hm (ll:=ll) (c:=k) (show a+b<c by omega)
             have v2:=Amg hm hl (show a<c by omega) (show b+k<c by omega)
             by_cases hok:ok3 m c (pc ll) a b k
             ·have hv:(pc (lfL m c ll k) a b != pc (rtL m c ll a) b k)=false:=by rw [v1,v2];simpa using hok hkc
              (repeat (first|((with_reducible refine rC rfl fun K hK=>?_);simp only [go_sem,seval,↓reduceIte,← Int.natCast_add,w1,w2,show ((a+b+k:Nat):Int)<(c:Int) by omega,F8,Fd,J4 _ _ x1,J4 _ _ x2,Gq _ _ (Nat.le_of_lt x1),Gq _ _ (Nat.le_of_lt x2),It (show k<c by omega),It (show a<c by omega),show (k:Int)<(c:Int) by omega,show (a:Int)<(c:Int) by omega,show (b:Int)<(c:Int) by omega,Int.toNat_natCast,Int.natCast_nonneg,Nat.mul_one,A2 _ _ y1,A2 _ _ y2,Aw _ _ (Nat.le_of_lt y1),Aw _ _ (Nat.le_of_lt y2),At,p1.len,p2.len,Ao _ _ z1,Ao _ _ z2,Ai _ _ (Nat.le_of_lt z1),Ai _ _ (Nat.le_of_lt z2),r1,r2,show (b:Int)<((c-a:Nat):Int) by omega,show (k:Int)<((c-b:Nat):Int) by omega,show ((lfL m c ll k).getD a []).getD b 0=pc (lfL m c ll k) a b from rfl,show ((rtL m c ll a).getD b []).getD k 0=pc (rtL m c ll a) b k from rfl,hv,wid ((k:Int)+1) (by omega) (by omega)];refine hK _ _ _ ?_;clear hK K)|refine sT ?_))
              refine ⟨k+1,⟨by omega,fun k' hk'=>?_⟩,by omega,by simp [Sub,lk]⟩
              by_cases e:k'=k
              ·rw [e];exact hok
              ·exact hk.2 k' (by omega)
             ·have hv : (pc (lfL m c ll k) a b != pc (rtL m c ll a) b k) = true := by
               have h5:¬ lfS m c (pc ll) a b k%m=rtS m c (pc ll) a b k%m:=fun h6=>hok fun _=>h6
               rw [v1,v2];simpa using h5
              (repeat (first|((with_reducible refine rC rfl fun K hK=>?_);simp only [go_sem,seval,↓reduceIte,← Int.natCast_add,w1,w2,show ((a+b+k:Nat):Int)<(c:Int) by omega,F8,Fd,J4 _ _ x1,J4 _ _ x2,Gq _ _ (Nat.le_of_lt x1),Gq _ _ (Nat.le_of_lt x2),It (show k<c by omega),It (show a<c by omega),show (k:Int)<(c:Int) by omega,show (a:Int)<(c:Int) by omega,show (b:Int)<(c:Int) by omega,Int.toNat_natCast,Int.natCast_nonneg,Nat.mul_one,A2 _ _ y1,A2 _ _ y2,Aw _ _ (Nat.le_of_lt y1),Aw _ _ (Nat.le_of_lt y2),At,p1.len,p2.len,Ao _ _ z1,Ao _ _ z2,Ai _ _ (Nat.le_of_lt z1),Ai _ _ (Nat.le_of_lt z2),r1,r2,show (b:Int)<((c-a:Nat):Int) by omega,show (k:Int)<((c-b:Nat):Int) by omega,show ((lfL m c ll k).getD a []).getD b 0=pc (lfL m c ll k) a b from rfl,show ((rtL m c ll a).getD b []).getD k 0=pc (rtL m c ll a) b k from rfl,hv];refine hK _ _ _ ?_;clear hK K)|refine sT ?_))
              refine rt1 ?_
              exact hr.three hA hB a b k ha.2 hb.2 hk.2 hok
            ·(repeat (first|((with_reducible refine rC rfl fun K hK=>?_);simp only [go_sem,seval,↓reduceIte,← Int.natCast_add,w1,w2,show ¬ ((a+b+k:Nat):Int)<(c:Int) by omega,wid ((b:Int)+1) (by omega) (by omega)];refine hK _ _ _ ?_;clear hK K)|refine sT ?_))
             refine ⟨b+1,⟨by omega,fun b' hb' k'=>?_⟩,by omega,by simp [Sub,lk]⟩
             by_cases e:b'=b
             ·rw [e]
              by_cases hkk:k'<k
              ·exact hk.2 k' hkk
              ·exact Ju (by omega)
             ·exact hb.2 b' (by omega) k'
          ·(repeat (first|((with_reducible refine rC rfl fun K hK=>?_);simp only [go_sem,seval,↓reduceIte,← Int.natCast_add,w1,show ¬ ((a+b:Nat):Int)<(c:Int) by omega,wid ((a:Int)+1) (by omega) (by omega)];refine hK _ _ _ ?_;clear hK K)|refine sT ?_))
           refine ⟨a+1,⟨by omega,fun a' ha' b' k'=>?_⟩,by omega,by simp [Sub,lk]⟩
           by_cases e:a'=a
           ·rw [e]
            by_cases hbb:b'<b
            ·exact hb.2 b' hbb k'
            ·exact Ju (by omega)
           ·exact ha.2 a' (by omega) b' k'
        ·(repeat (first|((with_reducible refine rC rfl fun K hK=>?_);simp only [go_sem,seval,↓reduceIte,show ¬ (a:Int)<(c:Int) by omega];refine hK _ _ _ ?_;clear hK K)|refine sT ?_))
         refine rt1 ?_
         exact hr.none ⟨hA,hB,fun a' b' k'=>by
          by_cases h5:a'<a
          ·exact ha.2 a' h5 b' k'
          ·exact Ju (by omega)⟩
theorem AFz.of' {P : Program} {tt : Tt} (hP : TtOk P tt) {f : FuncId} {fn : Func} {c : Code} {args : List T} {r : T} {n t : Nat} {e : Env} (hf : P.funcs[f]? = some fn) (hn : fn.ntmps = n) (h3 : fn.results.toList = [.tmp t]) (hb : fn.body = some c) (hname : (fn.name == "runtime.NumGoroutine") = false) (hargs : args.length ≤ n) (ht : t < 1000000)
  (hr:r.pure=true) (hap:T.pureL args=true) (he:argEnv 0 args=e) (hm:P.follows .mixedOrders=true) (h:∀ C:Ctx,TtOk C.P tt→C.P.follows .mixedOrders=true→C.P=P→AWP C n c (endZ t r) e):AFz P f args r:=by
 subst hn;subst he
 exact AFz.of hf hb hname hargs h3 ht hr hap (fun C hC=>h C (hC▸hP) (hC▸hm) hC)
theorem Ot {f:Nat→Int} {m:Int} (hm:0<m):∀ k,(∀ i,i<k→0≤f i∧f i<m)→0≤sm k f∧sm k f≤k*m
 | 0,_=>by simp [sm]
 | k+1,h=>by
  have ih:=Ot hm k (fun i hi=>h i (by omega))
  have h1:=h k (by omega)
  have e:((k+1:Nat):Int)*m=(k:Int)*m+m:=by rw [Int.natCast_add,Int.add_mul];simp
  simp only [sm]
  omega
def lfM (m:Int) (n:Nat) (t:Nat→Nat→Int) (a b c k:Nat):Int:=sm k (fun i=>t i c*pc (pwP m n t i) a b%m)
def rtM (m:Int) (n:Nat) (t:Nat→Nat→Int) (a b c k:Nat):Int:=sm k (fun j=>t a j*pc (pwP m n t j) b c%m)
theorem Aiq {m:Int} (hm:0<m) (hm2:m≤10000) (n:Nat) (t:Nat→Nat→Int) (a b c k:Nat) (hk:k≤1000):0≤lfM m n t a b c k∧lfM m n t a b c k≤10000000:=by
 have h:=Ot (f:=fun i=>t i c*pc (pwP m n t i) a b%m) hm k (fun i _=>Ag _ m hm)
 have h2:(k:Int)*m≤1000*10000:=Int.mul_le_mul (by omega) hm2 (by omega) (by omega)
 exact ⟨h.1,Int.le_trans h.2 h2⟩
theorem Air {m:Int} (hm:0<m) (hm2:m≤10000) (n:Nat) (t:Nat→Nat→Int) (a b c k:Nat) (hk:k≤1000):0≤rtM m n t a b c k∧rtM m n t a b c k≤10000000:=by
 have h:=Ot (f:=fun j=>t a j*pc (pwP m n t j) b c%m) hm k (fun i _=>Ag _ m hm)
 have h2:(k:Int)*m≤1000*10000:=Int.mul_le_mul (by omega) hm2 (by omega) (by omega)
 exact ⟨h.1,Int.le_trans h.2 h2⟩
def defI (m:Int) (n:Nat) (t:Nat→Nat→Int) (a b c:Nat):Int:=(lfM m n t a b c (n-c)-rtM m n t a b c (n-a))%m
theorem Ru {m:Int} {n:Nat} {t:Nat→Nat→Int} {a b c:Nat}:defI m n t a b c=0↔lfS m n t a b c%m=rtS m n t a b c%m:=by
 have e1:lfM m n t a b c (n-c)%m=lfS m n t a b c%m:=Be fun i _=>Int.emod_emod _ _
 have e2:rtM m n t a b c (n-a)%m=rtS m n t a b c%m:=Be fun i _=>Int.emod_emod _ _
 rw [← e1,← e2,defI]
 exact Int.emod_eq_emod_iff_emod_sub_eq_zero.symm
set_option maxHeartbeats 2000000 in
theorem Md (m:Int) (ll:List (List Int)) (n a b c:Nat) (hm:0<m) (hm2:m≤10000) (hl:Pl m n ll) (hn2:n≤1000) (h:a+b+c<n):AFn Tryz.prog 251 [.int .i64 a,.int .i64 b,.int .i64 c,.fptr (.int .i64 (n-1:Nat)),.fptr (.agg [.int .i64 m,.sl false 27 (rowsF ll)]),.fptr (.sl false 26 (plF m (pwL2 m n (pc ll) n)))] (.int .i64 (defI m n (pc ll) a b c)):=by
 refine fO Tryz.func251 Tryz.ntmps251 (by rw [Tryz.results251]) fun C hP hM hC=>?_
 have hm0:m≠0:=by omega
 (repeat (first|((with_reducible refine rC rfl fun K hK=>?_);simp only [go_sem,seval,↓reduceIte];refine hK _ _ _ ?_;clear hK K)|refine sT ?_))
 refine AWP.loop (fun i:Nat=>[(12,⟨0,.val (.int .i64 i)⟩),(10,⟨0,.val (.int .i64 (lfM m n (pc ll) a b c i))⟩),(11,⟨0,.val (.int .i64 0)⟩),(0,⟨0,.val (.int .i64 a)⟩),(1,⟨0,.val (.int .i64 b)⟩),(2,⟨0,.val (.int .i64 c)⟩),(3,⟨0,.val (.fptr (.int .i64 (n-1:Nat)))⟩),(4,⟨0,.val (.fptr (.agg [.int .i64 m,.sl false 27 (rowsF ll)]))⟩),(5,⟨0,.val (.fptr (.sl false 26 (plF m (pwL2 m n (pc ll) n))))⟩)]) (fun i=>i+c≤n) (fun i=>n-i) 0 (by omega) (fun i=>rfl) ?_ (fun i hi=>?_)
 ·simp [Sub,lk,lfM,sm]
 ·have s1:IntKind.i64.wrap (((n-1:Nat):Int)-(c:Int))=((n-1-c:Nat):Int):=by rw [wid _ (by omega) (by omega)];omega
  by_cases hic:i+c<n
  ·have r1:=hl.row i (by omega)
   have k1:c<(ll.getD i []).length:=by omega
   have pp:=Tl hm n (pc ll) i
   have r2:=pp.row a (by omega)
   have k2:b<((pwP m n (pc ll) i).getD a []).length:=by omega
   have x1:=hl.num i c
   have x2:=pp.num a b
   have xy:=F1 x1.1 x1.2 x2.1 x2.2 hm2
   have xm:=Ag (pc ll i c*pc (pwP m n (pc ll) i) a b) m hm
   have lb:=Aiq hm hm2 n (pc ll) a b c i (by omega)
   (repeat (first|((with_reducible refine rC rfl fun K hK=>?_);simp only [go_sem,seval,↓reduceIte,s1,show (i:Int)≤((n-1-c:Nat):Int) by omega,Ad ll i (by rw [hl.len];omega),Aa,hl.len,Int.toNat_natCast,Int.natCast_nonneg,show (i:Int)<(n:Int) by omega,Ac _ _ k1,r1,show (c:Int)<((n-i:Nat):Int) by omega,show (ll.getD i []).getD c 0=pc ll i c from rfl,Tq m (pwL2 m n (pc ll) n) i (by rw [Ek];omega),Ky,Ek,L9 (show i<n by omega),Ad (pwP m n (pc ll) i) a (by rw [pp.len];omega),pp.len,show (a:Int)<(n:Int) by omega,Ac _ _ k2,r2,show (b:Int)<((n-a:Nat):Int) by omega,show ((pwP m n (pc ll) i).getD a []).getD b 0=pc (pwP m n (pc ll) i) a b from rfl,wid (pc ll i c*pc (pwP m n (pc ll) i) a b) (by omega) (by omega),tm _ m xy.1,hm0,wid (lfM m n (pc ll) a b c i+pc ll i c*pc (pwP m n (pc ll) i) a b%m) (by omega) (by omega),wid ((i:Int)+1) (by omega) (by omega)];refine hK _ _ _ ?_;clear hK K)|refine sT ?_))
   exact ⟨i+1,by omega,by omega,by simp [Sub,lk,lfM,sm]⟩
  ·have e:i=n-c:=by omega
   have lb:=Aiq hm hm2 n (pc ll) a b c (n-c) (by omega)
   (repeat (first|((with_reducible refine rC rfl fun K hK=>?_);simp only [go_sem,seval,↓reduceIte,s1,show ¬ (i:Int)≤((n-1-c:Nat):Int) by omega];refine hK _ _ _ ?_;clear hK K)|refine sT ?_))
   refine AWP.loop (fun j:Nat=>[(13,⟨0,.val (.int .i64 j)⟩),(10,⟨0,.val (.int .i64 (lfM m n (pc ll) a b c (n-c)))⟩),(11,⟨0,.val (.int .i64 (rtM m n (pc ll) a b c j))⟩),(0,⟨0,.val (.int .i64 a)⟩),(1,⟨0,.val (.int .i64 b)⟩),(2,⟨0,.val (.int .i64 c)⟩),(3,⟨0,.val (.fptr (.int .i64 (n-1:Nat)))⟩),(4,⟨0,.val (.fptr (.agg [.int .i64 m,.sl false 27 (rowsF ll)]))⟩),(5,⟨0,.val (.fptr (.sl false 26 (plF m (pwL2 m n (pc ll) n))))⟩)]) (fun j=>j+a≤n) (fun j=>n-j) 0 (by omega) (fun i=>rfl) ?_ (fun j hj=>?_)
   ·simp [Sub,lk,rtM,sm,e]
   ·have s2:IntKind.i64.wrap (((n-1:Nat):Int)-(a:Int))=((n-1-a:Nat):Int):=by rw [wid _ (by omega) (by omega)];omega
    by_cases hja:j+a<n
    ·have r1:=hl.row a (by omega)
     have k1:j<(ll.getD a []).length:=by omega
     have pp:=Tl hm n (pc ll) j
     have r2:=pp.row b (by omega)
     have k2:c<((pwP m n (pc ll) j).getD b []).length:=by omega
     have x1:=hl.num a j
     have x2:=pp.num b c
     have xy:=F1 x1.1 x1.2 x2.1 x2.2 hm2
     have xm:=Ag (pc ll a j*pc (pwP m n (pc ll) j) b c) m hm
     have rb:=Air hm hm2 n (pc ll) a b c j (by omega)
     (repeat (first|((with_reducible refine rC rfl fun K hK=>?_);simp only [go_sem,seval,↓reduceIte,s2,show (j:Int)≤((n-1-a:Nat):Int) by omega,Ad ll a (by rw [hl.len];omega),Aa,hl.len,Int.toNat_natCast,Int.natCast_nonneg,show (a:Int)<(n:Int) by omega,Ac _ _ k1,r1,show (j:Int)<((n-a:Nat):Int) by omega,show (ll.getD a []).getD j 0=pc ll a j from rfl,Tq m (pwL2 m n (pc ll) n) j (by rw [Ek];omega),Ky,Ek,L9 (show j<n by omega),Ad (pwP m n (pc ll) j) b (by rw [pp.len];omega),pp.len,show (j:Int)<(n:Int) by omega,show (b:Int)<(n:Int) by omega,Ac _ _ k2,r2,show (c:Int)<((n-b:Nat):Int) by omega,show ((pwP m n (pc ll) j).getD b []).getD c 0=pc (pwP m n (pc ll) j) b c from rfl,wid (pc ll a j*pc (pwP m n (pc ll) j) b c) (by omega) (by omega),tm _ m xy.1,hm0,wid (rtM m n (pc ll) a b c j+pc ll a j*pc (pwP m n (pc ll) j) b c%m) (by omega) (by omega),wid ((j:Int)+1) (by omega) (by omega)];refine hK _ _ _ ?_;clear hK K)|refine sT ?_))
     exact ⟨j+1,by omega,by omega,by simp [Sub,lk,rtM,sm]⟩
    ·have e2:j=n-a:=by omega
     have rb:=Air hm hm2 n (pc ll) a b c j (by omega)
     (repeat (first|((with_reducible refine rC rfl fun K hK=>?_);simp only [go_sem,seval,↓reduceIte,s2,show ¬ (j:Int)≤((n-1-a:Nat):Int) by omega,wid (lfM m n (pc ll) a b c (n-c)-rtM m n (pc ll) a b c j) (by omega) (by omega)];(first|refine hK _ _ _ ?_|refine ⟨_,Cr _ m hm (by omega),hK _ _ _ ?_⟩);clear hK K)|refine sT ?_))
     refine rt1 ?_
     rw [e2];rfl
theorem Xi (m:Int) (ll:List (List Int)) (n:Nat) (hm:0<m) (hm2:m≤10000) (hl:Pl m n ll) (hn:1≤n) (hn2:n≤1000):AFz Tryz.prog 210 [.agg [.int .i64 m,.sl false 27 (rowsF ll)]] (.fn 251 [.fptr (.int .i64 (n-1:Nat)),.fptr (.agg [.int .i64 m,.sl false 27 (rowsF ll)]),.fptr (.sl false 26 (plF m (pwL2 m n (pc ll) n)))]):=by
 refine AFz.of' (t:=2) ttOk Tryz.func210 Tryz.ntmps210 (by rw [Tryz.results210]) (by rfl) (by rfl) (by simp) (by decide) (by simp [T.pure,T.pureL,Ca,H9]) (by simp [T.pure,T.pureL,Ca]) (by simp only [go_sem,Nat.reduceAdd,↓reduceIte];rfl) mixed (fun C hP hM hC=>?_)
 have hD:=A3 m ll (by rw [hl.len];omega)
 rw [hl.len,show (n:Int)-1=((n-1:Nat):Int) by omega] at hD
 repeat (fail_if_success (refine AWP.freeze 3 rfl ?_));(first|((with_reducible refine rC rfl fun K hK=>?_);simp only [go_sem,seval,↓reduceIte];(first|refine hK _ _ _ ?_|refine ⟨_,hD,hK _ _ _ ?_⟩|refine ⟨_,Ll m ll n hm hm2 hl hn hn2,hK _ _ _ ?_⟩);clear hK K)|refine sT ?_)
 refine AWP.freeze 3 rfl ?_
 refine AWP.freeze 4 rfl ?_
 refine AWP.freeze 1 rfl ?_
 simp only [T.freeze,T.freezeL,Km,F4]
 (repeat (first|((with_reducible refine rC rfl fun K hK=>?_);simp only [go_sem,seval,↓reduceIte];refine hK _ _ _ ?_;clear hK K)|refine sT ?_))
 refine AWP.ret ?_
 exact ⟨_,rfl⟩
theorem Ah3 {C C1 : Ctx} {tt : Tt} {n : Nat} {env env' : Env} {a : Act} {w : World} (hE : Ext C C1) (hP : TtOk C1.P tt) (md : FuncId → List Bool) (hn1 : n ≤ 1000000) {ops : Array Oper} {i : Nat} {o : Oper} {l : List Oper} (hi : ops[i]? = some o) (hl : ∀ j, ops[i + 1 + j]? = l[j]?) {d x k f : Nat} {ty : Array TypeId} {y r : T} (ho : o.op = .call { callee := .value (.func f), args := #[.tmp x], argTypes := ty }) (hg : o.guard = none) (hdst : o.dst = some d)
  (hok:∀ o'∈o::l,opOk n o'=true) (hx1:x<1000000) (hp:pureEnv env=true) (hx:lk env x=some ⟨k,.val y⟩) (hz:AFz C.P f [y] r) {tr:List (List (Nat×Slot)×List Nat)}
  (h1:Txt (AFn C.P) (gRds tt md ops l (i+1)) ((d,⟨0,.val r⟩)::env) tr env') (hF:FR C1 n env a w) {QQ:Exit→Act→World→Prop} (hQ:∀ C2 a' w',Ext C1 C2→FR C2 n env' a' w'→QQ .normal a' w'):wpOp C1.P ops QQ i (wpOps C1.P ops QQ (List.range' (i+1) l.length)) a w:=by
 obtain ⟨hE2,hd,hn,κ,V,hI,hV⟩:=hF.bare hp
 obtain ⟨⟨fn,g1,g2,g3⟩,hrp,hcall⟩:=hz
 rw [← hE.P] at g1
 obtain ⟨_,cs,e1,e2⟩:=hI.val _ _ _ hx
 rw [hV _ hx1] at e1
 obtain ⟨y',hy1,hy2⟩:=Ct hp hx
 cases hy1
 have hdn:d<n:=Am (hok o (by simp)) d hdst
 refine Qk (o:=o) hi (by simp [Region.wanted,hg]) ?_
 have hrun:(execOp a.eval o).run C1.P w=.ok (.enter f [a.tmps.getD x undef].toArray) w:=by
  simp only [execOp,ho,Go.resolve,Deferred.ofValue,Sem.run_bind,Sem.run_pure,Result.andThen_ok,invoke,Act.eval]
  rw [show (#[]++Array.map a.eval #[Operand.tmp x] ++ #[])=[a.tmps.getD x undef].toArray by rw [show a.tmps.getD x undef=a.eval (.tmp x) from rfl];simp]
  exact Ci g1 g2 g3 _ _
 unfold Oper.wp
 rw [hrun]
 show Calls C1.P f _ w _
 have hcall':=hcall w [a.tmps.getD x undef] rfl (fun j t v hj hv=>by
  match j,hj,hv with
  | 0,hj,hv=>
   simp only [List.getElem?_cons_zero,Option.some.injEq] at hj hv
   subst hj;subst hv
   exact ⟨cs,e1,Av (cx ⟨C1.P,w,fun _=>False,C1.pin⟩ env w κ) (argCx C.P w (fun _=>none)) x 0 (by simp [argCx,cx,hE.P]) (fun b hb=>⟨⟨hb.1,rfl⟩,rfl⟩) _ [] [] cs hy2 e2⟩
  | _+1,hj,hv=>simp at hj)
 rw [← hE.P] at hcall'
 refine hcall'.mono fun e w' ⟨v,he,q1,q2,q3,q4,q5,c2,q6,q7⟩=>?_
 subst he
 show wpOps C1.P ops QQ (List.range' (i+1) l.length) (a.put o.dst v) w'
 rw [hdst]
 have hE3:Ext C1 ⟨C1.P,w',fun _=>False,C1.pin⟩:=hE2.trans ⟨rfl,fun b hb=>⟨Nat.lt_of_lt_of_le hb.1 q4,fun h=>h⟩,fun b hb=>q5 b hb.1,q1,q2,q3,q4,rfl⟩
 have hF3:FR ⟨C1.P,w',fun _=>False,C1.pin⟩ n ((d,⟨0,.val r⟩)::env) (a.put (some d) v) w':=by
  refine ⟨by rw [Hi];exact hd,by rw [Kv];exact hn,fun _=>none,upd V d v,⟨rfl,rfl,rfl,Nat.le_refl _,fun _ _=>rfl,fun _ _ _ _ h=>(by cases h),fun _ _ _ _ _ _ h=>(by cases h),fun t j x hx=>?_,fun t j x hx=>?_,fun t j hx=>?_,fun u0 _ _ _ _ _ _ hx _ _=>?_,fun _ _ _ _ _ hx=>?_⟩,fun t ht=>?_⟩
  ·by_cases e:t=d
   ·subst e
    rw [Ak] at hx
    cases hx
    rw [By]
    exact ⟨Ba _ hrp,c2,q6,Av (argCx C1.P w' (fun _=>none)) (cx ⟨C1.P,w',fun _=>False,C1.pin⟩ ((t,⟨0,.val r⟩)::env) w' (fun _=>none)) 0 t (by simp [argCx,cx,hE.P]) (fun b hb=>⟨⟨hb.1,fun h=>h⟩,rfl⟩) r [] [] c2 hrp q7⟩
   ·rw [Ab _ _ _ _ e] at hx
    obtain ⟨z,z1,z2⟩:=Ct hp hx
    cases z1
    obtain ⟨z3,c3,z4,z5⟩:=hI.val t j x hx
    refine ⟨z3,c3,by simp only [upd,if_neg e];exact z4,Av (cx ⟨C1.P,w,fun _=>False,C1.pin⟩ env w κ) (cx ⟨C1.P,w',fun _=>False,C1.pin⟩ ((d,⟨0,.val r⟩)::env) w' (fun _=>none)) t t rfl (fun b hb=>⟨⟨Nat.lt_of_lt_of_le hb.1 q4,fun h=>h⟩,q5 b hb.1⟩) x [] [] c3 z2 z5⟩
  ·by_cases e:t=d
   ·subst e
    rw [Ak] at hx
    cases hx
   ·rw [Ab _ _ _ _ e] at hx
    obtain ⟨z,z1,_⟩:=Ct hp hx
    cases z1
  ·by_cases e:t=d
   ·subst e
    rw [Ak] at hx
    cases hx
   ·rw [Ab _ _ _ _ e] at hx
    obtain ⟨z,z1,_⟩:=Ct hp hx
    cases z1
  ·by_cases e:u0=d
   ·subst e
    rw [Ak] at hx
    cases hx
   ·rw [Ab _ _ _ _ e] at hx
    obtain ⟨z,z1,_⟩:=Ct hp hx
    cases z1
  ·by_cases e:3000001=d
   ·subst e
    rw [Ak] at hx
    cases hx
   ·rw [Ab _ _ _ _ e] at hx
    obtain ⟨z,z1,_⟩:=Ct hp hx
    cases z1
  ·rw [Kg (by rw [hn];exact hdn)]
   by_cases e:t=d
   ·subst e;simp [upd]
   ·simp only [upd,if_neg e];exact hV t ht
 rw [← hE.P] at h1
 exact Txt.text (C0:=⟨C1.P,w',fun _=>False,C1.pin⟩) (P:=C1.P) (tt:=tt) hP md hn1 l (i+1) _ _ w' tr env' ⟨C1.P,w',fun _=>False,C1.pin⟩ rfl (.refl _) hl (fun o' ho'=>hok o' (by simp [ho'])) hF3 h1 (fun a' w'' ⟨C4,hE4,hF'⟩=>hQ _ a' w'' (hE3.trans hE4) hF')
theorem AWP.callZ2 {C : Ctx} {P : Program} {tt : Tt} {n : Nat} {env : Env} {Q : Exit → Env → Prop} (hC : C.P = P) (hP : TtOk C.P tt) (md : FuncId → List Bool) (hn1 : n ≤ 1000000) {o0 o : Oper} {l : List Oper} {id d x f : Nat} {ty : Array TypeId} {y r : T} (ho : o.op = .call { callee := .value (.func f), args := #[.tmp x], argTypes := ty }) (hg : o.guard = none) (hdst : o.dst = some d)
  (hok:(o0::o::l).all (opOk n)=true) (hx1:x<1000000) (hz:AFz P f [y] r)
  (h:(gRd tt md (o0::o::l).toArray 0 o0).run (AFn P) env (fun U _=>pureEnv (U++env)=true∧(∃ k,lk (U++env) x=some ⟨k,.val y⟩)∧rgn (AFn P) (fun _=>True) (Q .normal) (gRds tt md (o0::o::l).toArray l 2) ((d,⟨0,.val r⟩)::(U++env)) [])):AWP C n (.region id (o0::o::l).toArray false) Q env:=by
 intro C1 hE a w hF
 subst hC
 obtain ⟨U,R,s1,hp,⟨k,hx⟩,h⟩:=Rd.run_sat _ _ _ h
 obtain ⟨tr,env',h1,_,h2⟩:=M1 _ _ _ h
 have hP1:TtOk C1.P tt:=by rw [hE.P];exact hP
 refine wp_region ?_
 rw [List.range_eq_range',show (o0::o::l).toArray.size=l.length+1+1 by simp,List.range'_succ,wpOps_cons]
 rw [← hE.P] at s1
 refine Lv hP1 md hF hn1 (o:=o0) (by simp) (List.all_eq_true.1 hok o0 (by simp)) s1 (fun a w hFe=>?_)
 obtain ⟨C5,hE5,hF⟩:=hFe
 rw [← hE5.P,List.range'_succ,wpOps_cons]
 exact Ah3 (hE.trans hE5) (by rw [hE5.P];exact hP1) md hn1 (i:=0+1) (by simp) (fun j=>by simp [Nat.add_comm 2 j,Nat.add_comm (0+1+1) j]) ho hg hdst (fun o' ho'=>List.all_eq_true.1 hok o' (by simp at ho' ⊢;exact .inr ho')) hx1 hp hx hz h1 hF (fun C2 a' w' h0 hF'=>⟨C2,env',hE5.trans h0,h2,hF'⟩)
set_option maxHeartbeats 4000000 in
theorem Sf (m:Int) (ll:List (List Int)) (n:Nat) (r:T) (hm:0<m) (hm2:m≤10000) (hl:Pl m n ll) (hn:1≤n) (hn2:n≤1000) (hr:FaultR m n (pc ll) r):AFn Tryz.prog 118 [.agg [.int .i64 m,.sl false 27 (rowsF ll)]] r:=by
 refine fO Tryz.func118 Tryz.ntmps118 (by rw [Tryz.results118]) fun C hP hM hC=>?_
 (repeat (first|((with_reducible refine rC rfl fun K hK=>?_);simp only [go_sem,seval,↓reduceIte,Aa,hl.len];refine hK _ _ _ ?_;clear hK K)|refine sT ?_))
 refine AWP.loop (fun i:Nat=>[(16,⟨0,.val (.int .i64 i)⟩),(15,⟨0,.val (.int .i64 n)⟩),(1,⟨1,.own (.box 26 (.agg [.int .i64 m,.sl false 27 (rowsF ll)]))⟩)]) (fun i=>i≤n∧∀ i',i'<i→ok1 (pc ll) i') (fun i=>n-i) 0 ⟨Nat.zero_le _,fun i hi=>absurd hi (Nat.not_lt_zero _)⟩ (fun i=>rfl) ?_ (fun i hi=>?_)
 ·simp [Sub,lk]
 ·by_cases hin:i<n
  ·have hrow:=hl.row i hin
   have hj:0<(ll.getD i []).length:=by omega
   by_cases h1:i=1
   ·by_cases hok:ok1 (pc ll) i
    ·have hv:pc ll i 0=1:=by have:=hok;unfold ok1 at this;rwa [if_pos h1] at this
     (repeat (first|((with_reducible refine rC rfl fun K hK=>?_);simp only [go_sem,seval,↓reduceIte,show (i:Int)<(n:Int) by omega,show ((i:Int)==1)=true by subst h1;rfl,Ad ll i (by rw [hl.len];exact hin),Aa,hl.len,Int.toNat_natCast,Int.natCast_nonneg,Int.le_refl,Int.toNat_zero,Ac _ _ hj,hrow,show (0:Int)<((n-i:Nat):Int) by omega,show (ll.getD i []).getD 0 0=pc ll i 0 from rfl,hv,show ((1:Int) != 1)=false from rfl,wid ((i:Int)+1) (by omega) (by omega)];refine hK _ _ _ ?_;clear hK K)|refine sT ?_))
     refine ⟨i+1,⟨by omega,fun i' hi'=>?_⟩,by omega,by simp [Sub,lk]⟩
     by_cases e:i'=i
     ·rw [e];exact hok
     ·exact hi.2 i' (by omega)
    ·have hv : (pc ll i 0 != 1) = true := by
      have:=hok;unfold ok1 at this;rw [if_pos h1] at this;simpa using this
     (repeat (first|((with_reducible refine rC rfl fun K hK=>?_);simp only [go_sem,seval,↓reduceIte,show (i:Int)<(n:Int) by omega,show ((i:Int)==1)=true by subst h1;rfl,Ad ll i (by rw [hl.len];exact hin),Aa,hl.len,Int.toNat_natCast,Int.natCast_nonneg,Int.le_refl,Int.toNat_zero,Ac _ _ hj,hrow,show (0:Int)<((n-i:Nat):Int) by omega,show (ll.getD i []).getD 0 0=pc ll i 0 from rfl,hv];refine hK _ _ _ ?_;clear hK K)|refine sT ?_))
     refine rt1 ?_
     exact hr.one i hin hi.2 hok
   ·by_cases hok:ok1 (pc ll) i
    ·have hv:pc ll i 0=0:=by have:=hok;unfold ok1 at this;rwa [if_neg h1] at this
     (repeat (first|((with_reducible refine rC rfl fun K hK=>?_);simp only [go_sem,seval,↓reduceIte,show (i:Int)<(n:Int) by omega,show ((i:Int)==1)=false by rw [beq_eq_false_iff_ne];omega,Ad ll i (by rw [hl.len];exact hin),Aa,hl.len,Int.toNat_natCast,Int.natCast_nonneg,Int.le_refl,Int.toNat_zero,Ac _ _ hj,hrow,show (0:Int)<((n-i:Nat):Int) by omega,show (ll.getD i []).getD 0 0=pc ll i 0 from rfl,hv,show ((0:Int) != 0)=false from rfl,wid ((i:Int)+1) (by omega) (by omega)];refine hK _ _ _ ?_;clear hK K)|refine sT ?_))
     refine ⟨i+1,⟨by omega,fun i' hi'=>?_⟩,by omega,by simp [Sub,lk]⟩
     by_cases e:i'=i
     ·rw [e];exact hok
     ·exact hi.2 i' (by omega)
    ·have hv : (pc ll i 0 != 0) = true := by
      have:=hok;unfold ok1 at this;rw [if_neg h1] at this;simpa using this
     (repeat (first|((with_reducible refine rC rfl fun K hK=>?_);simp only [go_sem,seval,↓reduceIte,show (i:Int)<(n:Int) by omega,show ((i:Int)==1)=false by rw [beq_eq_false_iff_ne];omega,Ad ll i (by rw [hl.len];exact hin),Aa,hl.len,Int.toNat_natCast,Int.natCast_nonneg,Int.le_refl,Int.toNat_zero,Ac _ _ hj,hrow,show (0:Int)<((n-i:Nat):Int) by omega,show (ll.getD i []).getD 0 0=pc ll i 0 from rfl,hv];refine hK _ _ _ ?_;clear hK K)|refine sT ?_))
     refine rt1 ?_
     exact hr.one i hin hi.2 hok
  ·have hA:∀ i,i<n→ok1 (pc ll) i:=fun i' h=>hi.2 i' (by omega)
   (repeat (first|((with_reducible refine rC rfl fun K hK=>?_);simp only [go_sem,seval,↓reduceIte,show ¬ (i:Int)<(n:Int) by omega,Aa,hl.len];refine hK _ _ _ ?_;clear hK K)|refine sT ?_))
   refine AWP.loop (fun i:Nat=>[(36,⟨0,.val (.int .i64 i)⟩),(35,⟨0,.val (.int .i64 n)⟩),(34,⟨0,.val (.sl false 27 (rowsF ll))⟩),(1,⟨1,.own (.box 26 (.agg [.int .i64 m,.sl false 27 (rowsF ll)]))⟩)]) (fun i=>i≤n∧∀ i',i'<i→∀ j,ok2 n (pc ll) i' j) (fun i=>n-i) 0 ⟨Nat.zero_le _,fun i hi=>absurd hi (Nat.not_lt_zero _)⟩ (fun i=>rfl) ?_ (fun i hi=>?_)
   ·simp [Sub,lk]
   ·by_cases hin:i<n
    ·have hrow:=hl.row i hin
     (repeat (first|((with_reducible refine rC rfl fun K hK=>?_);simp only [go_sem,seval,↓reduceIte,show (i:Int)<(n:Int) by omega,Ad ll i (by rw [hl.len];exact hin),Aa,hl.len,Int.toNat_natCast,Int.natCast_nonneg,wid ((i:Int)+1) (by omega) (by omega)];refine hK _ _ _ ?_;clear hK K)|refine sT ?_))
     refine AWP.loop (fun j:Nat=>[(7,⟨0,.val (.int .i64 j)⟩),(5,⟨0,.val (.int .i64 i)⟩),(6,⟨0,.val (.sl false 2 (intL (ll.getD i [])))⟩),(36,⟨0,.val (.int .i64 i)⟩),(35,⟨0,.val (.int .i64 n)⟩),(34,⟨0,.val (.sl false 27 (rowsF ll))⟩),(1,⟨1,.own (.box 26 (.agg [.int .i64 m,.sl false 27 (rowsF ll)]))⟩)]) (fun j=>i<j∧j≤n+1∧∀ j',j'<j→ok2 n (pc ll) i j') (fun j=>n+2-j) (i+1) ⟨by omega,by omega,fun j hj=>Ado (by omega)⟩ (fun i=>rfl) ?_ (fun j hj=>?_)
     ·simp [Sub,lk]
     ·have w1:=widK (i+j) (by omega)
      by_cases hij:i+j<n
      ·have hrow2:=hl.row j (by omega)
       have k1:j<(ll.getD i []).length:=by omega
       have k2:i<(ll.getD j []).length:=by omega
       by_cases hok:ok2 n (pc ll) i j
       ·have hv:(pc ll i j != pc ll j i)=false:=by simpa using hok hj.1 hij
        (repeat (first|((with_reducible refine rC rfl fun K hK=>?_);simp only [go_sem,seval,↓reduceIte,← Int.natCast_add,w1,show (j:Int)<((n-i:Nat):Int) by omega,Ad ll i (by rw [hl.len];omega),Ad ll j (by rw [hl.len];omega),Aa,hl.len,show (i:Int)<(n:Int) by omega,show (j:Int)<(n:Int) by omega,Int.toNat_natCast,Int.natCast_nonneg,Ac _ _ k1,Ac _ _ k2,hrow,hrow2,show (j:Int)<((n-i:Nat):Int) by omega,show (i:Int)<((n-j:Nat):Int) by omega,show (ll.getD i []).getD j 0=pc ll i j from rfl,show (ll.getD j []).getD i 0=pc ll j i from rfl,hv,wid ((j:Int)+1) (by omega) (by omega)];refine hK _ _ _ ?_;clear hK K)|refine sT ?_))
        refine ⟨j+1,⟨by omega,by omega,fun j' hj'=>?_⟩,by omega,by simp [Sub,lk]⟩
        by_cases e:j'=j
        ·rw [e];exact hok
        ·exact hj.2.2 j' (by omega)
       ·have hv : (pc ll i j != pc ll j i) = true := by
         have h5:¬ pc ll i j=pc ll j i:=fun h6=>hok fun _ _=>h6
         simpa using h5
        (repeat (first|((with_reducible refine rC rfl fun K hK=>?_);simp only [go_sem,seval,↓reduceIte,← Int.natCast_add,w1,show (j:Int)<((n-i:Nat):Int) by omega,Ad ll i (by rw [hl.len];omega),Ad ll j (by rw [hl.len];omega),Aa,hl.len,show (i:Int)<(n:Int) by omega,show (j:Int)<(n:Int) by omega,Int.toNat_natCast,Int.natCast_nonneg,Ac _ _ k1,Ac _ _ k2,hrow,hrow2,show (j:Int)<((n-i:Nat):Int) by omega,show (i:Int)<((n-j:Nat):Int) by omega,show (ll.getD i []).getD j 0=pc ll i j from rfl,show (ll.getD j []).getD i 0=pc ll j i from rfl,hv];refine hK _ _ _ ?_;clear hK K)|refine sT ?_))
        refine rt1 ?_
        exact hr.two hA i j hi.2 hj.2.2 hok
      ·(repeat (first|((with_reducible refine rC rfl fun K hK=>?_);simp only [go_sem,seval,↓reduceIte,hrow,show ¬ (j:Int)<((n-i:Nat):Int) by omega,wid ((i:Int)+1) (by omega) (by omega)];refine hK _ _ _ ?_;clear hK K)|refine sT ?_))
       refine ⟨i+1,⟨by omega,fun i' hi' j'=>?_⟩,by omega,by simp [Sub,lk]⟩
       by_cases e:i'=i
       ·rw [e]
        by_cases hjj:j'<j
        ·exact hj.2.2 j' hjj
        ·exact Pi (by omega)
       ·exact hi.2 i' (by omega) j'
    ·have hB : ∀ i j, ok2 n (pc ll) i j := fun i' j => by
      by_cases h5:i'<i
      ·exact hi.2 i' h5 j
      ·exact Pi (by omega)
     have hz:=Xi m ll n hm hm2 hl hn hn2
     have hD:=A3 m ll (by rw [hl.len];omega)
     rw [hl.len,show (n:Int)-1=((n-1:Nat):Int) by omega] at hD
     repeat (fail_if_success (refine AWP.seq (AWP.callZ2 hC hP md (by decide) rfl rfl rfl (by kernel_rfl) (by decide) hz ?_)));(first|((with_reducible refine rC rfl fun K hK=>?_);simp only [go_sem,seval,↓reduceIte,show ¬ (i:Int)<(n:Int) by omega];refine hK _ _ _ ?_;clear hK K)|refine sT ?_)
     refine AWP.freeze 1 rfl ?_
     simp only [T.freeze,T.freezeL,F4]
     refine AWP.sub (e1:=[(1,⟨1,.val (.fptr (.agg [.int .i64 m,.sl false 27 (rowsF ll)]))⟩)]) (by simp [Sub,lk]) rfl ?_
     refine AWP.seq (AWP.callZ2 hC hP md (by decide) rfl rfl rfl (by kernel_rfl) (by decide) hz ?_)
     simp only [go_sem,seval,↓reduceIte]
     refine ⟨by simp [pureEnv,T.pure,T.pureL,Ca],⟨_,rfl⟩,?_⟩
     (repeat (first|((with_reducible refine rC rfl fun K hK=>?_);simp only [go_sem,seval,↓reduceIte];(first|refine hK _ _ _ ?_|refine ⟨_,hD,hK _ _ _ ?_⟩);clear hK K)|refine sT ?_))
     refine AWP.loop (fun a:Nat=>[(10,⟨0,.val (.int .i64 a)⟩),(9,⟨0,.val (.int .i64 (n-1:Nat))⟩),(8,⟨0,.val (.fn 251 [.fptr (.int .i64 (n-1:Nat)),.fptr (.agg [.int .i64 m,.sl false 27 (rowsF ll)]),.fptr (.sl false 26 (plF m (pwL2 m n (pc ll) n)))])⟩)]) (fun a=>a≤n∧∀ a',a'<a→∀ b k,ok3 m n (pc ll) a' b k) (fun a=>n-a) 0 ⟨Nat.zero_le _,fun i hi=>absurd hi (Nat.not_lt_zero _)⟩ (fun i=>rfl) ?_ (fun a ha=>?_)
     ·simp [Sub,lk]
     ·by_cases hac:a<n
      ·(repeat (first|((with_reducible refine rC rfl fun K hK=>?_);simp only [go_sem,seval,↓reduceIte,show (a:Int)≤((n-1:Nat):Int) by omega];refine hK _ _ _ ?_;clear hK K)|refine sT ?_))
       refine AWP.loop (fun b:Nat=>[(11,⟨0,.val (.int .i64 b)⟩),(10,⟨0,.val (.int .i64 a)⟩),(9,⟨0,.val (.int .i64 (n-1:Nat))⟩),(8,⟨0,.val (.fn 251 [.fptr (.int .i64 (n-1:Nat)),.fptr (.agg [.int .i64 m,.sl false 27 (rowsF ll)]),.fptr (.sl false 26 (plF m (pwL2 m n (pc ll) n)))])⟩)]) (fun b=>a+b≤n∧∀ b',b'<b→∀ k,ok3 m n (pc ll) a b' k) (fun b=>n-b) 0 ⟨by omega,fun i hi=>absurd hi (Nat.not_lt_zero _)⟩ (fun i=>rfl) ?_ (fun b hb=>?_)
       ·simp [Sub,lk]
       ·have w1:=widK (a+b) (by omega)
        by_cases hbc:a+b<n
        ·(repeat (first|((with_reducible refine rC rfl fun K hK=>?_);simp only [go_sem,seval,↓reduceIte,← Int.natCast_add,w1,show ((a+b:Nat):Int)≤((n-1:Nat):Int) by omega];refine hK _ _ _ ?_;clear hK K)|refine sT ?_))
         refine AWP.loop (fun k:Nat=>[(12,⟨0,.val (.int .i64 k)⟩),(11,⟨0,.val (.int .i64 b)⟩),(10,⟨0,.val (.int .i64 a)⟩),(9,⟨0,.val (.int .i64 (n-1:Nat))⟩),(8,⟨0,.val (.fn 251 [.fptr (.int .i64 (n-1:Nat)),.fptr (.agg [.int .i64 m,.sl false 27 (rowsF ll)]),.fptr (.sl false 26 (plF m (pwL2 m n (pc ll) n)))])⟩)]) (fun k=>a+b+k≤n∧∀ k',k'<k→ok3 m n (pc ll) a b k') (fun k=>n-k) 0 ⟨by omega,fun i hi=>absurd hi (Nat.not_lt_zero _)⟩ (fun i=>rfl) ?_ (fun k hk=>?_)
         ·simp [Sub,lk]
         ·have w2:=widK (a+b+k) (by omega)
          by_cases hkc:a+b+k<n
          ·have hF:=Md m ll n a b k hm hm2 hl hn2 hkc
           by_cases hok:ok3 m n (pc ll) a b k
           ·have hv:(defI m n (pc ll) a b k != 0)=false:=by rw [Ru.2 (hok hkc)];rfl
            (repeat (first|((with_reducible refine rC rfl fun K hK=>?_);simp only [go_sem,seval,↓reduceIte,← Int.natCast_add,w1,w2,show ((a+b+k:Nat):Int)≤((n-1:Nat):Int) by omega,hv,wid ((k:Int)+1) (by omega) (by omega)];(first|refine hK _ _ _ ?_|refine ⟨_,hF,hK _ _ _ ?_⟩);clear hK K)|refine sT ?_))
            refine ⟨k+1,⟨by omega,fun k' hk'=>?_⟩,by omega,by simp [Sub,lk]⟩
            by_cases e:k'=k
            ·rw [e];exact hok
            ·exact hk.2 k' (by omega)
           ·have hv : (defI m n (pc ll) a b k != 0) = true := by
             have h5:¬ defI m n (pc ll) a b k=0:=fun h6=>hok fun _=>Ru.1 h6
             simpa using h5
            (repeat (first|((with_reducible refine rC rfl fun K hK=>?_);simp only [go_sem,seval,↓reduceIte,← Int.natCast_add,w1,w2,show ((a+b+k:Nat):Int)≤((n-1:Nat):Int) by omega,hv];(first|refine hK _ _ _ ?_|refine ⟨_,hF,hK _ _ _ ?_⟩);clear hK K)|refine sT ?_))
            refine rt1 ?_
            exact hr.three hA hB a b k ha.2 hb.2 hk.2 hok
          ·(repeat (first|((with_reducible refine rC rfl fun K hK=>?_);simp only [go_sem,seval,↓reduceIte,← Int.natCast_add,w1,w2,show ¬ ((a+b+k:Nat):Int)≤((n-1:Nat):Int) by omega,wid ((b:Int)+1) (by omega) (by omega)];refine hK _ _ _ ?_;clear hK K)|refine sT ?_))
           refine ⟨b+1,⟨by omega,fun b' hb' k'=>?_⟩,by omega,by simp [Sub,lk]⟩
           by_cases e:b'=b
           ·rw [e]
            by_cases hkk:k'<k
            ·exact hk.2 k' hkk
            ·exact Ju (by omega)
           ·exact hb.2 b' (by omega) k'
        ·(repeat (first|((with_reducible refine rC rfl fun K hK=>?_);simp only [go_sem,seval,↓reduceIte,← Int.natCast_add,w1,show ¬ ((a+b:Nat):Int)≤((n-1:Nat):Int) by omega,wid ((a:Int)+1) (by omega) (by omega)];refine hK _ _ _ ?_;clear hK K)|refine sT ?_))
         refine ⟨a+1,⟨by omega,fun a' ha' b' k'=>?_⟩,by omega,by simp [Sub,lk]⟩
         by_cases e:a'=a
         ·rw [e]
          by_cases hbb:b'<b
          ·exact hb.2 b' hbb k'
          ·exact Ju (by omega)
         ·exact ha.2 a' (by omega) b' k'
      ·(repeat (first|((with_reducible refine rC rfl fun K hK=>?_);simp only [go_sem,seval,↓reduceIte,show ¬ (a:Int)≤((n-1:Nat):Int) by omega];refine hK _ _ _ ?_;clear hK K)|refine sT ?_))
       refine rt1 ?_
       exact hr.none ⟨hA,hB,fun a' b' k'=>by
        by_cases h5:a'<a
        ·exact ha.2 a' h5 b' k'
        ·exact Ju (by omega)⟩
def rowB (m:Int) (ll:List (List Int)) (i:Nat):Bool:=((ll.getD i []).length==ll.length-i)&&(ll.getD i []).all (isNum m)
def isPl (m:Int) (ll:List (List Int)):Bool:=(decide (2≤m)&&decide (m≤10000))&&(decide (1≤(ll.length:Int)-1)&&decide ((ll.length:Int)-1≤10))&&(List.range ll.length).all (rowB m ll)
def Sm (ll:List (List Int)):Prop:=ll.length≤1000000000∧∀ i,(ll.getD i []).length≤1000000000
theorem Hs {m:Int} {ll:List (List Int)} (h:isPl m ll=true):2≤m∧m≤10000∧2≤ll.length∧ll.length≤11∧Pl m ll.length ll:=by
 simp only [isPl,Bool.and_eq_true,decide_eq_true_eq,List.all_eq_true,List.mem_range,rowB,beq_iff_eq,isNum] at h
 obtain ⟨⟨⟨h1,h2⟩,h3,h4⟩,h5⟩:=h
 refine ⟨h1,h2,by omega,by omega,rfl,fun i hi=>(h5 i hi).1,fun i j=>?_⟩
 by_cases hi:i<ll.length
 ·have hb:=A4 (l:=ll.getD i []) (m:=m) (fun x hx=>by have:=(h5 i hi).2 x hx;omega) (by omega) j
  exact hb
 ·have e:ll.getD i []=[]:=by rw [List.getD_eq_getElem?_getD,List.getElem?_eq_none (by omega)];rfl
  rw [pc,e]
  simp [at'];omega
theorem Or {m:Int} {ll:List (List Int)} (h1:(decide (2≤m)&&decide (m≤10000))=true) (h2:(decide (1≤(ll.length:Int)-1)&&decide ((ll.length:Int)-1≤10))=true) (h3:∀ i,i<ll.length→rowB m ll i=true):isPl m ll=true:=by
 rw [isPl,h1,h2]
 simp only [Bool.true_and,List.all_eq_true,List.mem_range]
 exact h3
theorem Kj {m:Int} {ll:List (List Int)} {i:Nat} (hi:i<ll.length) (h:rowB m ll i=false):isPl m ll=false:=by
 cases e:isPl m ll with
 | false=>rfl
 | true=>
  simp only [isPl,Bool.and_eq_true,List.all_eq_true,List.mem_range] at e
  rw [e.2 i hi] at h
  cases h
theorem Ia (x m:Int) (ll:List (List Int)) (h1 : -9000000000000000000≤m) (h2:m≤9000000000000000000):AFn Tryz.prog 190 [.int .i64 x,.fptr (.agg [.int .i64 m,.sl false 27 (rowsF ll)])] (.bool (isNum m x)):=by
 refine fO Tryz.func190 Tryz.ntmps190 (by rw [Tryz.results190]) fun C hP hM hC=>?_
 (repeat (first|((with_reducible refine rC rfl fun K hK=>?_);simp only [go_sem,seval,↓reduceIte];(first|refine hK _ _ _ ?_|refine ⟨_,Dx _ _ h1 h2,hK _ _ _ ?_⟩);clear hK K)|refine sT ?_))
 refine rt1 ?_
 rfl
theorem Do (m:Int) (ll:List (List Int)) (hs:Sm ll):AFn Tryz.prog 89 [.agg [.int .i64 m,.sl false 27 (rowsF ll)]] (.bool (isPl m ll)):=by
 refine fO Tryz.func89 Tryz.ntmps89 (by rw [Tryz.results89]) fun C hP hM hC=>?_
 have hD:=A3 m ll (by have:=hs.1;omega)
 cases hm:(decide (2≤m)&&decide (m≤10000)) with
 | false=>
  (repeat (first|((with_reducible refine rC rfl fun K hK=>?_);simp only [go_sem,seval,↓reduceIte,hm];(first|refine hK _ _ _ ?_|refine ⟨_,Bz _,hK _ _ _ ?_⟩);clear hK K)|refine sT ?_))
  refine rt1 ?_
  simp [isPl,hm]
 | true=>
  have hm2:2≤m∧m≤10000:=by simpa using hm
  cases hd:(decide (1≤(ll.length:Int)-1)&&decide ((ll.length:Int)-1≤10)) with
  | false=>
   (repeat (first|((with_reducible refine rC rfl fun K hK=>?_);simp only [go_sem,seval,↓reduceIte,hm,hd];(first|refine hK _ _ _ ?_|refine ⟨_,Bz _,hK _ _ _ ?_⟩|refine ⟨_,Cw _ _ _,hK _ _ _ ?_⟩|refine ⟨_,hD,hK _ _ _ ?_⟩);clear hK K)|refine sT ?_))
   refine rt1 ?_
   simp [isPl,hm,hd]
  | true=>
   have hd2:2≤ll.length∧ll.length≤11:=by simp at hd;omega
   (repeat (first|((with_reducible refine rC rfl fun K hK=>?_);simp only [go_sem,seval,↓reduceIte,hm,hd,Aa];(first|refine hK _ _ _ ?_|refine ⟨_,Bz _,hK _ _ _ ?_⟩|refine ⟨_,Cw _ _ _,hK _ _ _ ?_⟩|refine ⟨_,hD,hK _ _ _ ?_⟩);clear hK K)|refine sT ?_))
   refine AWP.loop (fun i:Nat=>[(18,⟨0,.val (.int .i64 i)⟩),(17,⟨0,.val (.int .i64 ll.length)⟩),(16,⟨0,.val (.sl false 27 (rowsF ll))⟩),(1,⟨1,.own (.box 26 (.agg [.int .i64 m,.sl false 27 (rowsF ll)]))⟩)]) (fun i=>i≤ll.length∧∀ j,j<i→rowB m ll j=true) (fun i=>ll.length-i) 0 ⟨Nat.zero_le _,fun j hj=>absurd hj (Nat.not_lt_zero _)⟩ (fun i=>rfl) ?_ (fun i hi=>?_)
   ·simp [Sub,lk]
   ·by_cases hlt:i<ll.length
    ·have w1:IntKind.i64.wrap ((ll.length:Int)-(i:Int))=((ll.length-i:Nat):Int):=by rw [wid _ (by omega) (by omega)];omega
     have hsr:=hs.2 i
     by_cases hln:(ll.getD i []).length=ll.length-i
     ·cases hx:(ll.getD i []).all (isNum m) with
      | true=>
       (repeat (first|((with_reducible refine rC rfl fun K hK=>?_);simp only [go_sem,seval,↓reduceIte,show (i:Int)<(ll.length:Int) by omega,Ad ll i hlt,Aa,Int.toNat_natCast,Int.natCast_nonneg,w1,hln,show ((((ll.length-i:Nat):Int)) != ((ll.length-i:Nat):Int))=false by simp,hx,wid ((i:Int)+1) (by omega) (by omega)];(first|refine hK _ _ _ ?_|refine ⟨_,Ec (ll.getD i []) (by omega) 190 [.fptr (.agg [.int .i64 m,.sl false 27 (rowsF ll)])] (by decide) (by rfl) (by simp [T.pureL,T.pure,Ca]) (fun c=>rfl) (isNum m) (fun x hx=>Ia x m ll (by omega) (by omega)),hK _ _ _ ?_⟩);clear hK K)|refine sT ?_))
       refine ⟨i+1,⟨by omega,fun j hj=>?_⟩,by omega,by simp [Sub,lk]⟩
       by_cases e:j=i
       ·rw [e,rowB,hx,hln];simp
       ·exact hi.2 j (by omega)
      | false=>
       (repeat (first|((with_reducible refine rC rfl fun K hK=>?_);simp only [go_sem,seval,↓reduceIte,show (i:Int)<(ll.length:Int) by omega,Ad ll i hlt,Aa,Int.toNat_natCast,Int.natCast_nonneg,w1,hln,show ((((ll.length-i:Nat):Int)) != ((ll.length-i:Nat):Int))=false by simp,hx];(first|refine hK _ _ _ ?_|refine ⟨_,Ec (ll.getD i []) (by omega) 190 [.fptr (.agg [.int .i64 m,.sl false 27 (rowsF ll)])] (by decide) (by rfl) (by simp [T.pureL,T.pure,Ca]) (fun c=>rfl) (isNum m) (fun x hx=>Ia x m ll (by omega) (by omega)),hK _ _ _ ?_⟩);clear hK K)|refine sT ?_))
       refine rt1 ?_
       rw [Kj hlt (by rw [rowB,hx,Bool.and_false])]
     ·(repeat (first|((with_reducible refine rC rfl fun K hK=>?_);simp only [go_sem,seval,↓reduceIte,show (i:Int)<(ll.length:Int) by omega,Ad ll i hlt,Aa,Int.toNat_natCast,Int.natCast_nonneg,w1,show ((((ll.getD i []).length:Nat):Int) != ((ll.length-i:Nat):Int))=true by rw [bne_iff_ne];omega];refine hK _ _ _ ?_;clear hK K)|refine sT ?_))
      refine rt1 ?_
      rw [Kj hlt (by rw [rowB,show ((ll.getD i []).length==ll.length-i)=false by simpa using hln,Bool.false_and])]
    ·(repeat (first|((with_reducible refine rC rfl fun K hK=>?_);simp only [go_sem,seval,↓reduceIte,show ¬ (i:Int)<(ll.length:Int) by omega];refine hK _ _ _ ?_;clear hK K)|refine sT ?_))
     refine rt1 ?_
     rw [Or hm hd (fun j hj=>hi.2 j (by omega))]
theorem H1 (m:Int) (ll:List (List Int)) (hs:Sm ll):AFn Tryz.prog 85 [.agg [.int .i64 m,.sl false 27 (rowsF ll)]] (.bool (isPl m ll)):=by
 refine fO Tryz.func85 Tryz.ntmps85 (by rw [Tryz.results85]) fun C hP hM hC=>?_
 cases hm:(decide (2≤m)&&decide (m≤10000)) with
 | false=>
  (repeat (first|((with_reducible refine rC rfl fun K hK=>?_);simp only [go_sem,seval,↓reduceIte,hm,Aa];(first|refine hK _ _ _ ?_|refine ⟨_,Dk _,hK _ _ _ ?_⟩);clear hK K)|refine sT ?_))
  refine rt1 ?_
  simp [isPl,hm]
 | true=>
  have hm2:2≤m∧m≤10000:=by simpa using hm
  by_cases h2:ll.length<2
  ·(repeat (first|((with_reducible refine rC rfl fun K hK=>?_);simp only [go_sem,seval,↓reduceIte,hm,Aa,show (ll.length:Int)<2 by omega];(first|refine hK _ _ _ ?_|refine ⟨_,Dk _,hK _ _ _ ?_⟩);clear hK K)|refine sT ?_))
   refine rt1 ?_
   rw [isPl,show (decide (1≤(ll.length:Int)-1)&&decide ((ll.length:Int)-1≤10))=false by simp;omega];simp
  ·by_cases h11:11<ll.length
   ·(repeat (first|((with_reducible refine rC rfl fun K hK=>?_);simp only [go_sem,seval,↓reduceIte,hm,Aa,show ¬ (ll.length:Int)<2 by omega,show (11:Int)<(ll.length:Int) by omega];(first|refine hK _ _ _ ?_|refine ⟨_,Dk _,hK _ _ _ ?_⟩);clear hK K)|refine sT ?_))
    refine rt1 ?_
    rw [isPl,show (decide (1≤(ll.length:Int)-1)&&decide ((ll.length:Int)-1≤10))=false by simp;omega];simp
   ·have hd:(decide (1≤(ll.length:Int)-1)&&decide ((ll.length:Int)-1≤10))=true:=by simp;omega
    (repeat (first|((with_reducible refine rC rfl fun K hK=>?_);simp only [go_sem,seval,↓reduceIte,hm,Aa,show ¬ (ll.length:Int)<2 by omega,show ¬ (11:Int)<(ll.length:Int) by omega];(first|refine hK _ _ _ ?_|refine ⟨_,Dk _,hK _ _ _ ?_⟩);clear hK K)|refine sT ?_))
    refine AWP.loop (fun i:Nat=>[(4,⟨0,.val (.int .i64 i)⟩),(3,⟨0,.val (.int .i64 ll.length)⟩),(1,⟨1,.own (.box 26 (.agg [.int .i64 m,.sl false 27 (rowsF ll)]))⟩)]) (fun i=>i≤ll.length∧∀ j,j<i→rowB m ll j=true) (fun i=>ll.length-i) 0 ⟨Nat.zero_le _,fun j hj=>absurd hj (Nat.not_lt_zero _)⟩ (fun i=>rfl) ?_ (fun i hi=>?_)
    ·simp [Sub,lk]
    ·by_cases hlt:i<ll.length
     ·have w1:IntKind.i64.wrap ((ll.length:Int)-(i:Int))=((ll.length-i:Nat):Int):=by rw [wid _ (by omega) (by omega)];omega
      have hsr:=hs.2 i
      by_cases hln:(ll.getD i []).length=ll.length-i
      ·cases hx:(ll.getD i []).all (isNum m) with
       | true=>
        (repeat (first|((with_reducible refine rC rfl fun K hK=>?_);simp only [go_sem,seval,↓reduceIte,show (i:Int)<(ll.length:Int) by omega,Ad ll i hlt,Aa,Int.toNat_natCast,Int.natCast_nonneg,w1,hln,show ((((ll.length-i:Nat):Int)) != ((ll.length-i:Nat):Int))=false by simp,hx,wid ((i:Int)+1) (by omega) (by omega)];(first|refine hK _ _ _ ?_|refine ⟨_,E6 m (ll.getD i []) (by omega) (by omega) (by omega),hK _ _ _ ?_⟩);clear hK K)|refine sT ?_))
        refine ⟨i+1,⟨by omega,fun j hj=>?_⟩,by omega,by simp [Sub,lk]⟩
        by_cases e:j=i
        ·rw [e,rowB,hx,hln];simp
        ·exact hi.2 j (by omega)
       | false=>
        (repeat (first|((with_reducible refine rC rfl fun K hK=>?_);simp only [go_sem,seval,↓reduceIte,show (i:Int)<(ll.length:Int) by omega,Ad ll i hlt,Aa,Int.toNat_natCast,Int.natCast_nonneg,w1,hln,show ((((ll.length-i:Nat):Int)) != ((ll.length-i:Nat):Int))=false by simp,hx];(first|refine hK _ _ _ ?_|refine ⟨_,E6 m (ll.getD i []) (by omega) (by omega) (by omega),hK _ _ _ ?_⟩);clear hK K)|refine sT ?_))
        refine rt1 ?_
        rw [Kj hlt (by rw [rowB,hx,Bool.and_false])]
      ·(repeat (first|((with_reducible refine rC rfl fun K hK=>?_);simp only [go_sem,seval,↓reduceIte,show (i:Int)<(ll.length:Int) by omega,Ad ll i hlt,Aa,Int.toNat_natCast,Int.natCast_nonneg,w1,show ((((ll.getD i []).length:Nat):Int) != ((ll.length-i:Nat):Int))=true by rw [bne_iff_ne];omega];refine hK _ _ _ ?_;clear hK K)|refine sT ?_))
       refine rt1 ?_
       rw [Kj hlt (by rw [rowB,show ((ll.getD i []).length==ll.length-i)=false by simpa using hln,Bool.false_and])]
     ·(repeat (first|((with_reducible refine rC rfl fun K hK=>?_);simp only [go_sem,seval,↓reduceIte,show ¬ (i:Int)<(ll.length:Int) by omega];refine hK _ _ _ ?_;clear hK K)|refine sT ?_))
      refine rt1 ?_
      rw [Or hm hd (fun j hj=>hi.2 j (by omega))]
noncomputable def lawB (m:Int) (ll:List (List Int)):Bool:=isPl m ll&&@decide (IsLw m ll.length (pc ll)) (Classical.propDecidable _)
theorem Anf {m:Int} {ll:List (List Int)} (h:lawB m ll=true):isPl m ll=true∧IsLw m ll.length (pc ll):=by
 unfold lawB at h
 rw [Bool.and_eq_true] at h
 exact ⟨h.1,@of_decide_eq_true _ (Classical.propDecidable _) h.2⟩
theorem Om {m:Int} {ll:List (List Int)} (h1:isPl m ll=true) (h2:IsLw m ll.length (pc ll)):lawB m ll=true:=by
 unfold lawB
 rw [Bool.and_eq_true]
 exact ⟨h1,@decide_eq_true _ (Classical.propDecidable _) h2⟩
theorem Uo {m:Int} {ll:List (List Int)} (h1:isPl m ll=false):lawB m ll=false:=by
 unfold lawB;rw [h1,Bool.false_and]
theorem Vf {m:Int} {ll:List (List Int)} (h2:¬ IsLw m ll.length (pc ll)):lawB m ll=false:=by
 unfold lawB;rw [Bool.and_eq_false_iff];exact .inr (@decide_eq_false _ (Classical.propDecidable _) h2)
theorem Akx (m:Int) (ll:List (List Int)) (hs:Sm ll):AFn Tryz.prog 159 [.agg [.int .i64 m,.sl false 27 (rowsF ll)]] (.bool (lawB m ll)):=by
 refine fO Tryz.func159 Tryz.ntmps159 (by rw [Tryz.results159]) fun C hP hM hC=>?_
 cases hp:isPl m ll with
 | false=>
  (repeat (first|((with_reducible refine rC rfl fun K hK=>?_);simp only [go_sem,seval,↓reduceIte,hp];(first|refine hK _ _ _ ?_|refine ⟨_,H1 m ll hs,hK _ _ _ ?_⟩);clear hK K)|refine sT ?_))
  refine rt1 ?_
  rw [Uo hp]
 | true=>
  have hz:=Hs hp
  obtain ⟨r,hr,hn⟩:=Ur m ll.length (pc ll)
  have hF:=Pd m ll ll.length r (by omega) (by omega) hz.2.2.2.2 (by omega) (by omega) hr
  by_cases hl:IsLw m ll.length (pc ll)
  ·have e:=hr.none hl
   subst e
   (repeat (first|((with_reducible refine rC rfl fun K hK=>?_);simp only [go_sem,seval,↓reduceIte,hp,show ((0:Int)==0)=true from rfl];(first|refine hK _ _ _ ?_|refine ⟨_,H1 m ll hs,hK _ _ _ ?_⟩|refine ⟨_,hF,hK _ _ _ ?_⟩);clear hK K)|refine sT ?_))
   refine rt1 ?_
   rw [Om hp hl]
  ·obtain ⟨x,l,e⟩:=hn hl
   subst e
   (repeat (first|((with_reducible refine rC rfl fun K hK=>?_);simp only [go_sem,seval,↓reduceIte,hp,List.length_cons,show (((l.length+1:Nat):Int)==0)=false by rw [beq_eq_false_iff_ne];omega];(first|refine hK _ _ _ ?_|refine ⟨_,H1 m ll hs,hK _ _ _ ?_⟩|refine ⟨_,hF,hK _ _ _ ?_⟩);clear hK K)|refine sT ?_))
   refine rt1 ?_
   rw [Vf hl]
theorem Abj {f : FuncId} (hf : f < 1000000) {args : List T} {vs : List Value} {W : World} {r : T} (h : AFn Tryz.prog f args r) (hl : vs.length = args.length)
  (hC:∀ (j:Nat) (t:T) (v:Value),args[j]? = some t→vs[j]? = some v→t.refFree=true∧VR (argCx Tryz.prog W (fun _=>none)) j t v) :
  Calls Tryz.prog f vs.toArray W (fun e w'=>∃ v κ',e=.returned v∧VR (resCx Tryz.prog w' κ') 0 r v∧Below W.heap.size W w'):=by
 refine (((Fg hf).1 h).2 W vs (fun _=>none) (fun _ _ _ _ h=>by cases h) (fun _ _ _ _ _ _ h=>by cases h) hl hC).mono fun e w' ⟨v,κ',he,hB⟩=>?_
 exact ⟨v,κ',he,hB.res,hB.os,hB.tape,hB.output,hB.size,fun k hk=>hB.kept k hk rfl⟩
def PlV (W:World) (m:Int) (ll:List (List Int)) (sv:Value):Prop:=VR (argCx Tryz.prog W (fun _=>none)) 0 (.agg [.int .i64 m,.sl false 27 (rowsF ll)]) (.agg #[.int .i64 m,sv])
theorem PlV.call {W : World} {m : Int} {ll : List (List Int)} {sv : Value} (h : PlV W m ll sv) {f : FuncId} (hf : f < 1000000) {r : T} (hA : AFn Tryz.prog f [.agg [.int .i64 m, .sl false 27 (rowsF ll)]] r) :
  Calls Tryz.prog f #[.agg #[.int .i64 m,sv]] W (fun e w'=>∃ v κ',e=.returned v∧VR (resCx Tryz.prog w' κ') 0 r v∧Below W.heap.size W w'):=
 Abj hf (vs:=[.agg #[.int .i64 m,sv]]) hA rfl (fun j t v hj hv=>by
  match j,hj,hv with
  | 0,hj,hv=>
   simp only [List.getElem?_cons_zero,Option.some.injEq] at hj hv
   subst hj;subst hv
   exact ⟨by simp [T.refFree,T.refFreeL,Ha],h⟩
  | _+1,hj,hv=>simp at hj)
theorem PlV.below {W W':World} {m:Int} {ll:List (List Int)} {sv:Value} (h:PlV W m ll sv) (hb:Below W.heap.size W W'):PlV W' m ll sv:=by
 obtain ⟨cs,h1,h2⟩:=h
 exact ⟨cs,h1,Av (argCx Tryz.prog W (fun _=>none)) (argCx Tryz.prog W' (fun _=>none)) 0 0 rfl (fun b hx=>⟨⟨Nat.lt_of_lt_of_le hx.1 hb.size,rfl⟩,hb.block b hx.1⟩) _ [] [] cs (by simp [T.pure,T.pureL,Ca]) h2⟩
theorem Hl (w:World) (a b:Value) (e:TypeId):(w.alloc (.cells #[a,b] e)).cell? ⟨w.heap.size,0,none⟩=some a∧(w.alloc (.cells #[a,b] e)).cell? ⟨w.heap.size,1,none⟩=some b:=by
 have h:(w.alloc (.cells #[a,b] e)).heap[w.heap.size]? = some (.cells #[a,b] e):=by unfold World.alloc;simp
 constructor <;> (simp only [World.cell?,h];rfl)
set_option maxRecDepth 100000 in
set_option maxHeartbeats 2000000 in
theorem Ah7 (m:Int) (ll:List (List Int)) (hs:Sm ll) (sv:Value) (w:World) (hv:PlV w m ll sv):Calls Tryz.prog 36 #[.agg #[.int .i64 m,sv]] w fun e w'=>e=.returned (.bool (lawB m ll))∧Below w.heap.size w w':=by
 have hq1:∀ w:World,(binOp .eql 27 (.slice none 0 0) (.slice none 0 0)).run Tryz.prog w=.ok (.bool true) w:=fun w=>by kernel_rfl
 have hq2:∀ (w:World) (b l c:Nat),(binOp .eql 27 (.slice (some ⟨b,0,none⟩) l c) (.slice none 0 0)).run Tryz.prog w=.ok (.bool false) w:=fun w b l c=>by kernel_rfl
 have hb1:∀ o,Below w.heap.size w (w.alloc o):=fun o=>(Below.refl _ _).alloc (Nat.le_refl _) _
 cases hp:isPl m ll with
 | false=>
  rw [Uo hp]
  go_enter Tryz.func36,Tryz.ntmps36
  go_wp2_with (first
   | (go_at_call 89;refine ((hv.below (hb1 _)).call (by decide) (Do m ll hs)).mono ?_;rw [hp];rintro e w' ⟨v,κ',rfl,⟨cs,rfl,hcs⟩,hb⟩;simp only [CR] at hcs;subst hcs;simp only [mkv,List.headD_cons])
   | go_in)
  go_ret
  exact ⟨rfl,(hb1 _).trans (hb.mono (by simp))⟩
 | true=>
  have hz:=Hs hp
  obtain ⟨r,hr,hn⟩:=Ur m ll.length (pc ll)
  have hF:=Sf m ll ll.length r (by omega) (by omega) hz.2.2.2.2 (by omega) (by omega) hr
  by_cases hl:IsLw m ll.length (pc ll)
  ·have e:=hr.none hl
   subst e
   rw [Om hp hl]
   go_enter Tryz.func36,Tryz.ntmps36
   go_wp2_with (first
    | (go_at_call 89;refine ((hv.below (hb1 _)).call (by decide) (Do m ll hs)).mono ?_;rw [hp];rintro e w' ⟨v,κ',rfl,⟨cs,rfl,hcs⟩,hb⟩;simp only [CR] at hcs;subst hcs;simp only [mkv,List.headD_cons];have hc0:=(hb.cell (p:=⟨w.heap.size,0,none⟩) (by simp)).trans (Hl w (.int .i64 m) sv 26).1;have hc1:=(hb.cell (p:=⟨w.heap.size,1,none⟩) (by simp)).trans (Hl w (.int .i64 m) sv 26).2)
    | (go_at_call 118;refine (((hv.below (hb1 _)).below hb).call (by decide) hF).mono ?_;rintro e w2 ⟨v2,κ2,rfl,⟨cs2,rfl,hcs2⟩,hb2⟩;simp only [CR] at hcs2;subst hcs2;simp only [mkv,List.headD_cons])
    | go_in)
   go_ret
   exact ⟨rfl,((hb1 _).trans (hb.mono (by simp))).trans (hb2.mono (Nat.le_trans (by simp) hb.size))⟩
  ·obtain ⟨x,l,e⟩:=hn hl
   subst e
   rw [Vf hl]
   go_enter Tryz.func36,Tryz.ntmps36
   go_wp2_with (first
    | (go_at_call 89;refine ((hv.below (hb1 _)).call (by decide) (Do m ll hs)).mono ?_;rw [hp];rintro e w' ⟨v,κ',rfl,⟨cs,rfl,hcs⟩,hb⟩;simp only [CR] at hcs;subst hcs;simp only [mkv,List.headD_cons];have hc0:=(hb.cell (p:=⟨w.heap.size,0,none⟩) (by simp)).trans (Hl w (.int .i64 m) sv 26).1;have hc1:=(hb.cell (p:=⟨w.heap.size,1,none⟩) (by simp)).trans (Hl w (.int .i64 m) sv 26).2)
    | (go_at_call 118;refine (((hv.below (hb1 _)).below hb).call (by decide) hF).mono ?_;rintro e w2 ⟨v2,κ2,rfl,⟨cs2,rfl,hcs2⟩,hb2⟩;simp only [CR] at hcs2;obtain ⟨bb,cap,cur,hcs3,_⟩:=hcs2;subst hcs3;simp only [mkv,List.headD_cons])
    | go_in)
   go_ret
   exact ⟨rfl,((hb1 _).trans (hb.mono (by simp))).trans (hb2.mono (Nat.le_trans (by simp) hb.size))⟩
theorem Lq (m:Int) (ll:List (List Int)) (hs:Sm ll):AFn Tryz.prog 36 [.agg [.int .i64 m,.sl false 27 (rowsF ll)]] (.bool (lawB m ll)):=by
 refine (Fg (by decide)).2 ⟨⟨_,Tryz.func36,by rfl,by rfl⟩,fun w vs κ hcol hinj hlen hC=>?_⟩
 obtain ⟨v,rfl⟩:∃ v,vs=[v]:=by
  match vs,hlen with
  | [v],_=>exact ⟨v,rfl⟩
 obtain ⟨cs,e1,e2⟩:=(hC 0 _ _ rfl rfl).2
 have e3:=Av (argCx Tryz.prog w κ) (argCx Tryz.prog w (fun _=>none)) 0 0 rfl (fun b hx=>⟨⟨hx.1,rfl⟩,rfl⟩) _ [] [] cs (by simp [T.pure,T.pureL,Ca]) e2
 have hlen:=Bg _ _ _ _ _ e2
 simp only [CR,CRL,T.size] at e2
 obtain ⟨q1,q2,q3⟩:=e2
 match cs,hlen,q1,e1,e3 with
 | [c0,c1],_,q1,e1,e3=>
  simp only [List.take_succ_cons,List.take_zero,List.cons.injEq,and_true] at q1
  subst q1
  simp only [mkv] at e1
  subst e1
  refine (Ah7 m ll hs c1 w ⟨_,rfl,e3⟩).mono fun e w' ⟨he,hb⟩=>⟨_,fun _=>none,he,⟨hb.os,hb.tape,hb.output,hb.size,fun b hlt _=>hb.block b hlt,fun _ _ _ _ h=>(by cases h),fun _ _ _ _ _ _ h=>(by cases h),rfl,?_⟩⟩
  exact ⟨[.bool (lawB m ll)],rfl,by simp only [CR]⟩
 | [],hlen,_,_,_=>simp [T.size,T.sizeL] at hlen
 | [_],hlen,_,_,_=>simp [T.size,T.sizeL] at hlen
 | _::_::_::_,hlen,_,_,_=>simp [T.size,T.sizeL] at hlen
end Go.Proofs.YtapdekacpecgiaaGreat
