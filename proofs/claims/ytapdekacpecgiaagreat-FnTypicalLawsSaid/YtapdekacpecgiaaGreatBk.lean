import Derived.Test.YtapdekacpecgiaaGreatBh
import Derived.Test.YtapdekacpecgiaaGreatIa
import Derived.Test.YtapdekacpecgiaaGreatIa
import Derived.Test.YtapdekacpecgiaaGreatCu
import Derived.Test.YtapdekacpecgiaaGreatQd
import Derived.Test.YtapdekacpecgiaaGreatQh
import Derived.Test.YtapdekacpecgiaaGreatHz
import Derived.Test.YtapdekacpecgiaaGreatBy
namespace Go.Proofs.YtapdekacpecgiaaGreat
open Go.RowKit
set_option linter.unusedSimpArgs false
set_option linter.unusedVariables false
set_option linter.unusedSectionVars false
set_option maxRecDepth 20000
set_option maxHeartbeats 1000000
theorem H7 (m a:Nat) (hm:m≤10000) (ha:a≤10000):AFn Tryz.prog 133 [.int .i64 m,.int .i64 a] (.bool (unB m a)):=by
 refine fO Tryz.func133 Tryz.ntmps133 (by rw [Tryz.results133]) fun C hP hM hC=>?_
 have h1:=Lc a m (by omega) (by omega)
 obtain ⟨g,hg⟩:∃ g,Nat.gcd a m=g:=⟨_,rfl⟩
 rw [hg] at h1
 have hu:unB m a=(g==1):=by rw [unB,Int.toNat_natCast,Int.toNat_natCast,hg]
 by_cases e:g=1
 ·have zq1:((g:Int)==1)=true:=(by rw [beq_iff_eq];omega)
  (repeat (first|((with_reducible refine rC rfl fun K hK=>?_);simp only [go_sem,seval,↓reduceIte,zq1];(first|refine hK _ _ _ ?_|refine ⟨_,h1,hK _ _ _ ?_⟩);clear hK K)|refine sT ?_))
  refine rt1 ?_
  rw [hu,beq_iff_eq.2 e]
 ·have zq2:((g:Int)==1)=false:=(by rw [beq_eq_false_iff_ne];omega)
  (repeat (first|((with_reducible refine rC rfl fun K hK=>?_);simp only [go_sem,seval,↓reduceIte,zq2];(first|refine hK _ _ _ ?_|refine ⟨_,h1,hK _ _ _ ?_⟩);clear hK K)|refine sT ?_))
  refine rt1 ?_
  rw [hu,beq_eq_false_iff_ne.2 e]
theorem Aiy {m a:Int} (h:unB m a=true):Nat.gcd a.toNat m.toNat=1:=by
 unfold unB at h
 exact beq_iff_eq.1 h
def axX2 (l:List Int) (i u v:Nat):Int:=if v=0∧u<i then at' l u else 0
def axY2 (l:List Int) (i u v:Nat):Int:=if u=0∧v<i then at' l v else 0
theorem Hx (m:Int) (l:List Int) (n:Nat) (hl:l.length=n) (hn:1≤n) (hn2:n≤900):AFn Tryz.prog 82 [.agg [.int .i64 m,.sl false 2 (intL l)],.int .i64 0] (.agg [.int .i64 m,.sl true 27 (rowsO (tab2 n (axX2 l n)))]):=by
 refine fO Tryz.func82 Tryz.ntmps82 (by rw [Tryz.results82]) fun C hP hM hC=>?_
 have hZ0:=Cf m (n-1) (by omega)
 rw [show n-1+1=n by omega,show tab2 n (fun _ _=>0)=tab2 n (axX2 l 0) from A5 fun u v _=>by simp [axX2]] at hZ0
 have hD:=Bb m l (by omega)
 rw [hl,show (n:Int)-1=((n-1:Nat):Int) by omega] at hD
 (repeat (first|((with_reducible refine rC rfl fun K hK=>?_);simp only [go_sem,seval,↓reduceIte,hl];(first|refine hK _ _ _ ?_|refine ⟨_,hD,hK _ _ _ ?_⟩|refine ⟨_,hZ0,hK _ _ _ ?_⟩);clear hK K)|refine sT ?_))
 refine AWP.loop (fun i:Nat=>[(16,⟨0,.val (.int .i64 i)⟩),(15,⟨0,.val (.int .i64 n)⟩),(14,⟨0,.val (.sl false 2 (intL l))⟩),(5,⟨2,.own (.box 26 (.agg [.int .i64 m,.sl true 27 (rowsO (tab2 n (axX2 l i)))]))⟩),(1,⟨0,.val (.int .i64 0)⟩),(4,⟨1,.own (.box 26 (.agg [.int .i64 0,.nil]))⟩)]) (fun i=>i≤n) (fun i=>n-i) 0 (Nat.zero_le _) (fun i=>rfl) ?_ (fun i hi=>?_)
 ·simp [Sub,lk]
 ·by_cases hin:i<n
  ·have hi1:i<(tab2 n (axX2 l i)).length:=by rw [Aq];exact hin
   have hc:0<(tab (n-i) (axX2 l i i)).length:=by rw [Ae];omega
   have hst:(tab2 n (axX2 l i)).set i ((tab (n-i) (axX2 l i i)).set 0 (at' l i))=tab2 n (axX2 l (i+1)):=Fl (fun a b _=>by
    unfold axX2
    by_cases e:a=i∧b=0
    ·obtain ⟨rfl,rfl⟩:=e;simp
    ·rw [if_neg e]
     by_cases h2:b=0∧a<i
     ·rw [if_pos h2,if_pos (by omega)]
     ·rw [if_neg h2,if_neg (by omega)])
   have zq1:(i:Int)<(n:Int):=(by omega);have zq2:=Ac l i (by omega);have zq3:l.getD i 0=at' l i:=rfl;have zq4:((0:Int)==0)=true:=rfl;have zq5:(0:Int)<((n-i:Nat):Int):=(by omega);have zq6:=wid ((i:Int)+1) (by omega) (by omega)
   (repeat (first|((with_reducible refine rC rfl fun K hK=>?_);simp only [go_sem,seval,↓reduceIte,zq1,hl,zq2,zq3,zq4,A2 _ _ hi1,Aw _ _ (Nat.le_of_lt hi1),At,Aq,B3 hin,Ae,Nat.mul_one,Int.toNat_natCast,Int.natCast_nonneg,Int.le_refl,Int.toNat_zero,List.take_zero,Nat.zero_mul,zq5,Ao _ 0 hc,C9 _ _ _ _ hi1,hst,zq6];refine hK _ _ _ ?_;clear hK K)|refine sT ?_))
   exact ⟨i+1,hin,by omega,by simp [Sub,lk]⟩
  ·have e:i=n:=by omega
   subst e
   have zq7:¬ (i:Int)<(i:Int):=(by omega)
   (repeat (first|((with_reducible refine rC rfl fun K hK=>?_);simp only [go_sem,seval,↓reduceIte,zq7];refine hK _ _ _ ?_;clear hK K)|refine sT ?_))
   refine rt1 ?_
   rfl
theorem Ib (m:Int) (l:List Int) (n:Nat) (hl:l.length=n) (hn:1≤n) (hn2:n≤900):AFn Tryz.prog 82 [.agg [.int .i64 m,.sl false 2 (intL l)],.int .i64 1] (.agg [.int .i64 m,.sl true 27 (rowsO (tab2 n (axY2 l n)))]):=by
 refine fO Tryz.func82 Tryz.ntmps82 (by rw [Tryz.results82]) fun C hP hM hC=>?_
 have hZ0:=Cf m (n-1) (by omega)
 rw [show n-1+1=n by omega,show tab2 n (fun _ _=>0)=tab2 n (axY2 l 0) from A5 fun u v _=>by simp [axY2]] at hZ0
 have hD:=Bb m l (by omega)
 rw [hl,show (n:Int)-1=((n-1:Nat):Int) by omega] at hD
 (repeat (first|((with_reducible refine rC rfl fun K hK=>?_);simp only [go_sem,seval,↓reduceIte,hl];(first|refine hK _ _ _ ?_|refine ⟨_,hD,hK _ _ _ ?_⟩|refine ⟨_,hZ0,hK _ _ _ ?_⟩);clear hK K)|refine sT ?_))
 refine AWP.loop (fun i:Nat=>[(16,⟨0,.val (.int .i64 i)⟩),(15,⟨0,.val (.int .i64 n)⟩),(14,⟨0,.val (.sl false 2 (intL l))⟩),(5,⟨2,.own (.box 26 (.agg [.int .i64 m,.sl true 27 (rowsO (tab2 n (axY2 l i)))]))⟩),(1,⟨0,.val (.int .i64 1)⟩),(4,⟨1,.own (.box 26 (.agg [.int .i64 0,.nil]))⟩)]) (fun i=>i≤n) (fun i=>n-i) 0 (Nat.zero_le _) (fun i=>rfl) ?_ (fun i hi=>?_)
 ·simp [Sub,lk]
 ·by_cases hin:i<n
  ·have hi1:0<(tab2 n (axY2 l i)).length:=by rw [Aq];omega
   have hc:i<(tab (n-0) (axY2 l i 0)).length:=by rw [Ae];omega
   have hst:(tab2 n (axY2 l i)).set 0 ((tab (n-0) (axY2 l i 0)).set i (at' l i))=tab2 n (axY2 l (i+1)):=Fl (fun a b _=>by
    unfold axY2
    by_cases e:a=0∧b=i
    ·obtain ⟨rfl,rfl⟩:=e;simp
    ·rw [if_neg e]
     by_cases h2:a=0∧b<i
     ·rw [if_pos h2,if_pos (by omega)]
     ·rw [if_neg h2,if_neg (by omega)])
   have zq1:(i:Int)<(n:Int):=(by omega);have zq2:=Ac l i (by omega);have zq3:l.getD i 0=at' l i:=rfl;have zq4:((1:Int)==0)=false:=rfl;have zq5:(0:Int)<(n:Int):=(by omega);have zq6:(tab2 n (axY2 l i)).set 0 ((tab n (axY2 l i 0)).set i (at' l i))=tab2 n (axY2 l (i+1)):=hst;have zq7:=wid ((i:Int)+1) (by omega) (by omega)
   (repeat (first|((with_reducible refine rC rfl fun K hK=>?_);simp only [go_sem,seval,↓reduceIte,zq1,hl,zq2,zq3,zq4,A2 _ _ hi1,Aw _ _ (Nat.le_of_lt hi1),At,Aq,B3 (show 0<n by omega),Ae,Nat.mul_one,Int.toNat_natCast,Int.natCast_nonneg,Int.le_refl,Int.toNat_zero,List.take_zero,Nat.zero_mul,Nat.sub_zero,zq5,Ao _ _ (show i<(tab n (axY2 l i 0)).length by rw [Ae];omega),Ai _ _ (show i≤(tab n (axY2 l i 0)).length by rw [Ae];omega),C9 _ _ _ _ hi1,zq6,zq7];refine hK _ _ _ ?_;clear hK K)|refine sT ?_))
   exact ⟨i+1,hin,by omega,by simp [Sub,lk]⟩
  ·have e:i=n:=by omega
   subst e
   have zq8:¬ (i:Int)<(i:Int):=(by omega)
   (repeat (first|((with_reducible refine rC rfl fun K hK=>?_);simp only [go_sem,seval,↓reduceIte,zq8];refine hK _ _ _ ?_;clear hK K)|refine sT ?_))
   refine rt1 ?_
   rfl
def suT (m:Int) (a:List Int) (D:Nat):List (List Int):=tab2 (D+1) (fun u v=>sumF a u v%m)
theorem Ac5 {m:Int} (hm:0<m) (a:List Int) (D:Nat):Pl m (D+1) (suT m a D):=Pl.tab2 hm fun _ _ _=>Ag _ m hm
theorem Aef {m:Int} (a:List Int) (D:Nat):∀ u v,u+v≤D→pc (suT m a D) u v%m=sumF a u v%m:=fun u v h=>by
 rw [suT,Bc (by omega),Int.emod_emod]
theorem Ain {m:Int} (hm:0<m) {a:List Int} (ha:∀ x∈a,0≤x∧x<m) (n:Nat):Pl m n (tab2 n (axX2 a n))∧Pl m n (tab2 n (axY2 a n)):=⟨Pl.tab2 hm fun u v _=>by
 unfold axX2
 split
 ·exact A4 ha hm _
 ·omega,Pl.tab2 hm fun u v _=>by
 unfold axY2
 split
 ·exact A4 ha hm _
 ·omega⟩
theorem Acz (m:Int) (a:List Int) (D:Nat):tab2 (D+1) (fun u v=>(pc (tab2 (D+1) (axX2 a (D+1))) u v+pc (tab2 (D+1) (axY2 a (D+1))) u v)%m)=suT m a D:=A5 fun u v h=>by
 rw [Bc h,Bc h]
 refine congrArg (· % m) ?_
 unfold axX2 axY2 sumF
 congr 1
 ·by_cases e:v=0
  ·rw [if_pos ⟨e,by omega⟩,if_pos e]
  ·rw [if_neg (fun h=>e h.1),if_neg e]
 ·by_cases e:u=0
  ·rw [if_pos ⟨e,by omega⟩,if_pos e]
  ·rw [if_neg (fun h=>e h.1),if_neg e]
set_option maxHeartbeats 2000000 in
theorem Qs (m:Int) (a:List Int) (D:Nat) (hm:1<m) (hm2:m≤1000000000000) (ha:∀ x∈a,0≤x∧x<m) (hal:a.length=D+1) (h1:1≤D) (hD:D≤800):AFn Tryz.prog 140 [.agg [.int .i64 m,.sl false 2 (intL a)]] (.agg [.int .i64 m,.sl true 27 (rowsO (lawT m a D (pc (suT m a D))))]):=by
 refine fO Tryz.func140 Tryz.ntmps140 (by rw [Tryz.results140]) fun C hP hM hC=>?_
 have z:(0:Int)<m:=by omega
 have hu:=E1 m (at' a 1) z
 have f:=Fq z hu a D (D-1)
 have hR:=Ik m a D hm (by omega) ha hal h1 (by omega)
 have hX:=Hx m a (D+1) hal (by omega) (by omega)
 have hY:=Ib m a (D+1) hal (by omega) (by omega)
 have hp:=Ain z ha (D+1)
 have hA:=Eo m (tab2 (D+1) (axX2 a (D+1))) (tab2 (D+1) (axY2 a (D+1))) (D+1) z (by omega) hp.1 hp.2 (by omega) (by omega)
 rw [Acz] at hA
 have hO:=Gx m (rvL m a D) (suT m a D) (D+1) z (by omega) (Ac5 z a D) f.2 (by rw [show (rvL m a D).length=D+1 from f.1];omega) (by omega) (by omega)
 rw [show (rvL m a D).length=D+1 from f.1] at hO
 (repeat (first|((with_reducible refine rC rfl fun K hK=>?_);simp only [go_sem,seval,↓reduceIte];(first|refine hK _ _ _ ?_|refine ⟨_,hR,hK _ _ _ ?_⟩|refine ⟨_,hX,hK _ _ _ ?_⟩|refine ⟨_,hY,hK _ _ _ ?_⟩|refine ⟨_,hA,hK _ _ _ ?_⟩|refine ⟨_,hO,hK _ _ _ ?_⟩);clear hK K)|refine sT ?_))
 refine rt1 ?_
 rfl
noncomputable def doC (m:Int) (t:List (List Int)):Int:=if lawB m t=true then (if t.length=2 then 5 else 0) else 1
theorem Pl.shp2 {m:Int} {n:Nat} {t:List (List Int)} (h:Pl m n t) (hn:n≤1000):Shp t:=⟨by rw [h.len];omega,fun x hx=>by
 obtain ⟨i,hi,rfl⟩:=List.getElem_of_mem hx
 have hl:=h.len
 have:=h.row i (by omega)
 rw [List.getD_eq_getElem?_getD,List.getElem?_eq_getElem hi] at this
 have e:(t[i]).length=n-i:=this
 omega⟩
theorem Rj {m:Int} {t:List (List Int)} {n:Nat} (h1:1<m) (h2:m≤10000) (hp:Pl m n t) (h4:2≤n) (h5:n≤11):isPl m t=true:=by
 have hl:=hp.len
 refine Or (by simp;omega) (by simp;omega) (fun i hi=>?_)
 rw [rowB,Bool.and_eq_true,beq_iff_eq,List.all_eq_true]
 refine ⟨by rw [hl];exact hp.row i (by omega),fun x hx=>?_⟩
 have:=hp.rowNum i x hx
 simp only [isNum,Bool.and_eq_true,decide_eq_true_eq]
 omega
theorem Abm {m:Int} {l:List Int} (h1:1<m) (h2:m≤10000) (h3:2≤l.length) (h4:l.length≤11) (h5:∀ x∈l,0≤x∧x<m):isSer m l=true:=by
 simp only [isSer,Bool.and_eq_true,decide_eq_true_eq,List.all_eq_true,isNum]
 exact ⟨⟨⟨by omega,h2⟩,by omega,by omega⟩,fun x hx=>by have:=h5 x hx;omega⟩
end Go.Proofs.YtapdekacpecgiaaGreat
