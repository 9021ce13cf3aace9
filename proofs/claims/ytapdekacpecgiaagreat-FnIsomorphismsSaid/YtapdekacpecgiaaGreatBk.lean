import Derived.Test.YtapdekacpecgiaaGreatBh
import Derived.Test.YtapdekacpecgiaaGreatIa
import Derived.Test.YtapdekacpecgiaaGreatIa
import Derived.Test.YtapdekacpecgiaaGreatCu
import Derived.Test.YtapdekacpecgiaaGreatQd
import Derived.Test.YtapdekacpecgiaaGreatQh
import Derived.Test.YtapdekacpecgiaaGreatHz
import Derived.Test.YtapdekacpecgiaaGreatBy
namespace Go.Proofs.YtapdekacpecgiaaGreat
open Go.RowKit
set_option linter.unusedSimpArgs false
set_option linter.unusedVariables false
set_option linter.unusedSectionVars false
set_option maxRecDepth 20000
set_option maxHeartbeats 1000000
theorem Ahg {m a:Int} (hm:0≤m∧m≤10000) (ha:0≤a∧a≤10000):AFn Tryz.prog 151 [.int .i64 m,.int .i64 a] (.bool (unB m a)):=by
 obtain ⟨M,rfl⟩:=Int.eq_ofNat_of_zero_le hm.1
 obtain ⟨A,rfl⟩:=Int.eq_ofNat_of_zero_le ha.1
 exact Ln M A (by omega) (by omega)
theorem Ajh {m a:Int} (h:unB m a=true):Nat.gcd a.toNat m.toNat=1:=by
 unfold unB at h
 exact beq_iff_eq.1 h
def crdC (m:Int) (a:List Int):Int:=if isSer m a=true then (if at' a 0=0∧unB m (at' a 1)=true then 0 else 5) else 1
theorem Ac1 {m:Int} {a:List Int} (h:crdC m a=0):isSer m a=true∧at' a 0=0∧unB m (at' a 1)=true:=by
 unfold crdC at h
 split at h
 ·split at h
  ·exact ⟨by assumption,by assumption⟩
  ·cases h
 ·cases h
theorem Aie {m:Int} {a:List Int} (h1:isSer m a=true) (h2:at' a 0=0) (h3:unB m (at' a 1)=true):crdC m a=0:=by
 rw [crdC,if_pos h1,if_pos ⟨h2,h3⟩]
theorem Nf {m:Int} {l:List Int} (h:isSer m l=true):∀ x∈l,0≤x∧x<m:=fun x hx=>by have:=(Ga h).2.2.2.2 x hx;omega
theorem Ak5 {m:Int} {a:List Int} (h:crdC m a=0):Crd m (a.length-1) a:=by
 obtain ⟨h1,h2,h3⟩:=Ac1 h
 have f:=Ga h1
 have hn:=Nf h1
 exact ⟨by omega,by omega,by omega,hn,h2,invC (by omega) (An hn (by omega) 1) (Ajh h3)⟩
theorem G1 (m:Int) (a:List Int) (h:isSer m a=true):AFn Tryz.prog 139 [.agg [.int .i64 m,.sl false 2 (intL a)]] (.bool (decide (at' a 0=0)&&unB m (at' a 1))):=by
 refine fO Tryz.func139 Tryz.ntmps139 (by rw [Tryz.results139]) fun C hP hM hC=>?_
 have f:=Ga h
 have hn:=Nf h
 have b0:=An hn (show 0<m by omega) 0
 have b1:=An hn (show 0<m by omega) 1
 have hU:=Ahg (m:=m) (a:=at' a 1) (by omega) (by omega)
 by_cases e:at' a 0=0
 ·have zq1:(0:Int)<(a.length:Int):=(by omega);have zq2:(1:Int)<(a.length:Int):=(by omega);have zq3:=Ac a 0 (by omega);have zq4:a.getD 0 0=at' a 0:=rfl;have zq5:(at' a 0==0)=true:=(by rw [beq_iff_eq];exact e);have zq6:(0:Int)≤1:=(by omega);have zq7:(1:Int).toNat=1:=rfl;have zq8:=Ac a 1 (by omega);have zq9:a.getD 1 0=at' a 1:=rfl
  (repeat (first|((with_reducible refine rC rfl fun K hK=>?_);simp only [go_sem,seval,↓reduceIte,Int.le_refl,Int.toNat_zero,zq1,zq2,zq3,zq4,zq5,zq6,zq7,zq8,zq9];(first|refine hK _ _ _ ?_|refine ⟨_,hU,hK _ _ _ ?_⟩);clear hK K)|refine sT ?_))
  refine rt1 ?_
  rw [decide_eq_true e,Bool.true_and]
 ·have zq10:(0:Int)<(a.length:Int):=(by omega);have zq11:=Ac a 0 (by omega);have zq12:a.getD 0 0=at' a 0:=rfl;have zq13:(at' a 0==0)=false:=(by rw [beq_eq_false_iff_ne];exact e)
  (repeat (first|((with_reducible refine rC rfl fun K hK=>?_);simp only [go_sem,seval,↓reduceIte,Int.le_refl,Int.toNat_zero,zq10,zq11,zq12,zq13];(first|refine hK _ _ _ ?_|refine ⟨_,hU,hK _ _ _ ?_⟩);clear hK K)|refine sT ?_))
  refine rt1 ?_
  rw [decide_eq_false e,Bool.false_and]
noncomputable def doC (m:Int) (t:List (List Int)):Int:=if lawB m t=true then (if t.length=2 then 5 else 0) else 1
theorem Pl.shp2 {m:Int} {n:Nat} {t:List (List Int)} (h:Pl m n t) (hn:n≤1000):Shp t:=⟨by rw [h.len];omega,fun x hx=>by
 obtain ⟨i,hi,rfl⟩:=List.getElem_of_mem hx
 have hl:=h.len
 have:=h.row i (by omega)
 rw [List.getD_eq_getElem?_getD,List.getElem?_eq_getElem hi] at this
 have e:(t[i]).length=n-i:=this
 omega⟩
set_option maxHeartbeats 2000000 in
theorem Iv (m:Int) (lf lg:List (List Int)) (a:List Int) (hf:lawB m lf=true) (hg:lawB m lg=true) (ha:isSer m a=true) (h1:lf.length=a.length) (h2:lg.length=a.length) (h0:at' a 0=0):AFn Tryz.prog 53 [.agg [.int .i64 m,.sl false 27 (rowsF lf)],.agg [.int .i64 m,.sl false 27 (rowsF lg)],.agg [.int .i64 m,.sl false 2 (intL a)]] (.tup [.bool (hmB m a.length (pc lf) (pc lg) a),.int .i64 0]):=by
 refine fO Tryz.func53 Tryz.ntmps53 (by rw [Tryz.results53]) fun C hP hM hC=>?_
 have f:=Ga ha
 have pf:=Ba (A7 hf).1
 have pg:=Ba (A7 hg).1
 have hA:=E5 m lf (pf.2.2.2.2.shp2 (by omega)).sm
 have hB:=E5 m lg (pg.2.2.2.2.shp2 (by omega)).sm
 have hS:=I2 m a (by omega)
 have hKq:=Hl m m lf lg (by omega) (by omega)
 have hC2:=Fq m m lf a (by omega) (by omega) (by omega)
 have pf5:=pf.2.2.2.2
 have pg5:=pg.2.2.2.2
 rw [h1] at pf5
 rw [h2] at pg5
 have hH:=Ej m lf lg a a.length (by omega) f.2.2.2.1 pf5 pg5 (Nf ha) rfl (by omega) (by omega)
 rw [hf] at hA
 rw [hg] at hB
 rw [ha] at hS
 rw [decide_eq_true ⟨rfl,by omega⟩] at hKq
 rw [show cuB m lf.length m a=true by
  rw [cuB,decide_eq_true ⟨rfl,h1⟩,Bool.true_and,beq_iff_eq];exact h0] at hC2
 (repeat (first|((with_reducible refine rC rfl fun K hK=>?_);simp only [go_sem,seval,↓reduceIte];(first|refine hK _ _ _ ?_|refine ⟨_,hA,hK _ _ _ ?_⟩|refine ⟨_,hB,hK _ _ _ ?_⟩|refine ⟨_,hS,hK _ _ _ ?_⟩|refine ⟨_,hKq,hK _ _ _ ?_⟩|refine ⟨_,hC2,hK _ _ _ ?_⟩|refine ⟨_,hH,hK _ _ _ ?_⟩);clear hK K)|refine sT ?_))
 refine rt2 ?_
 rfl
theorem Wl (t:List (List Int)) (hsh:t.length≤1000∧∀ i,(t.getD i []).length≤1000):AFn Tryz.prog 144 [.sl false 27 (rowsF t),.sl false 27 (rowsF t)] (.bool true):=by
 refine fO Tryz.func144 Tryz.ntmps144 (by rw [Tryz.results144]) fun C hP hM hC=>?_
 have ht:=hsh.1
 (repeat (first|((with_reducible refine rC rfl fun K hK=>?_);simp only [go_sem,seval,↓reduceIte,bne_self_eq_false,Ab];refine hK _ _ _ ?_;clear hK K)|refine sT ?_))
 refine AWP.loop (fun i:Nat=>[(5,⟨0,.val (.int .i64 i)⟩),(0,⟨0,.val (.sl false 27 (rowsF t))⟩),(1,⟨0,.val (.sl false 27 (rowsF t))⟩)]) (fun i=>i≤t.length) (fun i=>t.length-i) 0 (Nat.zero_le _) (fun i=>rfl) ?_ (fun i hi=>?_)
 ·simp [Sub,lk]
 ·by_cases h:i<t.length
  ·have hl:=Jg (t.getD i []) (by have:=hsh.2 i;omega)
   have zq1:(i:Int)<(t.length:Int):=(by omega);have zq2:=Ak t i h;have zq3:=wid ((i:Int)+1) (by omega) (by omega)
   (repeat (first|((with_reducible refine rC rfl fun K hK=>?_);simp only [go_sem,seval,↓reduceIte,Ab,zq1,zq2,Int.natCast_nonneg,Int.toNat_natCast,zq3];(first|refine hK _ _ _ ?_|refine ⟨_,hl,hK _ _ _ ?_⟩);clear hK K)|refine sT ?_))
   exact ⟨i+1,h,by omega,by simp [Sub,lk]⟩
  ·have zq4:¬ (i:Int)<(t.length:Int):=(by omega)
   (repeat (first|((with_reducible refine rC rfl fun K hK=>?_);simp only [go_sem,seval,↓reduceIte,Ab,zq4];refine hK _ _ _ ?_;clear hK K)|refine sT ?_))
   refine rt1 ?_
   rfl
theorem Lm (m:Int) (t:List (List Int)) (hsh:t.length≤1000∧∀ i,(t.getD i []).length≤1000):AFn Tryz.prog 51 [.agg [.int .i64 m,.sl false 27 (rowsF t)],.agg [.int .i64 m,.sl false 27 (rowsF t)]] (.bool true):=by
 refine fO Tryz.func51 Tryz.ntmps51 (by rw [Tryz.results51]) fun C hP hM hC=>?_
 have zq1:=Wl t hsh
 (repeat (first|((with_reducible refine rC rfl fun K hK=>?_);simp only [go_sem,seval,↓reduceIte,beq_self_eq_true];(first|refine hK _ _ _ ?_|refine ⟨_,zq1,hK _ _ _ ?_⟩);clear hK K)|refine sT ?_))
 refine rt1 ?_
 rfl
theorem Fy (m:Int) (l:List Int) (hl:l.length≤1099511627776):AFn Tryz.prog 60 [.agg [.int .i64 m,.sl false 2 (intL l)],.agg [.int .i64 m,.sl false 2 (intL l)]] (.bool true):=by
 refine fO Tryz.func60 Tryz.ntmps60 (by rw [Tryz.results60]) fun C hP hM hC=>?_
 have zq1:=Jg l hl
 (repeat (first|((with_reducible refine rC rfl fun K hK=>?_);simp only [go_sem,seval,↓reduceIte,beq_self_eq_true];(first|refine hK _ _ _ ?_|refine ⟨_,zq1,hK _ _ _ ?_⟩);clear hK K)|refine sT ?_))
 refine rt1 ?_
 rfl
theorem Gs (m:Int):AFn Tryz.prog 60 [.agg [.int .i64 m,.nil],.agg [.int .i64 m,.nil]] (.bool true):=by
 refine fO Tryz.func60 Tryz.ntmps60 (by rw [Tryz.results60]) fun C hP hM hC=>?_
 have zq1:=Lq
 (repeat (first|((with_reducible refine rC rfl fun K hK=>?_);simp only [go_sem,seval,↓reduceIte,beq_self_eq_true];(first|refine hK _ _ _ ?_|refine ⟨_,zq1,hK _ _ _ ?_⟩);clear hK K)|refine sT ?_))
 refine rt1 ?_
 rfl
theorem Ky {m:Int} {l:List Int} (h1:1<m) (h2:m≤10000) (h3:2≤l.length) (h4:l.length≤11) (h5:∀ x∈l,0≤x∧x<m):isSer m l=true:=by
 simp only [isSer,Bool.and_eq_true,decide_eq_true_eq,List.all_eq_true,isNum]
 exact ⟨⟨⟨by omega,h2⟩,by omega,by omega⟩,fun x hx=>by have:=h5 x hx;omega⟩
end Go.Proofs.YtapdekacpecgiaaGreat
