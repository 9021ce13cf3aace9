import Derived.Test.YtapdekacpecgiaaGreatSu
import Derived.Test.YtapdekacpecgiaaGreatRn
import Derived.Test.YtapdekacpecgiaaGreatSa
import Derived.Test.YtapdekacpecgiaaGreatIa
import Derived.Test.YtapdekacpecgiaaGreatIa
import Derived.Test.YtapdekacpecgiaaGreatIa
import Derived.Test.YtapdekacpecgiaaGreatQh
import Derived.Test.YtapdekacpecgiaaGreatQa
import Derived.Test.YtapdekacpecgiaaGreatQa
import Derived.Test.YtapdekacpecgiaaGreatBy
namespace Go.Proofs.YtapdekacpecgiaaGreat
open Go.RowKit
set_option linter.unusedSimpArgs false
set_option linter.unusedVariables false
set_option linter.unusedSectionVars false
set_option maxRecDepth 20000
set_option maxHeartbeats 1000000
theorem serNum {m:Int} {l:List Int} (h:isSer m l=true):∀ x∈l,0≤x∧x<m:=fun x hx=>by
 have:=(Mu h).2.2.2.2 x hx;omega
section
variable {m:Int} {t:List (List Int)} {ma mb:Int} {la lb:List Int}
end
def apC (ma:Int) (la:List Int) (m:Int) (t:List (List Int)):Int:=if isPl m t=true∧isSer ma la=true then (if m=ma∧t.length=la.length then (if (pc t 0 0==0)=true then 0 else 5) else 2) else 1
theorem Afu {m:Int} {t:List (List Int)} {ma:Int} {la:List Int} (h:apC ma la m t=0):1<m∧m≤10000∧m=ma∧Pl m t.length t∧2≤t.length∧t.length≤11∧la.length=t.length∧(∀ x∈la,0≤x∧x<m)∧pc t 0 0=0∧isSer m la=true∧isPl m t=true:=by
 unfold apC at h
 split at h
 ·rename_i h1
  split at h
  ·rename_i h2
   obtain ⟨rfl,h2⟩:=h2
   split at h
   ·rename_i h3
    have hp:=Hs h1.1
    exact ⟨by have:=hp.1;omega,hp.2.1,rfl,hp.2.2.2.2,hp.2.2.1,hp.2.2.2.1,h2.symm,serNum h1.2,beq_iff_eq.1 h3,h1.2,h1.1⟩
   ·cases h
  ·cases h
 ·cases h
theorem pc00 {t:List (List Int)}:pc t 0 0=(t.getD 0 []).getD 0 0:=rfl
theorem row00 {m:Int} {t:List (List Int)} (h:isPl m t=true):0<t.length∧0<(t.getD 0 []).length:=by
 have hp:=Hs h
 have:=hp.2.2.2.2.row 0 (by omega)
 omega
set_option maxHeartbeats 2000000 in
theorem Jn (ma m:Int) (la:List Int) (t:List (List Int)) (hsh:Shp t) (hla:la.length≤1000) (h:apC ma la m t=0):AFn Tryz.prog 17 [.agg [.int .i64 ma,.sl false 2 (intL la)],.agg [.int .i64 m,.sl false 27 (rowsF t)]] (.tup [.agg [.int .i64 m,.sl true 27 (rowsO (aftL m t.length (pc t) la la.length))],.int .i64 0]):=by
 refine fO Tryz.func17 Tryz.ntmps17 (by rw [Tryz.results17]) fun C hP hM hC=>?_
 obtain ⟨f1,f2,rfl,f5,f6,f7,f8,f9,f10,f11,f12⟩:=Afu h
 have hA:=F5 m la (by omega)
 have hP1:=Do m t hsh.sm
 have hFa:=Nh m m t la (by omega) (by omega)
 rw [f11] at hA
 rw [f12] at hP1
 rw [decide_eq_true ⟨rfl,f8.symm⟩] at hFa
 have hr:=row00 f12
 have hV:=Ol m la t t.length (by omega) f2 f5 f9 (by omega) (by omega) (by omega)
 (repeat (first|((with_reducible refine rC rfl fun K hK=>?_);simp only [go_sem,seval,↓reduceIte,Aa,show (0:Int)<(t.length:Int) by omega,Int.le_refl,Int.toNat_zero,Ad t 0 hr.1,Ac _ 0 hr.2,show (0:Int)<((t.getD 0 []).length:Int) by omega,← pc00,f10,bne_self_eq_false];(first|refine hK _ _ _ ?_|refine ⟨_,hA,hK _ _ _ ?_⟩|refine ⟨_,hP1,hK _ _ _ ?_⟩|refine ⟨_,hFa,hK _ _ _ ?_⟩|refine ⟨_,hV,hK _ _ _ ?_⟩);clear hK K)|refine sT ?_))
 refine rt2 ?_
 rfl
end Go.Proofs.YtapdekacpecgiaaGreat
