import Derived.Test.YtapdekacpecgiaaGreatKh
import Derived.Test.YtapdekacpecgiaaGreatQa
namespace Go.Proofs.YtapdekacpecgiaaGreat
open Go.RowKit
set_option linter.unusedSimpArgs false
set_option linter.unusedVariables false
set_option linter.unusedSectionVars false
set_option maxRecDepth 20000
set_option maxHeartbeats 1000000
def cuB (m:Int) (n:Nat) (m2:Int) (l:List Int):Bool:=decide (m=m2∧n=l.length)&&(l.getD 0 0==0)
theorem Nh (m m2:Int) (ll:List (List Int)) (l:List Int) (ha:ll.length≤1099511627776) (hb:l.length≤1099511627776):AFn Tryz.prog 90 [.agg [.int .i64 m,.sl false 27 (rowsF ll)],.agg [.int .i64 m2,.sl false 2 (intL l)]] (.bool (decide (m=m2∧ll.length=l.length))):=by
 refine fO Tryz.func90 Tryz.ntmps90 (by rw [Tryz.results90]) fun C hP hM hC=>?_
 have hD1:=A3 m ll ha
 have hD2:=Bb m2 l hb
 by_cases h:m=m2
 ·have b1:(m==m2)=true:=by simp [h]
  by_cases h2:ll.length=l.length
  ·(repeat (first|((with_reducible refine rC rfl fun K hK=>?_);simp only [go_sem,seval,↓reduceIte,b1,show (((ll.length:Int)-1)==((l.length:Int)-1))=true by rw [beq_iff_eq];omega];(first|refine hK _ _ _ ?_|refine ⟨_,hD1,hK _ _ _ ?_⟩|refine ⟨_,hD2,hK _ _ _ ?_⟩);clear hK K)|refine sT ?_))
   refine rt1 ?_
   rw [decide_eq_true ⟨h,h2⟩]
  ·(repeat (first|((with_reducible refine rC rfl fun K hK=>?_);simp only [go_sem,seval,↓reduceIte,b1,show (((ll.length:Int)-1)==((l.length:Int)-1))=false by rw [beq_eq_false_iff_ne];omega];(first|refine hK _ _ _ ?_|refine ⟨_,hD1,hK _ _ _ ?_⟩|refine ⟨_,hD2,hK _ _ _ ?_⟩);clear hK K)|refine sT ?_))
   refine rt1 ?_
   rw [decide_eq_false (fun e=>h2 e.2)]
 ·have b1:(m==m2)=false:=by simp [h]
  (repeat (first|((with_reducible refine rC rfl fun K hK=>?_);simp only [go_sem,seval,↓reduceIte,b1];(first|refine hK _ _ _ ?_|refine ⟨_,hD1,hK _ _ _ ?_⟩|refine ⟨_,hD2,hK _ _ _ ?_⟩);clear hK K)|refine sT ?_))
  refine rt1 ?_
  rw [decide_eq_false (fun e=>h e.1)]
noncomputable def cuC (m:Int) (ll:List (List Int)) (m2:Int) (l:List Int):Int:=if lawB m ll=true then (if isSer m2 l=true then (if cuB m ll.length m2 l=true then 0 else 2) else 1) else 1
end Go.Proofs.YtapdekacpecgiaaGreat
