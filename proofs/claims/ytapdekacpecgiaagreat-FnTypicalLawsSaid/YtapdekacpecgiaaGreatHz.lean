import Derived.Test.YtapdekacpecgiaaGreatKh
namespace Go.Proofs.YtapdekacpecgiaaGreat
open Go.RowKit
set_option linter.unusedSimpArgs false
set_option linter.unusedVariables false
set_option linter.unusedSectionVars false
set_option maxRecDepth 20000
set_option maxHeartbeats 1000000
theorem Mn (m n:Int) (la lb:List (List Int)) (ha:la.length≤1099511627776) (hb:lb.length≤1099511627776):AFn Tryz.prog 147 [.agg [.int .i64 m,.sl false 27 (rowsF la)],.agg [.int .i64 n,.sl false 27 (rowsF lb)]] (.bool (decide (m=n∧la.length=lb.length))):=by
 refine fO Tryz.func147 Tryz.ntmps147 (by rw [Tryz.results147]) fun C hP hM hC=>?_
 have hD1:=A3 m la ha
 have hD2:=A3 n lb hb
 by_cases h:m=n
 ·have b1:(m==n)=true:=by simp [h]
  by_cases h2:la.length=lb.length
  ·(repeat (first|((with_reducible refine rC rfl fun K hK=>?_);simp only [go_sem,seval,↓reduceIte,b1,show (((la.length:Int)-1)==((lb.length:Int)-1))=true by rw [beq_iff_eq];omega];(first|refine hK _ _ _ ?_|refine ⟨_,hD1,hK _ _ _ ?_⟩|refine ⟨_,hD2,hK _ _ _ ?_⟩);clear hK K)|refine sT ?_))
   refine rt1 ?_
   rw [decide_eq_true ⟨h,h2⟩]
  ·(repeat (first|((with_reducible refine rC rfl fun K hK=>?_);simp only [go_sem,seval,↓reduceIte,b1,show (((la.length:Int)-1)==((lb.length:Int)-1))=false by rw [beq_eq_false_iff_ne];omega];(first|refine hK _ _ _ ?_|refine ⟨_,hD1,hK _ _ _ ?_⟩|refine ⟨_,hD2,hK _ _ _ ?_⟩);clear hK K)|refine sT ?_))
   refine rt1 ?_
   rw [decide_eq_false (fun e=>h2 e.2)]
 ·have b1:(m==n)=false:=by simp [h]
  (repeat (first|((with_reducible refine rC rfl fun K hK=>?_);simp only [go_sem,seval,↓reduceIte,b1];(first|refine hK _ _ _ ?_|refine ⟨_,hD1,hK _ _ _ ?_⟩|refine ⟨_,hD2,hK _ _ _ ?_⟩);clear hK K)|refine sT ?_))
  refine rt1 ?_
  rw [decide_eq_false (fun e=>h e.1)]
noncomputable def twC (m:Int) (la:List (List Int)) (n:Int) (lb:List (List Int)):Int:=if lawB m la=true then (if lawB n lb=true then (if m=n∧la.length=lb.length then 0 else 2) else 1) else 1
end Go.Proofs.YtapdekacpecgiaaGreat
