import Derived.Test.YtapdekacpecgiaaGreatKh
namespace Go.Proofs.YtapdekacpecgiaaGreat
open Go.RowKit
set_option linter.unusedSimpArgs false
set_option linter.unusedVariables false
set_option linter.unusedSectionVars false
set_option maxRecDepth 20000
set_option maxHeartbeats 1000000
theorem Hl (m n:Int) (la lb:List (List Int)) (ha:la.length≤1099511627776) (hb:lb.length≤1099511627776):AFn Tryz.prog 147 [.agg [.int .i64 m,.sl false 27 (rowsF la)],.agg [.int .i64 n,.sl false 27 (rowsF lb)]] (.bool (decide (m=n∧la.length=lb.length))):=by
 refine fO Tryz.func147 Tryz.ntmps147 (by rw [Tryz.results147]) fun C hP hM hC=>?_
 have hD1:=A3 m la ha
 have hD2:=A3 n lb hb
 by_cases h:m=n
 ·have b1:(m==n)=true:=by simp [h]
  by_cases h2:la.length=lb.length
  ·(repeat (first|((with_reducible refine rC rfl fun K hK=>?_);simp only [go_sem,seval,↓reduceIte,b1,show (((la.length:Int)-1)==((lb.length:Int)-1))=true by rw [beq_iff_eq];omega];(first|refine hK _ _ _ ?_|refine ⟨_,hD1,hK _ _ _ ?_⟩|refine ⟨_,hD2,hK _ _ _ ?_⟩);clear hK K)|refine sT ?_))
   refine rt1 ?_
   rw [decide_eq_true ⟨h,h2⟩]
  ·(repeat (first|((with_reducible refine rC rfl fun K hK=>?_);simp only [go_sem,seval,↓reduceIte,b1,show (((la.length:Int)-1)==((lb.length:Int)-1))=false by rw [beq_eq_false_iff_ne];omega];(first|refine hK _ _ _ ?_|refine ⟨_,hD1,hK _ _ _ ?_⟩|refine ⟨_,hD2,hK _ _ _ ?_⟩);clear hK K)|refine sT ?_))
   refine rt1 ?_
   rw [decide_eq_false (fun e=>h2 e.2)]
 ·have b1:(m==n)=false:=by simp [h]
  (repeat (first|((with_reducible refine rC rfl fun K hK=>?_);simp only [go_sem,seval,↓reduceIte,b1];(first|refine hK _ _ _ ?_|refine ⟨_,hD1,hK _ _ _ ?_⟩|refine ⟨_,hD2,hK _ _ _ ?_⟩);clear hK K)|refine sT ?_))
  refine rt1 ?_
  rw [decide_eq_false (fun e=>h e.1)]
noncomputable def twC (m:Int) (la:List (List Int)) (n:Int) (lb:List (List Int)):Int:=if lawB m la=true then (if lawB n lb=true then (if m=n∧la.length=lb.length then 0 else 2) else 1) else 1
theorem Cg {m n:Int} {la lb:List (List Int)} (h:twC m la n lb=0):lawB m la=true∧lawB n lb=true∧m=n∧la.length=lb.length:=by
 unfold twC at h
 split at h
 ·rename_i h1
  split at h
  ·rename_i h2
   split at h
   ·rename_i h3;exact ⟨h1,h2,h3.1,h3.2⟩
   ·cases h
  ·cases h
 ·cases h
theorem I6 (m n:Int) (la lb:List (List Int)) (ha:Sm la) (hb:Sm lb):AFn Tryz.prog 228 [.agg [.int .i64 m,.sl false 27 (rowsF la)],.agg [.int .i64 n,.sl false 27 (rowsF lb)]] (.int .i64 (twC m la n lb)):=by
 refine fO Tryz.func228 Tryz.ntmps228 (by rw [Tryz.results228]) fun C hP hM hC=>?_
 have hA:=E5 m la ha
 have hB:=E5 n lb hb
 have hL:=Hl m n la lb (by have:=ha.1;omega) (by have:=hb.1;omega)
 cases h1:lawB m la with
 | false=>
  (repeat (first|((with_reducible refine rC rfl fun K hK=>?_);simp only [go_sem,seval,↓reduceIte,h1];(first|refine hK _ _ _ ?_|refine ⟨_,hA,hK _ _ _ ?_⟩|refine ⟨_,hB,hK _ _ _ ?_⟩);clear hK K)|refine sT ?_))
  refine rt1 ?_
  simp [twC,h1]
 | true=>
  cases h2:lawB n lb with
  | false=>
   (repeat (first|((with_reducible refine rC rfl fun K hK=>?_);simp only [go_sem,seval,↓reduceIte,h1,h2];(first|refine hK _ _ _ ?_|refine ⟨_,hA,hK _ _ _ ?_⟩|refine ⟨_,hB,hK _ _ _ ?_⟩);clear hK K)|refine sT ?_))
   refine rt1 ?_
   simp [twC,h1,h2]
  | true=>
   by_cases h3:m=n∧la.length=lb.length
   ·(repeat (first|((with_reducible refine rC rfl fun K hK=>?_);simp only [go_sem,seval,↓reduceIte,h1,h2,decide_eq_true h3];(first|refine hK _ _ _ ?_|refine ⟨_,hA,hK _ _ _ ?_⟩|refine ⟨_,hB,hK _ _ _ ?_⟩|refine ⟨_,hL,hK _ _ _ ?_⟩);clear hK K)|refine sT ?_))
    refine rt1 ?_
    simp only [twC,if_pos h1,if_pos h2,if_pos h3]
   ·(repeat (first|((with_reducible refine rC rfl fun K hK=>?_);simp only [go_sem,seval,↓reduceIte,h1,h2,decide_eq_false h3];(first|refine hK _ _ _ ?_|refine ⟨_,hA,hK _ _ _ ?_⟩|refine ⟨_,hB,hK _ _ _ ?_⟩|refine ⟨_,hL,hK _ _ _ ?_⟩);clear hK K)|refine sT ?_))
    refine rt1 ?_
    simp only [twC,if_pos h1,if_pos h2,if_neg h3]
theorem Dq (m n:Int) (la lb:List (List Int)) (ha:Sm la) (hb:Sm lb):AFn Tryz.prog 231 [.agg [.int .i64 m,.sl false 27 (rowsF la)],.agg [.int .i64 n,.sl false 27 (rowsF lb)]] (.int .i64 (twC m la n lb)):=by
 refine fO Tryz.func231 Tryz.ntmps231 (by rw [Tryz.results231]) fun C hP hM hC=>?_
 have hA:=Im m la ha
 have hB:=Im n lb hb
 cases h1:lawB m la with
 | false=>
  (repeat (first|((with_reducible refine rC rfl fun K hK=>?_);simp only [go_sem,seval,↓reduceIte,h1];(first|refine hK _ _ _ ?_|refine ⟨_,hA,hK _ _ _ ?_⟩|refine ⟨_,hB,hK _ _ _ ?_⟩);clear hK K)|refine sT ?_))
  refine rt1 ?_
  simp [twC,h1]
 | true=>
  cases h2:lawB n lb with
  | false=>
   (repeat (first|((with_reducible refine rC rfl fun K hK=>?_);simp only [go_sem,seval,↓reduceIte,h1,h2];(first|refine hK _ _ _ ?_|refine ⟨_,hA,hK _ _ _ ?_⟩|refine ⟨_,hB,hK _ _ _ ?_⟩);clear hK K)|refine sT ?_))
   refine rt1 ?_
   simp [twC,h1,h2]
  | true=>
   by_cases h3:m=n
   ·have b1:(m != n)=false:=by simp [h3]
    by_cases h4:la.length=lb.length
    ·(repeat (first|((with_reducible refine rC rfl fun K hK=>?_);simp only [go_sem,seval,↓reduceIte,h1,h2,b1,Ab,show ((la.length:Int) != (lb.length:Int))=false by rw [h4];simp];(first|refine hK _ _ _ ?_|refine ⟨_,hA,hK _ _ _ ?_⟩|refine ⟨_,hB,hK _ _ _ ?_⟩);clear hK K)|refine sT ?_))
     refine rt1 ?_
     simp only [twC,if_pos h1,if_pos h2,if_pos (show m=n∧la.length=lb.length from ⟨h3,h4⟩)]
    ·(repeat (first|((with_reducible refine rC rfl fun K hK=>?_);simp only [go_sem,seval,↓reduceIte,h1,h2,b1,Ab,show ((la.length:Int) != (lb.length:Int))=true by rw [bne_iff_ne];omega];(first|refine hK _ _ _ ?_|refine ⟨_,hA,hK _ _ _ ?_⟩|refine ⟨_,hB,hK _ _ _ ?_⟩);clear hK K)|refine sT ?_))
     refine rt1 ?_
     simp only [twC,if_pos h1,if_pos h2,if_neg (show ¬ (m=n∧la.length=lb.length) from fun e=>h4 e.2)]
   ·have b1:(m != n)=true:=by simpa using h3
    (repeat (first|((with_reducible refine rC rfl fun K hK=>?_);simp only [go_sem,seval,↓reduceIte,h1,h2,b1];(first|refine hK _ _ _ ?_|refine ⟨_,hA,hK _ _ _ ?_⟩|refine ⟨_,hB,hK _ _ _ ?_⟩);clear hK K)|refine sT ?_))
    refine rt1 ?_
    simp only [twC,if_pos h1,if_pos h2,if_neg (show ¬ (m=n∧la.length=lb.length) from fun e=>h3 e.1)]
end Go.Proofs.YtapdekacpecgiaaGreat
