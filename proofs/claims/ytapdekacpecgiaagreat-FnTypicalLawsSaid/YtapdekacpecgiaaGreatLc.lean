import Derived.Test.YtapdekacpecgiaaGreatLa
namespace Go.Proofs.YtapdekacpecgiaaGreat
open Go.RowKit
set_option linter.unusedSimpArgs false
set_option linter.unusedVariables false
set_option linter.unusedSectionVars false
set_option maxRecDepth 20000
set_option maxHeartbeats 1000000
theorem Ao (c:List Int) (i:Nat) (h:i<c.length):(intL c)[i]? = some (.int .i64 (c.getD i 0)):=by
 simp [intL,List.getD_eq_getElem?_getD,h]
theorem Kt:∀ (c:List Int),T.sizeL (intL c)=c.length
 | []=>rfl
 | x::c=>by
  have:=Kt c
  simp only [intL,List.map_cons,T.sizeL,T.size,List.length_cons] at this ⊢
  omega
theorem Ai (c:List Int) (i:Nat) (h:i≤c.length):T.sizeL ((intL c).take i)=i:=by
 rw [show (intL c).take i=intL (c.take i) by simp [intL],Kt]
 simp [h]
theorem B7 (c:List Int) (i:Nat) (v:Int):(intL c).modify i (fun _=>.int .i64 v)=intL (c.set i v):=by
 unfold intL
 rw [List.map_set]
 apply List.ext_getElem?
 intro j
 rw [List.getElem?_modify,List.getElem?_set]
 by_cases e:i=j
 ·subst e
  by_cases h:i<c.length <;> simp [h]
 ·simp [e]
theorem C6 (n:Nat):List.replicate n (T.int .i64 0)=intL (List.replicate n 0):=by simp [intL]
end Go.Proofs.YtapdekacpecgiaaGreat
