import Derived.Test.YtapdekacpecgiaaGreatTac
namespace Go.Proofs.YtapdekacpecgiaaGreat
open Go.RowKit
set_option linter.unusedSimpArgs false
set_option linter.unusedVariables false
set_option linter.unusedSectionVars false
set_option maxRecDepth 20000
set_option maxHeartbeats 1000000
def rowsF (ll:List (List Int)):List T:=ll.map fun l=>.sl false 2 (intL l)
def rowsO (ll:List (List Int)):List T:=ll.map fun l=>.sl true 2 (intL l)
theorem Ab (ll:List (List Int)):(rowsF ll).length=ll.length:=by simp [rowsF]
theorem Af (ll:List (List Int)):(rowsO ll).length=ll.length:=by simp [rowsO]
theorem Ak (ll:List (List Int)) (i:Nat) (h:i<ll.length):(rowsF ll).getD i .any=.sl false 2 (intL (ll.getD i [])):=by
 simp [rowsF,List.getD_eq_getElem?_getD,h]
theorem Cm:∀ (ll:List (List Int)),T.pureL (rowsF ll)=true
 | []=>rfl
 | x::l=>by have:=Cm l;simp only [rowsF,List.map_cons,T.pureL,Sk,E6,Bool.true_and];exact this
theorem Hw:∀ (ll:List (List Int)),T.refFreeL (rowsF ll)=true
 | []=>rfl
 | x::l=>by have:=Hw l;simp only [rowsF,List.map_cons,T.refFreeL,Mh,E7,Bool.true_and];exact this
theorem Oc:∀ (ll:List (List Int)),T.noOwnL (rowsF ll)=true
 | []=>rfl
 | x::l=>by have:=Oc l;simp only [rowsF,List.map_cons,T.noOwnL,Qr,Bool.true_and];exact this
theorem Gb:∀ (ll:List (List Int)),T.freezeL (rowsF ll)=rowsF ll
 | []=>rfl
 | x::l=>by have:=Gb l;simp only [rowsF,List.map_cons,T.freezeL,T.freeze];rw [show l.map (fun l=>T.sl false 2 (intL l))=rowsF l from rfl,this]
theorem Cu:∀ (ll:List (List Int)),T.freezeL (rowsO ll)=rowsF ll
 | []=>rfl
 | x::l=>by have:=Cu l;simp only [rowsO,rowsF,List.map_cons,T.freezeL,T.freeze,Jm];rw [show l.map (fun l=>T.sl true 2 (intL l))=rowsO l from rfl,this];rfl
theorem Lj:∀ (ll:List (List Int)),T.refFreeL (rowsO ll)=true
 | []=>rfl
 | x::l=>by have:=Lj l;simp only [rowsO,List.map_cons,T.refFreeL,M7,E7,Bool.true_and];exact this
theorem Jt:∀ (ll:List (List Int)),T.solidL (rowsO ll)=true
 | []=>rfl
 | x::l=>by have:=Jt l;simp only [rowsO,List.map_cons,T.solidL,Qs,Bool.true_and];exact this
theorem Ach (a:List (List Int)) (l:List Int):rowsO a++[.sl true 2 (intL l)]=rowsO (a++[l]):=by simp [rowsO]
theorem D7 (l:List Int) (ll:List (List Int)):T.noOwnL (rowsO (l::ll))=false:=rfl
theorem I1:∀ (ll:List (List Int)),T.noFL (rowsO ll)=true
 | []=>rfl
 | x::l=>by have:=I1 l;simp only [rowsO,List.map_cons,T.noFL,T.noF,Dm,Bool.true_and];exact this
attribute [go_sem] I1 Cm Hw Oc Gb Cu Ab Af
end Go.Proofs.YtapdekacpecgiaaGreat
