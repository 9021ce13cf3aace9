import Derived.Test.YtapdekacpecgiaaGreatTac
namespace Go.Proofs.YtapdekacpecgiaaGreat
open Go.RowKit
set_option linter.unusedSimpArgs false
set_option linter.unusedVariables false
set_option linter.unusedSectionVars false
set_option maxRecDepth 20000
set_option maxHeartbeats 1000000
def rowsF (ll:List (List Int)):List T:=ll.map fun l=>.sl false 2 (intL l)
def rowsO (ll:List (List Int)):List T:=ll.map fun l=>.sl true 2 (intL l)
theorem Aa (ll:List (List Int)):(rowsF ll).length=ll.length:=by simp [rowsF]
theorem At (ll:List (List Int)):(rowsO ll).length=ll.length:=by simp [rowsO]
theorem Ad (ll:List (List Int)) (i:Nat) (h:i<ll.length):(rowsF ll).getD i .any=.sl false 2 (intL (ll.getD i [])):=by
 simp [rowsF,List.getD_eq_getElem?_getD,h]
theorem Ca:∀ (ll:List (List Int)),T.pureL (rowsF ll)=true
 | []=>rfl
 | x::l=>by have:=Ca l;simp only [rowsF,List.map_cons,T.pureL,Rl,Fs,Bool.true_and];exact this
theorem Ha:∀ (ll:List (List Int)),T.refFreeL (rowsF ll)=true
 | []=>rfl
 | x::l=>by have:=Ha l;simp only [rowsF,List.map_cons,T.refFreeL,Mt,Ev,Bool.true_and];exact this
theorem Nu:∀ (ll:List (List Int)),T.noOwnL (rowsF ll)=true
 | []=>rfl
 | x::l=>by have:=Nu l;simp only [rowsF,List.map_cons,T.noOwnL,Pm,Bool.true_and];exact this
theorem F4:∀ (ll:List (List Int)),T.freezeL (rowsF ll)=rowsF ll
 | []=>rfl
 | x::l=>by have:=F4 l;simp only [rowsF,List.map_cons,T.freezeL,T.freeze];rw [show l.map (fun l=>T.sl false 2 (intL l))=rowsF l from rfl,this]
theorem F3:∀ (ll:List (List Int)),T.freezeL (rowsO ll)=rowsF ll
 | []=>rfl
 | x::l=>by have:=F3 l;simp only [rowsO,rowsF,List.map_cons,T.freezeL,T.freeze,Jd];rw [show l.map (fun l=>T.sl true 2 (intL l))=rowsO l from rfl,this];rfl
theorem K5:∀ (ll:List (List Int)),T.refFreeL (rowsO ll)=true
 | []=>rfl
 | x::l=>by have:=K5 l;simp only [rowsO,List.map_cons,T.refFreeL,Ms,Ev,Bool.true_and];exact this
theorem Jf:∀ (ll:List (List Int)),T.solidL (rowsO ll)=true
 | []=>rfl
 | x::l=>by have:=Jf l;simp only [rowsO,List.map_cons,T.solidL,Pq,Bool.true_and];exact this
theorem L6:∀ (ll:List (List Int)),T.noFL (rowsO ll)=true
 | []=>rfl
 | x::l=>by have:=L6 l;simp only [rowsO,List.map_cons,T.noFL,T.noF,J1,Bool.true_and];exact this
attribute [go_sem] L6 Ca Ha Nu F4 F3 Aa At
end Go.Proofs.YtapdekacpecgiaaGreat
