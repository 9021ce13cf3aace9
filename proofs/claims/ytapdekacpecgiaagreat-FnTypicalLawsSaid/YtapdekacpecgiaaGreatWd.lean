import Derived.Test.YtapdekacpecgiaaGreatTac
namespace Go.Proofs.YtapdekacpecgiaaGreat
open Go.RowKit
set_option linter.unusedSimpArgs false
set_option linter.unusedVariables false
set_option linter.unusedSectionVars false
set_option maxRecDepth 20000
set_option maxHeartbeats 1000000
open Go
theorem Hn (r:List Char):∀ (w:List Char),w.all (fun c=>c != Char.ofNat 32)=true→wordsSigns (w++Char.ofNat 32::r)=w::wordsSigns r
 | [],_=>rfl
 | c::w,h=>by
  simp only [List.all_cons,Bool.and_eq_true,bne_iff_ne,ne_eq] at h
  have ih:=Hn r w h.2
  rw [List.cons_append,wordsSigns,ih]
  exact h.1
def ioA:List Char:=([104,97,114,110,101,115,115]:List Nat).map Char.ofNat
def ioB:List Char:=([53,50,101,101,99,99,99,52,53,54,53,101,53,49,56,51,56,54,56,49,101,100,57,57,48,49,56,57,53,54,52,57,100,98,54,55,48,49,53,102,54,100,98,102,101,48,53,48,51,51,49,101,51,99,99,55,97,48,97,54,98,101,101,51]:List Nat).map Char.ofNat
def ioC:List Char:=([99,117,116]:List Nat).map Char.ofNat
def ioR:List Char:=([97,116,32,108,111,111,112,46,101,120,97,109,112,108,101,47,103,48,49,49,53,50,47,108,97,119,115,46,70,110,83,117,98,115,116,105,116,117,116,105,111,110,115,32,108,111,111,112,46,101,120,97,109,112,108,101,47,103,48,49,49,53,50,47,108,97,119,115,46,70,110,84,121,112,105,99,97,108,76,97,119,115,32,108,111,111,112,46,101,120,97,109,112,108,101,47,103,48,49,49,53,50,47,108,97,119,115,46,70,110,76,97,119,115,79,102,67,117,114,118,101,115,32,108,111,111,112,46,101,120,97,109,112,108,101,47,103,48,49,49,53,50,47,108,97,119,115,46,70,110,73,115,111,109,111,114,112,104,105,115,109,115]:List Nat).map Char.ofNat
theorem ioList:Tryz.pinned.checked.prog.initOrder.toList=ioA++Char.ofNat 32::(ioB++Char.ofNat 32::(ioC++Char.ofNat 32::ioR)):=by
 have h:Tryz.pinned.checked.prog.initOrder=String.ofList (ioA++Char.ofNat 32::(ioB++Char.ofNat 32::(ioC++Char.ofNat 32::ioR))):=by kernel_rfl
 rw [h,String.toList_ofList]
theorem ioWords:behindMainWord (wordsSigns Tryz.pinned.checked.prog.initOrder.toList)=ioC::wordsSigns ioR:=by
 rw [ioList,Hn _ ioA (by kernel_rfl),Hn _ ioB (by kernel_rfl),Hn _ ioC (by kernel_rfl)]
 have h : (ioA == "harness".toList || ioA == "ownmain".toList) = true := by kernel_rfl
 have h2:isSumSigns ioB=true:=by kernel_rfl
 simp only [behindMainWord,h,h2,Bool.and_self,if_true]
theorem Vm (ws:List (List Char)):stripLifts liftWords (ioC::ws)=([],ioC::ws):=by kernel_rfl
theorem Ajv {P:Program} {ws:List (List Char)} (h:behindMainWord (wordsSigns P.initOrder.toList)=ioC::ws):P.make=some .cut:=by
 have h1 : (ioC == "gc".toList || ioC == "spec".toList) = false := by kernel_rfl
 have h2 : (ioC == "cut".toList) = true := by kernel_rfl
 unfold Program.make
 rw [h]
 simp only [h1,h2,Bool.true_or,if_true,Bool.false_eq_true,if_false]
theorem Ahl {P:Program} {ws:List (List Char)} (h:behindMainWord (wordsSigns P.initOrder.toList)=ioC::ws):P.liftsFinal=false:=by
 have h2 : ioC == "cut".toList := by kernel_rfl
 have h3 : (some ioC == some "carried".toList) = false := by kernel_rfl
 unfold Program.liftsFinal Program.headLifts
 rw [h,Vm]
 simp only [List.head?_cons,h3,Bool.false_and,Bool.false_or]
 rfl
theorem Ahj {P:Program} {ws:List (List Char)} (h:behindMainWord (wordsSigns P.initOrder.toList)=ioC::ws) (h1:P.laysLater=false) (h2:P.bearsReflect=false) (h3:P.doorFits []=true):P.mayEnter=true:=by
 have h4 : (some ioC == some "cut".toList) = true := by kernel_rfl
 unfold Program.mayEnter
 rw [h]
 have h5 : (([] : List String).contains "reflectrows" || !([] : List String).contains "leanrows") = true := rfl
 simp only [Vm,h1,h2,h3,List.head?_cons,h4,Bool.not_false,Bool.or_true,Bool.and_true]
 rw [h5]
 simp only [Bool.and_self,Bool.or_true]
theorem ioEnter:Tryz.pinned.checked.prog.mayEnter=true:=Ahj ioWords (by kernel_rfl) (by kernel_rfl) (by kernel_rfl)
theorem ioLifts:Tryz.pinned.checked.prog.liftsFinal=false:=Ahl ioWords
theorem ioMake:Tryz.pinned.checked.prog.make=some .cut:=Ajv ioWords
end Go.Proofs.YtapdekacpecgiaaGreat
