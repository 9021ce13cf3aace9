import Derived.Test.YtapdekacpecgiaaGreatFin
import Derived.Test.YtapdekacpecgiaaGreatDs
import Derived.Test.YtapdekacpecgiaaGreatLc
namespace Go.Proofs.YtapdekacpecgiaaGreat
open Go.RowKit
set_option linter.unusedSimpArgs false
set_option linter.unusedVariables false
set_option linter.unusedSectionVars false
set_option maxRecDepth 20000
set_option maxHeartbeats 1000000
theorem Ps (a:Option Addr) (c:Nat) (l:List Int):AFn Tryz.prog 7 [.str (.src a c l)] (.bool (decide ((4096:Int)<(l.length:Int)))):=by
 refine fO Tryz.func7 Tryz.ntmps7 (by rw [Tryz.results7]) fun C hP hM hC=>?_
 (repeat (first|((with_reducible refine rC rfl fun K hK=>?_);simp only [go_sem,seval,↓reduceIte];refine hK _ _ _ ?_;clear hK K)|refine sT ?_))
 refine rt1 ?_
 rfl
def dropSeq:Nat→Code→Code
 | 0,c=>c
 | k+1,.seq _ y=>dropSeq k y
 | _+1,c=>c
def putSeq:Nat→Code→Code→Code
 | 0,R,_=>R
 | k+1,R,.seq x y=>.seq x (putSeq k R y)
 | _+1,_,c=>c
theorem Ns:∀ (k:Nat) (c:Code),putSeq k (dropSeq k c) c=c
 | 0,_=>rfl
 | k+1,c=>by cases c <;> simp [putSeq,dropSeq,Ns]
theorem AWP.tailR {C:Ctx} {n:Nat} {Q:Exit→Env→Prop} {env:Env} {c:Code} (k:Nat) (E:Env) (h:AWP C n (dropSeq k c) Q E) (h2:∀ R,AWP C n R Q E→AWP C n (putSeq k R c) Q env):AWP C n c Q env:=by
 have h3:=h2 _ h
 rwa [Ns] at h3
end Go.Proofs.YtapdekacpecgiaaGreat
