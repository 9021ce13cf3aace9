import Derived.Test.YtapdekacpecgiaaGreatDs
import Derived.Test.YtapdekacpecgiaaGreatLd
import Derived.Test.YtapdekacpecgiaaGreatLc
namespace Go.Proofs.YtapdekacpecgiaaGreat
open Go.RowKit
set_option linter.unusedSimpArgs false
set_option linter.unusedVariables false
set_option linter.unusedSectionVars false
set_option maxRecDepth 20000
set_option maxHeartbeats 1000000
theorem Aix (l:List Int):(intL l).all T.scalar=true:=by
 rw [List.all_eq_true]
 intro t ht
 simp only [intL,List.mem_map] at ht
 obtain ⟨x,_,rfl⟩:=ht
 rfl
abbrev SRC (a:Option Addr) (c:Nat) (l:List Int) (s:Int×Int):T:=.box 155 (.agg [.str (.raw a l.length c),.int .i64 s.1,.int .u64 s.2])
end Go.Proofs.YtapdekacpecgiaaGreat
