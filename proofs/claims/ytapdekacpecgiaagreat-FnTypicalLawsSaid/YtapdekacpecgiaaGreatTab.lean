import Derived.Test.YtapdekacpecgiaaGreatGD
import Derived.Test.YtapdekacpecgiaaGreatRows
namespace Go.Proofs.YtapdekacpecgiaaGreat
open Go.RowKit
set_option linter.unusedSimpArgs false
set_option linter.unusedVariables false
set_option linter.unusedSectionVars false
set_option maxRecDepth 20000
set_option maxHeartbeats 1000000
def tt:Tt:=[
 (2,⟨1,8,.int .i64 0,.int .i64⟩),
 (3,⟨1,8,.int .i64 0,.int .i64⟩),
 (4,⟨1,1,.bool false,.bool⟩),
 (27,⟨1,24,.nil,.slice 2⟩),
 (24,⟨1,24,.nil,.slice 27⟩),
 (120,⟨1,24,.nil,.slice 3⟩),
 (157,⟨1,8,.int .u64 0,.int .u64⟩),
 (9,⟨1,16,.str (.str ⟨#[]⟩),.string⟩),
 (5,⟨1,1,.int .u8 0,.int .u8⟩),
 (153,⟨1,8,.int .u64 0,.int .u64⟩),
 (22,⟨1,24,.nil,.slice 5⟩),
 (155,⟨3,40,.agg [.nil,.int .i64 0,.int .u64 0],.struct [(22,0,1),(3,1,1),(153,2,1)]⟩),
 (29,⟨2,32,.agg [.int .i64 0,.nil],.struct [(2,0,1),(27,1,1)]⟩),
 (26,⟨2,32,.agg [.int .i64 0,.nil],.struct [(2,0,1),(24,1,1)]⟩),
 (187,⟨1,24,.nil,.slice 24⟩),
 (184,⟨1,24,.nil,.slice 26⟩),
 (142,⟨1,24,.nil,.slice 29⟩),
 (86,⟨1,8,.str .nilFunc,.plain⟩),
 (85,⟨1,8,.str .nilFunc,.plain⟩)]
theorem ttOk':∀ (l:Tt),(∀ x∈l,TyOk Tryz.prog x.1 x.2)→TtOk Tryz.prog l
 | [],_,t,i,h=>by simp [tyAt] at h
 | (u,j)::l,hl,t,i,h=>by
  simp only [tyAt] at h
  split at h
  ·rename_i e
   subst e
   simp only [Option.some.injEq] at h
   subst h
   exact hl (u,j) (by simp)
  ·exact ttOk' l (fun x hx=>hl x (by simp [hx])) t i h
theorem ttOk:TtOk Tryz.prog tt:=ttOk' _ (by
 intro x hx
 simp only [tt,List.mem_cons,List.not_mem_nil,or_false] at hx
 rcases hx with rfl|rfl|rfl|rfl|rfl|rfl|rfl|rfl|rfl|rfl|rfl|rfl|rfl|rfl|rfl|rfl|rfl|rfl|rfl
 ·exact ⟨by kernel_rfl,rfl,rfl,by kernel_rfl,rfl⟩
 ·exact ⟨by kernel_rfl,rfl,rfl,by kernel_rfl,rfl⟩
 ·exact ⟨by kernel_rfl,rfl,rfl,by kernel_rfl,rfl⟩
 ·exact ⟨by kernel_rfl,rfl,rfl,by kernel_rfl,rfl⟩
 ·exact ⟨by kernel_rfl,rfl,rfl,by kernel_rfl,rfl⟩
 ·exact ⟨by kernel_rfl,rfl,rfl,by kernel_rfl,rfl⟩
 ·exact ⟨by kernel_rfl,rfl,rfl,by kernel_rfl,rfl⟩
 ·exact ⟨by kernel_rfl,rfl,rfl,by kernel_rfl,rfl⟩
 ·exact ⟨by kernel_rfl,rfl,rfl,by kernel_rfl,rfl⟩
 ·exact ⟨by kernel_rfl,rfl,rfl,by kernel_rfl,rfl⟩
 ·exact ⟨by kernel_rfl,rfl,rfl,by kernel_rfl,rfl⟩
 ·exact ⟨by kernel_rfl,rfl,rfl,by kernel_rfl,rfl⟩
 ·exact ⟨by kernel_rfl,rfl,rfl,by kernel_rfl,rfl⟩
 ·exact ⟨by kernel_rfl,rfl,rfl,by kernel_rfl,rfl⟩
 ·exact ⟨by kernel_rfl,rfl,rfl,by kernel_rfl,rfl⟩
 ·exact ⟨by kernel_rfl,rfl,rfl,by kernel_rfl,rfl⟩
 ·exact ⟨by kernel_rfl,rfl,rfl,by kernel_rfl,rfl⟩
 ·exact ⟨by kernel_rfl,rfl,rfl,by kernel_rfl,rfl⟩
 ·exact ⟨by kernel_rfl,rfl,rfl,by kernel_rfl,rfl⟩)
theorem mixed:Tryz.prog.follows .mixedOrders=true:=by kernel_rfl
end Go.Proofs.YtapdekacpecgiaaGreat
