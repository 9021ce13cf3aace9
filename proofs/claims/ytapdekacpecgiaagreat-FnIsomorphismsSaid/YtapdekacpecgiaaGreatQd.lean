import Derived.Test.YtapdekacpecgiaaGreatQa
namespace Go.Proofs.YtapdekacpecgiaaGreat
open Go.RowKit
set_option linter.unusedSimpArgs false
set_option linter.unusedVariables false
set_option linter.unusedSectionVars false
set_option maxRecDepth 20000
set_option maxHeartbeats 1000000
def varL (d:Nat):List Int:=tab (d+1) (fun j=>if j=1 then 1 else 0)
theorem Agy {d:Nat} (hd:1≤d):(tab (d+1) (fun _=>0)).set 1 1=varL d:=Eq fun j hj=>by simp
theorem P7 (m:Int) (d:Nat) (hd:1≤d) (hd2:d≤1000):AFn Tryz.prog 220 [.int .i64 m,.int .i64 d] (.agg [.int .i64 m,.sl true 2 (intL (varL d))]):=by
 refine fO Tryz.func220 Tryz.ntmps220 (by rw [Tryz.results220]) fun C hP hM hC=>?_
 have h1:1<(tab (d+1) (fun _=>0)).length:=by rw [Ah];omega
 (repeat (first|((with_reducible refine rC rfl fun K hK=>?_);simp only [go_sem,seval,↓reduceIte,Ah,show (0:Int)≤1 by decide,show (1:Int).toNat=1 from rfl,show (1:Int)<((d+1:Nat):Int) by omega,Ae _ _ h1,Aa _ _ (Nat.le_of_lt h1),Nat.mul_one,Ax,Agy hd];(first|refine hK _ _ _ ?_|refine ⟨_,D8 m (d:Int) (d+1) (by omega) (by omega),hK _ _ _ ?_⟩);clear hK K)|refine sT ?_))
 refine rt1 ?_
 rfl
def muL (m:Int) (t:Nat→Nat→Int) (d:Nat) (o b:List Int) (k:Nat):List Int:=
 if h:k=0 then o else muL m t d (if k%2=1 then putL m t o b d else o) (putL m t b b d) (k/2)
 termination_by k
 decreasing_by omega
end Go.Proofs.YtapdekacpecgiaaGreat
