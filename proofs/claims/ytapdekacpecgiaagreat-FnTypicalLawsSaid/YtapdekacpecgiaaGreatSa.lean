import Derived.Test.YtapdekacpecgiaaGreatKa
import Derived.Test.YtapdekacpecgiaaGreatQa
import Derived.Test.YtapdekacpecgiaaGreatIa
namespace Go.Proofs.YtapdekacpecgiaaGreat
open Go.RowKit
set_option linter.unusedSimpArgs false
set_option linter.unusedVariables false
set_option linter.unusedSectionVars false
set_option maxRecDepth 20000
set_option maxHeartbeats 1000000
theorem Akp {a a' b b':Nat→Int} {m:Int} {n:Nat} (h1:∀ i,i≤n→a i%m=a' i%m) (h2:∀ i,i≤n→b i%m=b' i%m):cv a b n%m=cv a' b' n%m:=
 Be fun i hi=>Af (h1 i (by omega)) (h2 _ (by omega))
theorem Gp {m:Int} {a b:List Int} {d u:Nat} (h:u≤d):at' (timesL m a b d) u%m=cv (at' a) (at' b) u%m:=by rw [timesL,Bl (by omega),Int.emod_emod]
theorem M0 {m:Int} (a f:List Int) (d:Nat):∀ k,k≤d+1→∀ u,u≤d→at' (cmpL m a f d k) u%m=sm k (fun i=>at' a (d+1-k+i)*at' (pwS m f d i) u)%m
 | 0,_,u,hu=>by rw [cmpL,Bl (by omega)];rfl
 | k+1,hk,u,hu=>by
  rw [cmpL,Bl (by omega),Int.emod_emod,Bq,Int.add_comm]
  refine Bh ?_ ?_
  ·rw [pwS,Hp d u hu,oneF,show d+1-(k+1)+0=d-k by omega]
   split
   ·rw [Int.emod_emod,Int.mul_one]
   ·rw [Int.mul_zero]
  ·rw [Int.emod_emod,Akp (fun j hj=>M0 a f d k (by omega) j (by omega)) (fun j _=>rfl)]
   have e:cv (fun j=>sm k (fun i=>at' a (d+1-k+i)*at' (pwS m f d i) j)) (at' f) u=sm k (fun i=>at' a (d+1-k+i)*cv (at' (pwS m f d i)) (at' f) u):=by
    rw [cv]
    rw [As (fun j _=>(H6 k (at' f (u-j)) (fun i=>at' a (d+1-k+i)*at' (pwS m f d i) j)).symm),Ra]
    refine As fun i _=>?_
    rw [cv,← Ch]
    exact As fun j _=>Int.mul_assoc _ _ _
   rw [e]
   refine Be fun i hi=>?_
   rw [show d+1-(k+1)+(i+1)=d+1-k+i by omega]
   exact Af rfl (Gp hu).symm
end Go.Proofs.YtapdekacpecgiaaGreat
