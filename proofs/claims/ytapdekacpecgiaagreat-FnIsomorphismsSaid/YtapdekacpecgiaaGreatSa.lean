import Derived.Test.YtapdekacpecgiaaGreatKa
import Derived.Test.YtapdekacpecgiaaGreatQa
import Derived.Test.YtapdekacpecgiaaGreatIa
namespace Go.Proofs.YtapdekacpecgiaaGreat
open Go.RowKit
set_option linter.unusedSimpArgs false
set_option linter.unusedVariables false
set_option linter.unusedSectionVars false
set_option maxRecDepth 20000
set_option maxHeartbeats 1000000
theorem Ald {a a' b b':Nat→Int} {m:Int} {n:Nat} (h1:∀ i,i≤n→a i%m=a' i%m) (h2:∀ i,i≤n→b i%m=b' i%m):cv a b n%m=cv a' b' n%m:=
 Cq fun i hi=>By (h1 i (by omega)) (h2 _ (by omega))
theorem G3 {m:Int} {a b:List Int} {d u:Nat} (h:u≤d):at' (timesL m a b d) u%m=cv (at' a) (at' b) u%m:=by rw [timesL,Bm (by omega),Int.emod_emod]
theorem If {m:Int} (a f:List Int) (d:Nat):∀ k,k≤d+1→∀ u,u≤d→at' (cmpL m a f d k) u%m=sm k (fun i=>at' a (d+1-k+i)*at' (pwS m f d i) u)%m
 | 0,_,u,hu=>by rw [cmpL,Bm (by omega)];rfl
 | k+1,hk,u,hu=>by
  rw [cmpL,Bm (by omega),Int.emod_emod,Ca,Int.add_comm]
  refine Ei ?_ ?_
  ·rw [pwS,F6 d u hu,oneF,show d+1-(k+1)+0=d-k by omega]
   split
   ·rw [Int.emod_emod,Int.mul_one]
   ·rw [Int.mul_zero]
  ·rw [Int.emod_emod,Ald (fun j hj=>If a f d k (by omega) j (by omega)) (fun j _=>rfl)]
   have e:cv (fun j=>sm k (fun i=>at' a (d+1-k+i)*at' (pwS m f d i) j)) (at' f) u=sm k (fun i=>at' a (d+1-k+i)*cv (at' (pwS m f d i)) (at' f) u):=by
    rw [cv]
    rw [Av (fun j _=>(Iq k (at' f (u-j)) (fun i=>at' a (d+1-k+i)*at' (pwS m f d i) j)).symm),Qy]
    refine Av fun i _=>?_
    rw [cv,← Ke]
    exact Av fun j _=>Int.mul_assoc _ _ _
   rw [e]
   refine Cq fun i hi=>?_
   rw [show d+1-(k+1)+(i+1)=d+1-k+i by omega]
   exact By rfl (G3 hu).symm
end Go.Proofs.YtapdekacpecgiaaGreat
