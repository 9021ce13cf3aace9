import Derived.Test.YtapdekacpecgiaaGreatRn
namespace Go.Proofs.YtapdekacpecgiaaGreat
open Go.RowKit
set_option linter.unusedSimpArgs false
set_option linter.unusedVariables false
set_option linter.unusedSectionVars false
set_option maxRecDepth 20000
set_option maxHeartbeats 1000000
def cvY (M j d:Nat) (x:List Int):Nat→List Int
 | 0=>x
 | k+1=>x.take j++(k:Int)::List.replicate d ((M:Int)-1)
theorem Fx {M j d:Nat} {x:List Int} (hx:x.length=j+d+1) (k:Nat):(cvY M j d x k).length=j+d+1∧(cvY M j d x k).take j=x.take j:=by
 cases k with
 | zero=>exact ⟨hx,rfl⟩
 | succ k=>
  have hl:(x.take j).length=j:=by simp;omega
  refine ⟨by simp [cvY];omega,?_⟩
  rw [cvY,List.take_append_of_le_length (by omega),List.take_take,Nat.min_self]
theorem Ahk {l:List Int} {j:Nat} (hj:j<l.length) (v:Int):(l.set j v).take (j+1)=l.take j++[v]:=by
 rw [List.take_set,← List.take_append_getElem hj,List.set_append_right _ _ (by simp;omega)]
 have:j-(l.take j).length=0:=by simp;omega
 rw [this];rfl
theorem Gw {M j d:Nat} {x:List Int} (hx:x.length=j+d+1) (k:Nat):(((cvY M j d x k).set j (k:Int)).take (j+1)=x.take j++[(k:Int)])∧((cvY M j d x k).set j (k:Int)).take (j+1)++List.replicate d ((M:Int)-1)=cvY M j d x (k+1):=by
 have h:=Fx (M:=M) hx k
 have e:=Ahk (l:=cvY M j d x k) (j:=j) (by omega) (k:Int)
 rw [h.2] at e
 exact ⟨e,by rw [e,cvY,List.append_assoc];rfl⟩
theorem Aiq {M j d:Nat} {x:List Int} (hb:∀ z∈x,0≤z∧z<(M:Int)) {k:Nat} (hk:k≤M) (h1:1≤M):∀ z∈cvY M j d x k,0≤z∧z<(M:Int):=by
 cases k with
 | zero=>exact hb
 | succ k=>
  intro z hz
  rw [cvY,List.mem_append] at hz
  rcases hz with hz|hz
  ·exact hb z (List.mem_of_mem_take hz)
  ·rcases List.mem_cons.1 hz with e|e
   ·omega
   ·have:=List.eq_of_mem_replicate e;omega
def seqD:Nat→Code→Code
 | 0,c=>c
 | k+1,.seq _ y=>seqD k y
 | _+1,c=>c
def seqP:Nat→Code→Code→Code
 | 0,R,_=>R
 | k+1,R,.seq x y=>.seq x (seqP k R y)
 | _+1,_,c=>c
theorem Aez:∀ (k:Nat) (c:Code),seqP k (seqD k c) c=c
 | 0,_=>rfl
 | k+1,c=>by cases c <;> simp [seqP,seqD,Aez]
theorem AWP.tailK {C:Ctx} {n:Nat} {Q:Exit→Env→Prop} {env:Env} {c:Code} (k:Nat) (E:Env) (h:AWP C n (seqD k c) Q E) (h2:∀ R,AWP C n R Q E→AWP C n (seqP k R c) Q env):AWP C n c Q env:=by
 have h3:=h2 _ h
 rwa [Aez] at h3
end Go.Proofs.YtapdekacpecgiaaGreat
