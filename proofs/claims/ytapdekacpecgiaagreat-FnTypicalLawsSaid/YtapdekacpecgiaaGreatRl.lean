import Derived.Test.YtapdekacpecgiaaGreatLf
namespace Go.Proofs.YtapdekacpecgiaaGreat
open Go.RowKit
set_option linter.unusedSimpArgs false
set_option linter.unusedVariables false
set_option linter.unusedSectionVars false
set_option maxRecDepth 20000
set_option maxHeartbeats 1000000
def rmL (k:Int) (l:List Int):List Int:=l.map (fun x=>x.tmod k)
theorem Ahk (k:Int) (l:List Int) {i:Nat} (h:i<l.length):rmL k (l.take i)++[(l.getD i 0).tmod k]=rmL k (l.take (i+1)):=by
 have e:l.take (i+1)=l.take i++[l.getD i 0]:=by
  rw [List.take_add_one,List.getD_eq_getElem?_getD,List.getElem?_eq_getElem h];rfl
 rw [e];simp [rmL]
theorem O6 (k:Int) (l:List Int):(rmL k l).length=l.length:=by simp [rmL]
theorem Q8 (k:Int) (l:List Int) (hk:k≠0) (hl:l.length≤1000):AFn Tryz.prog 110 [.int .i64 k,.sl false 2 (intL l)] (.sl true 2 (intL (rmL k l))):=by
 refine fO Tryz.func110 Tryz.ntmps110 (by rw [Tryz.results110]) fun C hP hM hC=>?_
 (repeat (first|((with_reducible refine rC rfl fun K hK=>?_);simp only [go_sem,seval,↓reduceIte];refine hK _ _ _ ?_;clear hK K)|refine sT ?_))
 refine AWP.loop (fun x:Nat×Nat=>[(6,⟨0,.val (.int .i64 x.1)⟩),(1,⟨0,.val (.sl false 2 (intL l))⟩),(5,⟨x.2,.own (.sl true 2 (intL (rmL k (l.take x.1))))⟩),(0,⟨0,.val (.int .i64 k)⟩)]) (fun x=>x.1≤l.length) (fun x=>l.length-x.1) (0,1) (Nat.zero_le _) (fun i=>rfl) ?_ (fun x hi=>?_)
 ·simp [Sub,lk,rmL,intL]
 ·obtain ⟨i,v⟩:=x
  simp only at hi ⊢
  by_cases hlt:i<l.length
  ·have hsn:=Ahk k l hlt
   have hll:(rmL k (l.take i)).length=i:=by rw [O6,List.length_take];omega
   (repeat (first|((with_reducible refine rC rfl fun K hK=>?_);simp only [go_sem,seval,↓reduceIte,show (i:Int)<(l.length:Int) by omega,Int.toNat_natCast,Int.natCast_nonneg,Ac l i hlt,hk,hll,Bt,hsn,show i+1≤1099511627776 by omega,show (i+1)*8≤140737488355328 by omega,wid ((i:Int)+1) (by omega) (by omega)];refine hK _ _ _ ?_;clear hK K)|refine sT ?_))
   exact ⟨(i+1,v+1),by simp only;omega,by simp only;omega,by simp [Sub,lk]⟩
  ·(repeat (first|((with_reducible refine rC rfl fun K hK=>?_);simp only [go_sem,seval,↓reduceIte,show ¬ (i:Int)<(l.length:Int) by omega];refine hK _ _ _ ?_;clear hK K)|refine sT ?_))
   refine rt1 ?_
   rw [List.take_of_length_le (by omega)]
end Go.Proofs.YtapdekacpecgiaaGreat
