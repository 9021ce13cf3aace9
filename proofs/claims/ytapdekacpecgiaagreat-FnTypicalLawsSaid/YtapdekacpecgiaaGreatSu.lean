import Derived.Test.YtapdekacpecgiaaGreatDw
import Derived.Test.YtapdekacpecgiaaGreatKa
import Derived.Test.YtapdekacpecgiaaGreatKh
namespace Go.Proofs.YtapdekacpecgiaaGreat
open Go.RowKit
set_option linter.unusedSimpArgs false
set_option linter.unusedVariables false
set_option linter.unusedSectionVars false
set_option maxRecDepth 20000
set_option maxHeartbeats 1000000
theorem Ac7 (e:TypeId) (k h:Nat) (l:List T):T.size (.win e k h l)=1:=rfl
theorem Aa4 (e:TypeId) (k h:Nat) (l:List T):T.noOwn (.win e k h l)=false:=rfl
theorem Vd (e:TypeId) (k h:Nat) (l:List T):T.refFree (.win e k h l)=T.refFreeL l:=rfl
theorem Adu (e:TypeId) (k h:Nat) (l:List T):T.pure (.win e k h l)=false:=rfl
theorem Abe (e:TypeId) (k h:Nat) (l:List T):T.solid (.win e k h l)=true:=rfl
theorem Aak (e:TypeId) (k h:Nat) (l:List T):T.plain (.win e k h l)=false:=rfl
theorem Aap (e:TypeId) (k h:Nat) (l:List T):T.isAgg (.win e k h l)=false:=rfl
theorem Wk (e:TypeId) (k h:Nat) (l:List T):T.scalar (.win e k h l)=false:=rfl
theorem W2 (e:TypeId) (k h:Nat) (l:List T):T.isNode (.win e k h l)=true:=rfl
theorem Agr (e:TypeId) (k h:Nat) (l:List T):T.noF (.win e k h l)=T.noFL l:=by simp [T.noF]
theorem W4 (e:TypeId) (k h:Nat) (l:List T):T.freeze (.win e k h l)=.sl false e (((T.freezeL l).take h).drop k):=rfl
theorem Adw (e:TypeId) (k h:Nat) (l:List T):T.kids (.win e k h l)=l:=rfl
theorem Wn (s j:Nat) (p:List Nat) (e:TypeId) (k h:Nat) (l:List T):T.borrow s j p (.win e k h l)=.ref s j p:=rfl
theorem W7 (e:TypeId) (k h:Nat) (l:List T) (c:T→Rd):resolve (.win e k h l) c=.fail:=rfl
attribute [go_sem ↓] Ac7 Aa4 Vd Adu Abe Aak Aap Wk W2 Agr W4 Adw Wn
attribute [go_sem] W7
theorem No (m:Int) (ll:List (List Int)):AFn Tryz.prog 74 [.int .i64 m,.sl true 27 (rowsO ll)] (.agg [.int .i64 m,.sl true 27 (rowsO ll)]):=by
 refine fO Tryz.func74 Tryz.ntmps74 (by rw [Tryz.results74]) fun C hP hM hC=>?_
 (repeat (first|((with_reducible refine rC rfl fun K hK=>?_);simp only [go_sem,seval,↓reduceIte];refine hK _ _ _ ?_;clear hK K)|refine sT ?_))
 refine rt1 ?_
 rfl
def Shp (t:List (List Int)):Prop:=t.length≤1000∧∀ x∈t,x.length≤1000∧1≤x.length
theorem Shp.row {t:List (List Int)} (h:Shp t) {i:Nat} (hi:i<t.length):(t.getD i []).length≤1000∧1≤(t.getD i []).length:=by
 rw [List.getD_eq_getElem?_getD,List.getElem?_eq_getElem hi]
 exact h.2 _ (List.getElem_mem _)
theorem Shp.sm {t:List (List Int)} (h:Shp t):Sm t:=⟨by have:=h.1;omega,fun i=>by
 by_cases hi:i<t.length
 ·have:=(h.row hi).1;omega
 ·rw [List.getD_eq_getElem?_getD,List.getElem?_eq_none (by omega)];exact Nat.zero_le _⟩
theorem Shp.set {t:List (List Int)} (h:Shp t) (i j:Nat) (v:Int):Shp (t.set i ((t.getD i []).set j v)):=by
 by_cases hi:i<t.length
 ·refine ⟨by rw [List.length_set];exact h.1,fun x hx=>?_⟩
  rcases List.mem_or_eq_of_mem_set hx with h1|h1
  ·exact h.2 x h1
  ·rw [h1,List.length_set];exact h.row hi
 ·rw [List.set_eq_of_length_le (by omega)];exact h
theorem Shp.win {t:List (List Int)} (h:Shp t) (a b:Nat):Shp ((t.take b).drop a):=⟨by have:=h.1;simp;omega,fun x hx=>h.2 x (List.mem_of_mem_take (List.mem_of_mem_drop hx))⟩
section
variable {a:Option Addr} {c:Nat} {l:List Int} {s:Int×Int} {m:Int} {t:List (List Int)}
end
end Go.Proofs.YtapdekacpecgiaaGreat
