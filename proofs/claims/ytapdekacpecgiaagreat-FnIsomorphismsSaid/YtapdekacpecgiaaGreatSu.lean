import Derived.Test.YtapdekacpecgiaaGreatDw
import Derived.Test.YtapdekacpecgiaaGreatKa
import Derived.Test.YtapdekacpecgiaaGreatKh
namespace Go.Proofs.YtapdekacpecgiaaGreat
open Go.RowKit
set_option linter.unusedSimpArgs false
set_option linter.unusedVariables false
set_option linter.unusedSectionVars false
set_option maxRecDepth 20000
set_option maxHeartbeats 1000000
theorem Ac5 (e:TypeId) (k h:Nat) (l:List T):T.size (.win e k h l)=1:=rfl
theorem Aap (e:TypeId) (k h:Nat) (l:List T):T.noOwn (.win e k h l)=false:=rfl
theorem V1 (e:TypeId) (k h:Nat) (l:List T):T.refFree (.win e k h l)=T.refFreeL l:=rfl
theorem Ad4 (e:TypeId) (k h:Nat) (l:List T):T.pure (.win e k h l)=false:=rfl
theorem Abx (e:TypeId) (k h:Nat) (l:List T):T.solid (.win e k h l)=true:=rfl
theorem Z3 (e:TypeId) (k h:Nat) (l:List T):T.plain (.win e k h l)=false:=rfl
theorem Acc (e:TypeId) (k h:Nat) (l:List T):T.isAgg (.win e k h l)=false:=rfl
theorem Yp (e:TypeId) (k h:Nat) (l:List T):T.scalar (.win e k h l)=false:=rfl
theorem Yt (e:TypeId) (k h:Nat) (l:List T):T.isNode (.win e k h l)=true:=rfl
theorem Agq (e:TypeId) (k h:Nat) (l:List T):T.noF (.win e k h l)=T.noFL l:=by simp [T.noF]
theorem Jr (e:TypeId) (k h:Nat) (l:List T):T.freeze (.win e k h l)=.sl false e (((T.freezeL l).take h).drop k):=rfl
theorem Ady (e:TypeId) (k h:Nat) (l:List T):T.kids (.win e k h l)=l:=rfl
theorem Wz (s j:Nat) (p:List Nat) (e:TypeId) (k h:Nat) (l:List T):T.borrow s j p (.win e k h l)=.ref s j p:=rfl
theorem Xl (e:TypeId) (k h:Nat) (l:List T) (c:T→Rd):resolve (.win e k h l) c=.fail:=rfl
attribute [go_sem ↓] Ac5 Aap V1 Ad4 Abx Z3 Acc Yp Yt Agq Jr Ady Wz
attribute [go_sem] Xl
theorem AWP.weak {C:Ctx} {n:Nat} {Q:Exit→Env→Prop} {env:Env} {c:Code} {t k:Nat} {y y':T} (hl:lk env t=some ⟨k,.val y⟩) (hle:∀ X s p cs,CR X s p y cs→CR X s p y' cs) (hno:y'.noOwn=true) (hag:y'.isAgg=y.isAgg) (h:AWP C n c Q ((t,⟨k,.val y'⟩)::env)):AWP C n c Q env:=fun C1 hE a w hF=>by
 obtain ⟨hd,hn,κ,V,hI,hV⟩:=hF
 obtain ⟨h1,cs,h2,h3⟩:=hI.val _ _ _ hl
 exact h C1 hE a w ⟨hd,hn,κ,_,hI.bind t k y' (V t) (by rw [hl];exact Nat.le_refl _) hno t ⟨cs,h2.trans (C8 hag.symm cs),hle _ _ _ _ h3⟩,fun t' ht=>by
  by_cases e:t'=t
  ·subst e;rw [B6];exact hV t' ht
  ·rw [As _ _ _ _ e];exact hV t' ht⟩
theorem Zh (m:Int) (X:Cx) (s:Nat) (p:List Nat) (cs:List Value) (h:CR X s p (.fptr (.agg [.int .i64 m,.nil])) cs):CR X s p (.fptr (.agg [.int .i64 m,.sl false 27 (rowsF [])])) cs:=by
 simp only [CR,CRL,T.size,T.sizeL,T.pure,T.pureL] at h ⊢
 obtain ⟨b,off,cur,e,fz,h1,h2,h3,h4,h5,h6,h7,h8⟩:=h
 exact ⟨b,off,cur,e,fz,h1,h2,h3,h4,rfl,h6,⟨none,0,h7,Nat.le_refl _,Nat.zero_le _,fun t ht=>(by cases ht),rfl,fun h=>absurd rfl h⟩,h8⟩
def PlT (R:T) (m:Int) (t:List (List Int)):Prop:=R=(.agg [.int .i64 m,.sl true 27 (rowsO t)])∨∃ k h L,k≤h∧h≤L.length∧L.length≤1000∧t=(L.take h).drop k∧R=.agg [.int .i64 m,.win 27 k h (rowsO L)]
theorem Aan {k h:Nat} {L:List (List Int)} (h1:k≤h) (h2:h≤L.length):((L.take h).drop k).length=h-k:=by rw [List.length_drop,List.length_take];omega
theorem Sv (k h:Nat) (L:List (List Int)):((rowsF L).take h).drop k=rowsF ((L.take h).drop k):=by simp [rowsF]
theorem Ec (m:Int) (ll:List (List Int)):AFn Tryz.prog 74 [.int .i64 m,.sl true 27 (rowsO ll)] (.agg [.int .i64 m,.sl true 27 (rowsO ll)]):=by
 refine fO Tryz.func74 Tryz.ntmps74 (by rw [Tryz.results74]) fun C hP hM hC=>?_
 (repeat (first|((with_reducible refine rC rfl fun K hK=>?_);simp only [go_sem,seval,↓reduceIte];refine hK _ _ _ ?_;clear hK K)|refine sT ?_))
 refine rt1 ?_
 rfl
def Shp (t:List (List Int)):Prop:=t.length≤1000∧∀ x∈t,x.length≤1000∧1≤x.length
theorem Shp.row {t:List (List Int)} (h:Shp t) {i:Nat} (hi:i<t.length):(t.getD i []).length≤1000∧1≤(t.getD i []).length:=by
 rw [List.getD_eq_getElem?_getD,List.getElem?_eq_getElem hi]
 exact h.2 _ (List.getElem_mem _)
theorem Shp.sm {t:List (List Int)} (h:Shp t):Sm t:=⟨by have:=h.1;omega,fun i=>by
 by_cases hi:i<t.length
 ·have:=(h.row hi).1;omega
 ·rw [List.getD_eq_getElem?_getD,List.getElem?_eq_none (by omega)];exact Nat.zero_le _⟩
theorem Shp.set {t:List (List Int)} (h:Shp t) (i j:Nat) (v:Int):Shp (t.set i ((t.getD i []).set j v)):=by
 by_cases hi:i<t.length
 ·refine ⟨by rw [List.length_set];exact h.1,fun x hx=>?_⟩
  rcases List.mem_or_eq_of_mem_set hx with h1|h1
  ·exact h.2 x h1
  ·rw [h1,List.length_set];exact h.row hi
 ·rw [List.set_eq_of_length_le (by omega)];exact h
theorem Shp.win {t:List (List Int)} (h:Shp t) (a b:Nat):Shp ((t.take b).drop a):=⟨by have:=h.1;simp;omega,fun x hx=>h.2 x (List.mem_of_mem_take (List.mem_of_mem_drop hx))⟩
section
variable {a:Option Addr} {c:Nat} {l:List Int} {s:Int×Int} {m:Int} {t:List (List Int)}
end
end Go.Proofs.YtapdekacpecgiaaGreat
