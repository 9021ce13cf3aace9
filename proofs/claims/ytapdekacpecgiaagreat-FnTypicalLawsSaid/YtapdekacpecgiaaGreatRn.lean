import Derived.Test.YtapdekacpecgiaaGreatKa
namespace Go.Proofs.YtapdekacpecgiaaGreat
open Go.RowKit
set_option linter.unusedSimpArgs false
set_option linter.unusedVariables false
set_option linter.unusedSectionVars false
set_option maxRecDepth 20000
set_option maxHeartbeats 1000000
theorem Pz (l:List Int) (k:Nat):(intL l).take k=intL (l.take k):=by simp [intL]
theorem Adq {m:Int} {n k i:Nat} {ll:List (List Int)} (hl:Pl m n ll) (hi:i+k≤n):(ll.getD i []).take k=tab k (pc ll i):=by
 rcases Nat.eq_zero_or_pos k with e|e
 ·subst e;rfl
 ·have hr:=hl.row i (by omega)
  exact Alh (by rw [List.length_take];omega) (fun j hj=>by
   simp only [List.getD_eq_getElem?_getD,List.getElem?_take_of_lt hj];rfl)
theorem Eb (l:List Int) (hl:l.length≤1000000000):AFn Tryz.prog 103 [.sl false 2 (intL l)] (.sl true 2 (intL l)):=by
 refine fO Tryz.func103 Tryz.ntmps103 (by rw [Tryz.results103]) fun C hP hM hC=>?_
 (repeat (first|((with_reducible refine rC rfl fun K hK=>?_);simp only [go_sem,seval,↓reduceIte,O3,Nat.zero_add,List.length_nil,show l.length≤1099511627776 by omega,show l.length*8≤140737488355328 by omega];refine hK _ _ _ ?_;clear hK K)|refine sT ?_))
 refine rt1 ?_
 rfl
theorem Jg (l:List Int) (hl:l.length≤1000000000):AFn Tryz.prog 100 [.sl false 2 (intL l)] (.sl true 2 (intL l)):=by
 refine fO Tryz.func100 Tryz.ntmps100 (by rw [Tryz.results100]) fun C hP hM hC=>?_
 (repeat (first|((with_reducible refine rC rfl fun K hK=>?_);simp only [go_sem,seval,↓reduceIte,O3,Nat.zero_add,List.length_nil,show l.length≤1099511627776 by omega,show l.length*8≤140737488355328 by omega];refine hK _ _ _ ?_;clear hK K)|refine sT ?_))
 refine rt1 ?_
 rfl
theorem Sh (m:Int) (ll:List (List Int)) (n k:Nat) (hl:Pl m n ll) (hk:k+1≤n) (hn:n≤1000):AFn Tryz.prog 105 [.sl false 27 (rowsF ll),.int .i64 k] (.sl true 27 (rowsO (tab2 (k+1) (pc ll)))):=by
 refine fO Tryz.func105 Tryz.ntmps105 (by rw [Tryz.results105]) fun C hP hM hC=>?_
 (repeat (first|((with_reducible refine rC rfl fun K hK=>?_);simp only [go_sem,seval,↓reduceIte];refine hK _ _ _ ?_;clear hK K)|refine sT ?_))
 refine AWP.loop (fun w:Nat×Nat=>[(6,⟨0,.val (.int .i64 w.1)⟩),(5,⟨w.2,.own (.sl true 27 (rowsO (tabR (k+1) w.1 (pc ll))))⟩),(0,⟨0,.val (.sl false 27 (rowsF ll))⟩),(1,⟨0,.val (.int .i64 k)⟩)]) (fun w=>w.1≤k+1) (fun w=>k+1-w.1) (0,1) (Nat.zero_le _) (fun i=>rfl) ?_ (fun w hw=>?_)
 ·simp [Sub,lk,Iy,rowsO]
 ·obtain ⟨i,v⟩:=w
  simp only at hw ⊢
  by_cases hi:i≤k
  ·have u1:IntKind.i64.wrap ((k:Int)-(i:Int))=((k-i:Nat):Int):=by rw [wid _ (by omega) (by omega)];omega
   have u2:IntKind.i64.wrap (((k-i:Nat):Int)+1)=((k+1-i:Nat):Int):=by rw [wid _ (by omega) (by omega)];omega
   have hs:=Fp (k+1) i (pc ll)
   have hr:=hl.row i (by omega)
   have ht:=Adq hl (show i+(k+1-i)≤n by omega)
   have hO:=Eb (tab (k+1-i) (pc ll i)) (by rw [Ae];omega)
   (repeat (first|((with_reducible refine rC rfl fun K hK=>?_);simp only [go_sem,seval,↓reduceIte,show (i:Int)≤(k:Int) by omega,Aa,hl.len,show (i:Int)<(n:Int) by omega,Ad ll i (by rw [hl.len];omega),Int.toNat_natCast,Int.natCast_nonneg,Int.le_refl,Int.toNat_zero,List.drop_zero,u1,u2,hr,show ((k+1-i:Nat):Int)≤((n-i:Nat):Int) by omega,Pz,ht,En,Em,hs,show i+1≤1099511627776 by omega,show (i+1)*24≤140737488355328 by omega,wid ((i:Int)+1) (by omega) (by omega)];(first|refine hK _ _ _ ?_|refine ⟨_,hO,hK _ _ _ ?_⟩);clear hK K)|refine sT ?_))
   exact ⟨(i+1,v+1),by simp only;omega,by simp only;omega,by simp [Sub,lk]⟩
  ·(repeat (first|((with_reducible refine rC rfl fun K hK=>?_);simp only [go_sem,seval,↓reduceIte,show ¬ (i:Int)≤(k:Int) by omega];refine hK _ _ _ ?_;clear hK K)|refine sT ?_))
   refine rt1 ?_
   rw [show i=k+1 by omega];rfl
def eqB (la lb:List Int):Bool:=decide (la=lb)
theorem Ah4 {la lb:List Int} (h:la.length=lb.length) (h2:∀ i,i<la.length→la.getD i 0=lb.getD i 0):la=lb:=by
 apply List.ext_getElem h
 intro i g1 g2
 have:=h2 i g1
 rw [List.getD_eq_getElem?_getD,List.getD_eq_getElem?_getD,List.getElem?_eq_getElem g1,List.getElem?_eq_getElem g2] at this
 exact this
theorem Hd (la lb:List Int) (h:la.length=lb.length) (hl:la.length≤1000000000):AFn Tryz.prog 249 [.sl false 2 (intL la),.sl false 2 (intL lb)] (.bool (eqB la lb)):=by
 refine fO Tryz.func249 Tryz.ntmps249 (by rw [Tryz.results249]) fun C hP hM hC=>?_
 (repeat (first|((with_reducible refine rC rfl fun K hK=>?_);simp only [go_sem,seval,↓reduceIte,show ((la.length:Int) != (lb.length:Int))=false by rw [h];simp];refine hK _ _ _ ?_;clear hK K)|refine sT ?_))
 refine AWP.loop (fun i:Nat=>[(13,⟨0,.val (.int .i64 i)⟩),(12,⟨0,.val (.int .i64 la.length)⟩),(0,⟨0,.val (.sl false 2 (intL la))⟩),(1,⟨0,.val (.sl false 2 (intL lb))⟩)]) (fun i=>i≤la.length∧∀ j,j<i→la.getD j 0=lb.getD j 0) (fun i=>la.length-i) 0 ⟨Nat.zero_le _,fun j hj=>by omega⟩ (fun i=>rfl) ?_ (fun i hi=>?_)
 ·simp [Sub,lk]
 ·by_cases hlt:i<la.length
  ·by_cases hx:la.getD i 0=lb.getD i 0
   ·(repeat (first|((with_reducible refine rC rfl fun K hK=>?_);simp only [go_sem,seval,↓reduceIte,show (i:Int)<(la.length:Int) by omega,show (i:Int)<(lb.length:Int) by omega,Ac la i hlt,Ac lb i (by omega),Int.toNat_natCast,Int.natCast_nonneg,show (la.getD i 0 != lb.getD i 0)=false by rw [hx];simp,wid ((i:Int)+1) (by omega) (by omega)];refine hK _ _ _ ?_;clear hK K)|refine sT ?_))
    refine ⟨i+1,⟨hlt,fun j hj=>?_⟩,by omega,by simp [Sub,lk]⟩
    by_cases e:j=i
    ·rw [e];exact hx
    ·exact hi.2 j (by omega)
   ·(repeat (first|((with_reducible refine rC rfl fun K hK=>?_);simp only [go_sem,seval,↓reduceIte,show (i:Int)<(la.length:Int) by omega,show (i:Int)<(lb.length:Int) by omega,Ac la i hlt,Ac lb i (by omega),Int.toNat_natCast,Int.natCast_nonneg,show (la.getD i 0 != lb.getD i 0)=true by rw [bne_iff_ne];exact hx];refine hK _ _ _ ?_;clear hK K)|refine sT ?_))
    refine rt1 ?_
    rw [eqB,decide_eq_false (fun e=>hx (by rw [e]))]
  ·(repeat (first|((with_reducible refine rC rfl fun K hK=>?_);simp only [go_sem,seval,↓reduceIte,show ¬ (i:Int)<(la.length:Int) by omega];refine hK _ _ _ ?_;clear hK K)|refine sT ?_))
   refine rt1 ?_
   rw [eqB,decide_eq_true (Ah4 h (fun j hj=>hi.2 j (by omega)))]
end Go.Proofs.YtapdekacpecgiaaGreat
