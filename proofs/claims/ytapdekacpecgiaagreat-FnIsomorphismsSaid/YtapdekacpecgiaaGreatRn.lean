import Derived.Test.YtapdekacpecgiaaGreatKa
namespace Go.Proofs.YtapdekacpecgiaaGreat
open Go.RowKit
set_option linter.unusedSimpArgs false
set_option linter.unusedVariables false
set_option linter.unusedSectionVars false
set_option maxRecDepth 20000
set_option maxHeartbeats 1000000
theorem Aa9 (l:List Int) (k:Nat):(intL l).take k=intL (l.take k):=by simp [intL]
theorem Alf {m:Int} {n k i:Nat} {ll:List (List Int)} (hl:Pl m n ll) (hi:i+k≤n):(ll.getD i []).take k=tab k (pc ll i):=by
 rcases Nat.eq_zero_or_pos k with e|e
 ·subst e;rfl
 ·have hr:=hl.row i (by omega)
  exact Ak0 (by rw [List.length_take];omega) (fun j hj=>by
   simp only [List.getD_eq_getElem?_getD,List.getElem?_take_of_lt hj];rfl)
theorem Co (l:List Int) (hl:l.length≤1000000000):AFn Tryz.prog 103 [.sl false 2 (intL l)] (.sl true 2 (intL l)):=by
 refine fO Tryz.func103 Tryz.ntmps103 (by rw [Tryz.results103]) fun C hP hM hC=>?_
 (repeat (first|((with_reducible refine rC rfl fun K hK=>?_);simp only [go_sem,seval,↓reduceIte,P9,Nat.zero_add,List.length_nil,show l.length≤1099511627776 by omega,show l.length*8≤140737488355328 by omega];refine hK _ _ _ ?_;clear hK K)|refine sT ?_))
 refine rt1 ?_
 rfl
theorem Fl (l:List Int) (hl:l.length≤1000000000):AFn Tryz.prog 100 [.sl false 2 (intL l)] (.sl true 2 (intL l)):=by
 refine fO Tryz.func100 Tryz.ntmps100 (by rw [Tryz.results100]) fun C hP hM hC=>?_
 (repeat (first|((with_reducible refine rC rfl fun K hK=>?_);simp only [go_sem,seval,↓reduceIte,P9,Nat.zero_add,List.length_nil,show l.length≤1099511627776 by omega,show l.length*8≤140737488355328 by omega];refine hK _ _ _ ?_;clear hK K)|refine sT ?_))
 refine rt1 ?_
 rfl
theorem Dc (m:Int) (ll:List (List Int)) (n k:Nat) (hl:Pl m n ll) (hk:k+1≤n) (hn:n≤1000):AFn Tryz.prog 105 [.sl false 27 (rowsF ll),.int .i64 k] (.sl true 27 (rowsO (tab2 (k+1) (pc ll)))):=by
 refine fO Tryz.func105 Tryz.ntmps105 (by rw [Tryz.results105]) fun C hP hM hC=>?_
 (repeat (first|((with_reducible refine rC rfl fun K hK=>?_);simp only [go_sem,seval,↓reduceIte];refine hK _ _ _ ?_;clear hK K)|refine sT ?_))
 refine AWP.loop (fun w:Nat×Nat=>[(6,⟨0,.val (.int .i64 w.1)⟩),(5,⟨w.2,.own (.sl true 27 (rowsO (tabR (k+1) w.1 (pc ll))))⟩),(0,⟨0,.val (.sl false 27 (rowsF ll))⟩),(1,⟨0,.val (.int .i64 k)⟩)]) (fun w=>w.1≤k+1) (fun w=>k+1-w.1) (0,1) (Nat.zero_le _) (fun i=>rfl) ?_ (fun w hw=>?_)
 ·simp [Sub,lk,I9,rowsO]
 ·obtain ⟨i,v⟩:=w
  simp only at hw ⊢
  by_cases hi:i≤k
  ·have u1:IntKind.i64.wrap ((k:Int)-(i:Int))=((k-i:Nat):Int):=by rw [wid _ (by omega) (by omega)];omega
   have u2:IntKind.i64.wrap (((k-i:Nat):Int)+1)=((k+1-i:Nat):Int):=by rw [wid _ (by omega) (by omega)];omega
   have hs:=F8 (k+1) i (pc ll)
   have hr:=hl.row i (by omega)
   have ht:=Alf hl (show i+(k+1-i)≤n by omega)
   have hO:=Co (tab (k+1-i) (pc ll i)) (by rw [Ah];omega)
   (repeat (first|((with_reducible refine rC rfl fun K hK=>?_);simp only [go_sem,seval,↓reduceIte,show (i:Int)≤(k:Int) by omega,Ab,hl.len,show (i:Int)<(n:Int) by omega,Ak ll i (by rw [hl.len];omega),Int.toNat_natCast,Int.natCast_nonneg,Int.le_refl,Int.toNat_zero,List.drop_zero,u1,u2,hr,show ((k+1-i:Nat):Int)≤((n-i:Nat):Int) by omega,Aa9,ht,Ex,D5,hs,show i+1≤1099511627776 by omega,show (i+1)*24≤140737488355328 by omega,wid ((i:Int)+1) (by omega) (by omega)];(first|refine hK _ _ _ ?_|refine ⟨_,hO,hK _ _ _ ?_⟩);clear hK K)|refine sT ?_))
   exact ⟨(i+1,v+1),by simp only;omega,by simp only;omega,by simp [Sub,lk]⟩
  ·(repeat (first|((with_reducible refine rC rfl fun K hK=>?_);simp only [go_sem,seval,↓reduceIte,show ¬ (i:Int)≤(k:Int) by omega];refine hK _ _ _ ?_;clear hK K)|refine sT ?_))
   refine rt1 ?_
   rw [show i=k+1 by omega];rfl
def eqB (la lb:List Int):Bool:=decide (la=lb)
theorem Uf {la lb:List Int} (h:la.length=lb.length) (h2:∀ i,i<la.length→la.getD i 0=lb.getD i 0):la=lb:=by
 apply List.ext_getElem h
 intro i g1 g2
 have:=h2 i g1
 rw [List.getD_eq_getElem?_getD,List.getD_eq_getElem?_getD,List.getElem?_eq_getElem g1,List.getElem?_eq_getElem g2] at this
 exact this
theorem Hr (la lb:List Int) (h:la.length=lb.length) (hl:la.length≤1000000000):AFn Tryz.prog 249 [.sl false 2 (intL la),.sl false 2 (intL lb)] (.bool (eqB la lb)):=by
 refine fO Tryz.func249 Tryz.ntmps249 (by rw [Tryz.results249]) fun C hP hM hC=>?_
 (repeat (first|((with_reducible refine rC rfl fun K hK=>?_);simp only [go_sem,seval,↓reduceIte,show ((la.length:Int) != (lb.length:Int))=false by rw [h];simp];refine hK _ _ _ ?_;clear hK K)|refine sT ?_))
 refine AWP.loop (fun i:Nat=>[(13,⟨0,.val (.int .i64 i)⟩),(12,⟨0,.val (.int .i64 la.length)⟩),(0,⟨0,.val (.sl false 2 (intL la))⟩),(1,⟨0,.val (.sl false 2 (intL lb))⟩)]) (fun i=>i≤la.length∧∀ j,j<i→la.getD j 0=lb.getD j 0) (fun i=>la.length-i) 0 ⟨Nat.zero_le _,fun j hj=>by omega⟩ (fun i=>rfl) ?_ (fun i hi=>?_)
 ·simp [Sub,lk]
 ·by_cases hlt:i<la.length
  ·by_cases hx:la.getD i 0=lb.getD i 0
   ·(repeat (first|((with_reducible refine rC rfl fun K hK=>?_);simp only [go_sem,seval,↓reduceIte,show (i:Int)<(la.length:Int) by omega,show (i:Int)<(lb.length:Int) by omega,Ac la i hlt,Ac lb i (by omega),Int.toNat_natCast,Int.natCast_nonneg,show (la.getD i 0 != lb.getD i 0)=false by rw [hx];simp,wid ((i:Int)+1) (by omega) (by omega)];refine hK _ _ _ ?_;clear hK K)|refine sT ?_))
    refine ⟨i+1,⟨hlt,fun j hj=>?_⟩,by omega,by simp [Sub,lk]⟩
    by_cases e:j=i
    ·rw [e];exact hx
    ·exact hi.2 j (by omega)
   ·(repeat (first|((with_reducible refine rC rfl fun K hK=>?_);simp only [go_sem,seval,↓reduceIte,show (i:Int)<(la.length:Int) by omega,show (i:Int)<(lb.length:Int) by omega,Ac la i hlt,Ac lb i (by omega),Int.toNat_natCast,Int.natCast_nonneg,show (la.getD i 0 != lb.getD i 0)=true by rw [bne_iff_ne];exact hx];refine hK _ _ _ ?_;clear hK K)|refine sT ?_))
    refine rt1 ?_
    rw [eqB,decide_eq_false (fun e=>hx (by rw [e]))]
  ·(repeat (first|((with_reducible refine rC rfl fun K hK=>?_);simp only [go_sem,seval,↓reduceIte,show ¬ (i:Int)<(la.length:Int) by omega];refine hK _ _ _ ?_;clear hK K)|refine sT ?_))
   refine rt1 ?_
   rw [eqB,decide_eq_true (Uf h (fun j hj=>hi.2 j (by omega)))]
theorem tdivN2 (x y:Nat):(x:Int).tdiv (y:Int)=((x/y:Nat):Int):=by first|rfl|simp
def szM (m k most:Nat):Nat:=if m^k≤most then m^k else most+1
theorem Sq {m j k:Nat} (hm:2≤m) (h:j≤k):m^j≤m^k:=Nat.pow_le_pow_right (by omega) h
theorem Mc (m k most:Nat) (hm:2≤m) (hm2:m≤10000) (hk:k≤1000) (h1:1≤most) (h2:most≤1000000000000):AFn Tryz.prog 229 [.int .i64 m,.int .i64 k,.int .i64 most] (.int .i64 (szM m k most)):=by
 refine fO Tryz.func229 Tryz.ntmps229 (by rw [Tryz.results229]) fun C hP hM hC=>?_
 (repeat (first|((with_reducible refine rC rfl fun K hK=>?_);simp only [go_sem,seval,↓reduceIte];refine hK _ _ _ ?_;clear hK K)|refine sT ?_))
 refine AWP.loop (fun j:Nat=>[(9,⟨0,.val (.int .i64 j)⟩),(8,⟨0,.val (.int .i64 k)⟩),(0,⟨0,.val (.int .i64 m)⟩),(2,⟨0,.val (.int .i64 most)⟩),(7,⟨0,.val (.int .i64 (m^j:Nat))⟩)]) (fun j=>j≤k∧m^j≤most) (fun j=>k-j) 0 ⟨Nat.zero_le _,by rw [Nat.pow_zero];exact h1⟩ (fun i=>rfl) ?_ (fun j hj=>?_)
 ·simp [Sub,lk]
 ·by_cases hlt:j<k
  ·have hs:m^j*m=m^(j+1):=(Nat.pow_succ ..).symm
   have hb:m^(j+1)≤1000000000000*10000:=by rw [← hs];exact Nat.mul_le_mul (by omega) hm2
   have hdiv:m^(j+1)≤most↔m^j≤most/m:=by rw [← hs];exact (Nat.le_div_iff_mul_le (by omega)).symm
   have hdl:most/m≤most:=Nat.div_le_self _ _
   have hdl2:((most/m:Nat):Int)≤(most:Int):=Int.ofNat_le.2 hdl
   have hdl3:0≤((most/m:Nat):Int):=Int.natCast_nonneg _
   have hwd:=wid ((most/m:Nat):Int) (by generalize ((most/m:Nat):Int)=X at *;omega) (by generalize ((most/m:Nat):Int)=X at *;omega)
   by_cases hq:m^(j+1)≤most
   ·(repeat (first|((with_reducible refine rC rfl fun K hK=>?_);simp only [go_sem,seval,↓reduceIte,show (j:Int)<(k:Int) by omega,show (m:Int)≠0 by omega,tdivN2,hwd,show ¬ ((m^j:Nat):Int)>((most/m:Nat):Int) from Int.not_lt.2 (Int.ofNat_le.2 (hdiv.1 hq)),← Int.natCast_mul,hs,wid ((m^(j+1):Nat):Int) (by omega) (by omega),wid ((j:Int)+1) (by omega) (by omega)];refine hK _ _ _ ?_;clear hK K)|refine sT ?_))
    exact ⟨j+1,⟨hlt,hq⟩,by omega,by simp [Sub,lk]⟩
   ·have hE:szM m k most=most+1:=if_neg (fun h=>hq (Nat.le_trans (Sq hm hlt) h))
    have hgt:((m^j:Nat):Int)>((most/m:Nat):Int):=Int.ofNat_lt.2 (Nat.lt_of_not_le (mt hdiv.2 hq))
    have hmq:((most/m:Nat):Int)≤(most:Int):=Int.ofNat_le.2 hdl
    (repeat (first|((with_reducible refine rC rfl fun K hK=>?_);simp only [go_sem,seval,↓reduceIte,show (j:Int)<(k:Int) by omega,show (m:Int)≠0 by omega,tdivN2,hwd,hgt,wid ((most:Int)+1) (by omega) (by omega)];refine hK _ _ _ ?_;clear hK K)|refine sT ?_))
    refine rt1 ?_
    rw [hE];rfl
  ·have e:j=k:=by omega
   have hE:szM m k most=m^k:=if_pos (by rw [← e];exact hj.2)
   (repeat (first|((with_reducible refine rC rfl fun K hK=>?_);simp only [go_sem,seval,↓reduceIte,show ¬ (j:Int)<(k:Int) by omega];refine hK _ _ _ ?_;clear hK K)|refine sT ?_))
   refine rt1 ?_
   rw [hE,e]
end Go.Proofs.YtapdekacpecgiaaGreat
