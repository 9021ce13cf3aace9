import Derived.Test.YtapdekacpecgiaaGreatIg
import Derived.Test.YtapdekacpecgiaaGreatQd
import Derived.Test.YtapdekacpecgiaaGreatVz
import Derived.Test.YtapdekacpecgiaaGreatIh
namespace Go.Proofs.YtapdekacpecgiaaGreat
open Go.RowKit
set_option linter.unusedSimpArgs false
set_option linter.unusedVariables false
set_option linter.unusedSectionVars false
set_option maxRecDepth 20000
set_option maxHeartbeats 1000000
def stB (M K:Nat) (tf tg:Nat→Nat→Int) (x:List Int):Bool:=hmB (M:Int) (K+1) tf tg (0::x)
def stT (M:Nat):Option (List Int)→T
 | none=>(.agg [.box 29 (.agg [.int .i64 0,.nil]),.box 4 (.bool false)])
 | some h=>(.agg [.box 29 (.agg [.int .i64 (M:Int),.sl true 2 (intL (0::h))]),.box 4 (.bool true)])
theorem Eu (M K : Nat) (lf lg : List (List Int)) (x : List Int) (hm : 1 < M) (hm2 : M ≤ 10000) (hK : 1 ≤ K) (hK2 : K ≤ 900) (hf : Pl (M : Int) (K + 1) lf) (hg : Pl (M : Int) (K + 1) lg) (hx : ∀ z ∈ x, 0 ≤ z ∧ z < (M : Int)) (hxl : x.length = K) (b : Bool) (hb : stB M K (pc lf) (pc lg) x = b) :
  AFn Tryz.prog (6000000+165) [stT M none,.agg [.int .i64 (M:Int),.sl true 2 (intL (0::x))],.fptr (.agg [.int .i64 (M:Int),.sl false 27 (rowsF lf)]),.fptr (.agg [.int .i64 (M:Int),.sl false 27 (rowsF lg)]),.addr 3000001 0 [0] 0 [0],.addr 3000001 0 [1] 0 [0]] (.tup [.bool (!b),stT M (if b then some x else none)]):=by
 have hI2:=Ej (M:Int) lf lg (0::x) (K+1) (by omega) (by omega) hf hg (fun z hz=>by
  rcases List.mem_cons.1 hz with e|e
  ·omega
  ·exact hx z e) (by simp [hxl]) (by omega) (by omega)
 rw [stB] at hb
 rw [hb] at hI2
 cases b with
 | false=>
  simp only [stT,Bool.false_eq_true,if_false]
  refine (K4 (by decide)).2 (AFk.of' (tr:=6) ttOk Tryz.func165 Tryz.ntmps165 (by rw [Tryz.results165]) (by rfl) (by rfl) (by simp) (by simp) (by decide) (by rfl) (by rfl) (by rfl) (by simp only [go_sem,List.cons_append,List.nil_append,Nat.reduceAdd,↓reduceIte,Bool.false_eq_true];rfl) mixed (fun C hP hM hC=>?_))
  refine AWP.follows 4 rfl ?_
  (repeat (first|((with_reducible refine rC rfl fun K hK=>?_);simp only [go_sem,seval,↓reduceIte];(first|refine hK _ _ _ ?_|refine ⟨_,hI2,hK _ _ _ ?_⟩);clear hK K)|refine sT ?_))
  refine AWP.ret (Hc ?_)
  exact ⟨⟨_,rfl⟩,0,rfl,.inl rfl⟩
 | true=>
  simp only [stT,if_true]
  refine (K4 (by decide)).2 (AFk.of' (tr:=6) ttOk Tryz.func165 Tryz.ntmps165 (by rw [Tryz.results165]) (by rfl) (by rfl) (by simp) (by simp) (by decide) (by rfl) (by rfl) (by simp [T.noF,T.noFL,Dm]) (by simp only [go_sem,List.cons_append,List.nil_append,Nat.reduceAdd,↓reduceIte,Bool.false_eq_true];rfl) mixed (fun C hP hM hC=>?_))
  refine AWP.follows 4 rfl ?_
  (repeat (first|((with_reducible refine rC rfl fun K hK=>?_);simp only [go_sem,seval,↓reduceIte];(first|refine hK _ _ _ ?_|refine ⟨_,hI2,hK _ _ _ ?_⟩);clear hK K)|refine sT ?_))
  refine AWP.ret (Hc ?_)
  exact ⟨⟨_,rfl⟩,1,rfl,.inr rfl⟩
set_option maxHeartbeats 4000000 in
theorem P6 (M K : Nat) (lf lg : List (List Int)) (hm : 1 < M) (hm2 : M ≤ 10000) (hK : 1 ≤ K) (hK2 : K ≤ 900) (hf : Pl (M : Int) (K + 1) lf) (hg : Pl (M : Int) (K + 1) lg) : ∀ (d j : Nat) (x : List Int), x.length = K → j + d = K → (∀ z ∈ x, 0 ≤ z ∧ z < (M : Int)) → ∀ r, (al M d (x.take j)).find? (stB M K (pc lf) (pc lg)) = r →
  AFn Tryz.prog (7000000+230) [.sl true 2 (intL (0::x)),stT M none,.int .i64 M,.int .i64 ((j+1:Nat):Int),.fn 165 [.fptr (.agg [.int .i64 (M:Int),.sl false 27 (rowsF lf)]),.fptr (.agg [.int .i64 (M:Int),.sl false 27 (rowsF lg)]),.addr 3000001 0 [0] 0 [0],.addr 3000001 0 [1] 0 [0]]] (.tup [.bool r.isNone,.sl true 2 (intL (cuL M d (x.take j) r)),stT M r]):=by
 intro d
 induction d with
 | zero=>
  intro j x hx hj hb r hr
  have ht:x.take j=x:=List.take_of_length_le (by omega)
  rw [ht,al] at hr
  rw [ht]
  have hcp:=Fl (0::x) (by simp;omega)
  cases hw:stB M K (pc lf) (pc lg) x with
  | false=>
   have hcl:=Eu M K lf lg x hm hm2 hK hK2 hf hg hb hx false hw
   have er:r=none:=by rw [← hr];simp [hw]
   subst er
   simp only [cuL,stT,Option.isNone_none,List.replicate_zero,List.append_nil]
   simp only [Bool.not_false,Bool.false_eq_true,if_false,stT] at hcl
   refine (Ia (by decide)).2 (AFc.of' (tr:=6) (d:=3) ttOk md Tryz.func230 Tryz.ntmps230 (by rw [Tryz.results230]) (by rfl) (by rfl) (by decide) (by decide) (by decide) (by rfl) (by rfl) (by rfl) (by kernel_rfl) (by decide) (by rfl) (by kernel_rfl) (by kernel_rfl) rfl (Bf _) (Bf _) (by rfl) (by rfl) (by rfl) mixed (fun C hP hM hC=>?_))
   (repeat (first|((with_reducible refine rC rfl fun K hK=>?_);simp only [go_sem,seval,↓reduceIte,List.length_cons,show (((j+1:Nat):Int)==((x.length+1:Nat):Int))=true by rw [beq_iff_eq];omega];(first|refine hK _ _ _ ?_|refine ⟨_,hcp,hK _ _ _ ?_⟩|refine ⟨_,hcl,hK _ _ _ ?_⟩);clear hK K)|refine sT ?_))
   refine AWP.ret (En ?_)
   exact ⟨⟨_,rfl⟩,rfl,0,rfl,.inl rfl⟩
  | true=>
   have hcl:=Eu M K lf lg x hm hm2 hK hK2 hf hg hb hx true hw
   have er:r=some x:=by rw [← hr];simp [hw]
   subst er
   simp only [cuL,stT,Option.isNone_some]
   simp only [Bool.not_true,if_true,stT] at hcl
   refine (Ia (by decide)).2 (AFc.of' (tr:=6) (d:=3) ttOk md Tryz.func230 Tryz.ntmps230 (by rw [Tryz.results230]) (by rfl) (by rfl) (by decide) (by decide) (by decide) (by rfl) (by rfl) (by rfl) (by kernel_rfl) (by decide) (by rfl) (by kernel_rfl) (by kernel_rfl) rfl (Bf _) (Bf _) (by rfl) (by rfl) (by simp [T.noF,T.noFL,Dm]) mixed (fun C hP hM hC=>?_))
   (repeat (first|((with_reducible refine rC rfl fun K hK=>?_);simp only [go_sem,seval,↓reduceIte,List.length_cons,show (((j+1:Nat):Int)==((x.length+1:Nat):Int))=true by rw [beq_iff_eq];omega];(first|refine hK _ _ _ ?_|refine ⟨_,hcp,hK _ _ _ ?_⟩|refine ⟨_,hcl,hK _ _ _ ?_⟩);clear hK K)|refine sT ?_))
   refine AWP.ret (En ?_)
   exact ⟨⟨_,rfl⟩,rfl,1,rfl,.inr rfl⟩
 | succ d ih=>
  intro j x hx hj hb r hr
  have hround:∀ k,k<M→∀ r',(al M d (x.take j++[(k:Int)])).find? (stB M K (pc lf) (pc lg))=r'→AFn Tryz.prog (7000000+230) [.sl true 2 (intL (0::(cvY M j d x k).set j (k:Int))),stT M none,.int .i64 M,.int .i64 ((j+1+1:Nat):Int),.fn 165 [.fptr (.agg [.int .i64 (M:Int),.sl false 27 (rowsF lf)]),.fptr (.agg [.int .i64 (M:Int),.sl false 27 (rowsF lg)]),.addr 3000001 0 [0] 0 [0],.addr 3000001 0 [1] 0 [0]]] (.tup [.bool r'.isNone,.sl true 2 (intL (cuL M d (x.take j++[(k:Int)]) r')),stT M r']):=fun k hk r' hr'=>by
   have hy:=Fx (M:=M) (x:=x) (j:=j) (d:=d) (by omega) k
   have hyb:=Aiq (j:=j) (d:=d) hb (Nat.le_of_lt hk) (by omega)
   have hn2:=Gw (M:=M) (x:=x) (j:=j) (d:=d) (by omega) k
   have:=ih (j+1) ((cvY M j d x k).set j (k:Int)) (by rw [List.length_set];omega) (by omega) (fun z hz=>by
    rcases List.mem_or_eq_of_mem_set hz with h|h
    ·exact hyb z h
    ·omega) r' (by rw [hn2.1];exact hr')
   rw [hn2.1] at this
   exact this
  rw [← Zk] at hr
  cases r with
  | none=>
   simp only [cuL,stT,Option.isNone_none]
   refine (Ia (by decide)).2 (AFc.of' (tr:=6) (d:=3) ttOk md Tryz.func230 Tryz.ntmps230 (by rw [Tryz.results230]) (by rfl) (by rfl) (by decide) (by decide) (by decide) (by rfl) (by rfl) (by rfl) (by kernel_rfl) (by decide) (by rfl) (by kernel_rfl) (by kernel_rfl) (by simp [Ft];omega) (Bf _) (Bf _) (by rfl) (by rfl) (by rfl) mixed (fun C hP hM hC=>?_))
   (repeat (first|((with_reducible refine rC rfl fun K hK=>?_);simp only [go_sem,seval,↓reduceIte,List.length_cons,show (((j+1:Nat):Int)==((x.length+1:Nat):Int))=false by rw [beq_eq_false_iff_ne];omega];refine hK _ _ _ ?_;clear hK K)|refine sT ?_))
   refine AWP.loop (fun k:Nat=>[(23,⟨0,.val (.int .i64 k)⟩),(22,⟨0,.val (.int .i64 M)⟩),(1,⟨0,.val (.int .i64 (j+1:Nat))⟩),(2,⟨0,.val (.fn 165 [.fptr (.agg [.int .i64 (M:Int),.sl false 27 (rowsF lf)]),.fptr (.agg [.int .i64 (M:Int),.sl false 27 (rowsF lg)]),.addr 3000001 0 [0] 0 [0],.addr 3000001 0 [1] 0 [0]])⟩),(3,⟨0,.own (.box 29 (.agg [.int .i64 M,.sl true 2 (intL (0::cvY M j d x k))]))⟩),(3000001,⟨0,.own ((.agg [.box 29 (.agg [.int .i64 0,.nil]),.box 4 (.bool false)]))⟩)]) (fun k=>k≤M) (fun k=>M-k) 0 (Nat.zero_le _) (fun k=>rfl) ?_ (fun k hk=>?_)
   ·simp [Sub,lk,cvY]
   ·have hy:=Fx (M:=M) (x:=x) (j:=j) (d:=d) (by omega) k
    by_cases hlt:k<M
    ·have hn2:=Gw (M:=M) (x:=x) (j:=j) (d:=d) (by omega) k
     have hih:=hround k hlt none (Hq M hr k hlt)
     simp only [cuL,stT,Option.isNone_none] at hih
     rw [← hn2.1,hn2.2] at hih
     have hset:(0::cvY M j d x k).set (j+1) (k:Int)=0::(cvY M j d x k).set j (k:Int):=rfl
     have hjl:j+1<(0::cvY M j d x k).length:=by simp;omega
     (repeat (first|((with_reducible refine rC rfl fun K hK=>?_);simp only [go_sem,seval,↓reduceIte,show (k:Int)<(M:Int) by omega,List.length_cons,hy.1,Int.toNat_natCast,Int.natCast_nonneg,Nat.mul_one,show ((j+1:Nat):Int)<((j+d+1+1:Nat):Int) by omega,Ae _ (j+1) hjl,Aa _ (j+1) (Nat.le_of_lt hjl),Ax,hset,show IntKind.i64.wrap (((j+1:Nat):Int)+1)=((j+1+1:Nat):Int) by rw [wid _ (by omega) (by omega)];omega,wid ((k:Int)+1) (by omega) (by omega)];(first|refine hK _ _ _ ?_|refine ⟨_,hih,hK _ _ _ ?_⟩);clear hK K)|refine sT ?_))
     exact ⟨k+1,by omega,by omega,by simp [Sub,lk]⟩
    ·have e:k=M:=by omega
     subst e
     (repeat (first|((with_reducible refine rC rfl fun K hK=>?_);simp only [go_sem,seval,↓reduceIte,show ¬ (k:Int)<(k:Int) by omega];refine hK _ _ _ ?_;clear hK K)|refine sT ?_))
     refine AWP.ret (En ?_)
     obtain ⟨k0,rfl⟩:∃ k0,k=k0+1:=⟨k-1,by omega⟩
     refine ⟨⟨_,rfl⟩,?_,0,rfl,.inl rfl⟩
     simp only [cvY,List.replicate_succ]
     rw [show ((k0+1:Nat):Int)-1=(k0:Int) by omega]
     rfl
  | some h=>
   obtain ⟨k1,hk1,hk2,hk3⟩:=L1 M hr
   obtain ⟨hh1,hh2,hh3⟩:=Gr d _ h (List.mem_of_find?_eq_some hk3)
   simp only [List.length_append,List.length_take,List.length_cons,List.length_nil,Nat.zero_add] at hh1
   have hhl:h.length=K:=by omega
   simp only [cuL,stT,Option.isNone_some]
   refine (Ia (by decide)).2 (AFc.of' (tr:=6) (d:=3) ttOk md Tryz.func230 Tryz.ntmps230 (by rw [Tryz.results230]) (by rfl) (by rfl) (by decide) (by decide) (by decide) (by rfl) (by rfl) (by rfl) (by kernel_rfl) (by decide) (by rfl) (by kernel_rfl) (by kernel_rfl) (by simp [Ft];omega) (Bf _) (Bf _) (by rfl) (by rfl) (by simp [T.noF,T.noFL,Dm]) mixed (fun C hP hM hC=>?_))
   (repeat (first|((with_reducible refine rC rfl fun K hK=>?_);simp only [go_sem,seval,↓reduceIte,List.length_cons,show (((j+1:Nat):Int)==((x.length+1:Nat):Int))=false by rw [beq_eq_false_iff_ne];omega];refine hK _ _ _ ?_;clear hK K)|refine sT ?_))
   refine AWP.loop (fun k:Nat=>[(23,⟨0,.val (.int .i64 k)⟩),(22,⟨0,.val (.int .i64 M)⟩),(1,⟨0,.val (.int .i64 (j+1:Nat))⟩),(2,⟨0,.val (.fn 165 [.fptr (.agg [.int .i64 (M:Int),.sl false 27 (rowsF lf)]),.fptr (.agg [.int .i64 (M:Int),.sl false 27 (rowsF lg)]),.addr 3000001 0 [0] 0 [0],.addr 3000001 0 [1] 0 [0]])⟩),(3,⟨0,.own (.box 29 (.agg [.int .i64 M,.sl true 2 (intL (0::cvY M j d x k))]))⟩),(3000001,⟨0,.own ((.agg [.box 29 (.agg [.int .i64 0,.nil]),.box 4 (.bool false)]))⟩)]) (fun k=>k≤k1) (fun k=>M-k) 0 (Nat.zero_le _) (fun k=>rfl) ?_ (fun k hk=>?_)
   ·simp [Sub,lk,cvY]
   ·have hy:=Fx (M:=M) (x:=x) (j:=j) (d:=d) (by omega) k
    have hn2:=Gw (M:=M) (x:=x) (j:=j) (d:=d) (by omega) k
    have hset:(0::cvY M j d x k).set (j+1) (k:Int)=0::(cvY M j d x k).set j (k:Int):=rfl
    have hjl:j+1<(0::cvY M j d x k).length:=by simp;omega
    by_cases hlt:k<k1
    ·have hih:=hround k (by omega) none (Hq k1 hk2 k hlt)
     simp only [cuL,stT,Option.isNone_none] at hih
     rw [← hn2.1,hn2.2] at hih
     (repeat (first|((with_reducible refine rC rfl fun K hK=>?_);simp only [go_sem,seval,↓reduceIte,show (k:Int)<(M:Int) by omega,List.length_cons,hy.1,Int.toNat_natCast,Int.natCast_nonneg,Nat.mul_one,show ((j+1:Nat):Int)<((j+d+1+1:Nat):Int) by omega,Ae _ (j+1) hjl,Aa _ (j+1) (Nat.le_of_lt hjl),Ax,hset,show IntKind.i64.wrap (((j+1:Nat):Int)+1)=((j+1+1:Nat):Int) by rw [wid _ (by omega) (by omega)];omega,wid ((k:Int)+1) (by omega) (by omega)];(first|refine hK _ _ _ ?_|refine ⟨_,hih,hK _ _ _ ?_⟩);clear hK K)|refine sT ?_))
     exact ⟨k+1,by omega,by omega,by simp [Sub,lk]⟩
    ·have e:k=k1:=by omega
     subst e
     have hih:=hround k hk1 (some h) hk3
     simp only [cuL,stT,Option.isNone_some] at hih
     (repeat (first|((with_reducible refine rC rfl fun K hK=>?_);simp only [go_sem,seval,↓reduceIte,show (k:Int)<(M:Int) by omega,List.length_cons,hy.1,Int.toNat_natCast,Int.natCast_nonneg,Nat.mul_one,show ((j+1:Nat):Int)<((j+d+1+1:Nat):Int) by omega,Ae _ (j+1) hjl,Aa _ (j+1) (Nat.le_of_lt hjl),Ax,hset,show IntKind.i64.wrap (((j+1:Nat):Int)+1)=((j+1+1:Nat):Int) by rw [wid _ (by omega) (by omega)];omega];(first|refine hK _ _ _ ?_|refine ⟨_,hih,hK _ _ _ ?_⟩);clear hK K)|refine sT ?_))
     refine AWP.ret (En ?_)
     exact ⟨⟨_,rfl⟩,rfl,1,rfl,.inr rfl⟩
def stF (M K:Nat) (tf tg:Nat→Nat→Int):Option (List Int):=(al M (K-1) [1]).find? (stB M K tf tg)
theorem Af5 (K:Nat) (hK:1≤K):varL K=0::tab K (fun i=>if i=0 then 1 else 0):=by
 rw [varL,tab,tab,List.range_succ_eq_map,List.map_cons,List.map_map]
 refine congrArg (0 :: ·) (List.map_congr_left fun i _=>?_)
 simp only [Function.comp]
 by_cases h:i=0
 ·rw [if_pos h,if_pos (by omega)]
 ·rw [if_neg h,if_neg (by omega)]
theorem Agz (K:Nat) (hK:1≤K):(tab K (fun i=>if i=0 then (1:Int) else 0)).take 1=[1]:=by
 obtain ⟨k,rfl⟩:∃ k,K=k+1:=⟨K-1,by omega⟩
 rw [tab,List.range_succ_eq_map,List.map_cons];rfl
theorem Gu (M K : Nat) (lf lg : List (List Int)) (hm : 1 < M) (hm2 : M ≤ 10000) (hK : 1 ≤ K) (hK2 : K ≤ 900) (hf : Pl (M : Int) (K + 1) lf) (hg : Pl (M : Int) (K + 1) lg) (r : Option (List Int)) (hr : stF M K (pc lf) (pc lg) = r) :
  AFn Tryz.prog (6000000+164) [stT M none,.int .i64 M,.int .i64 K,.fn 165 [.fptr (.agg [.int .i64 (M:Int),.sl false 27 (rowsF lf)]),.fptr (.agg [.int .i64 (M:Int),.sl false 27 (rowsF lg)]),.addr 3000001 0 [0] 0 [0],.addr 3000001 0 [1] 0 [0]]] (.tup [.tup [],stT M r]):=by
 have hcv:=P6 M K lf lg hm hm2 hK hK2 hf hg (K-1) 1 (tab K (fun i=>if i=0 then 1 else 0)) (Ah _ _) (by omega) (fun z hz=>by
  obtain ⟨i,_,rfl⟩:=Cr.1 hz
  split <;> omega) r (by rw [Agz K hK];exact hr)
 rw [← Af5 K hK] at hcv
 have hV:=P7 (M:Int) K (by omega) (by omega)
 cases r with
 | none=>
  simp only [stT,Option.isNone_none] at hcv ⊢
  refine (K4 (by decide)).2 (AFk.of0' ttOk Tryz.func164 Tryz.ntmps164 (by rw [Tryz.results164]) (by rfl) (by rfl) (by simp) (by simp) (by rfl) (by rfl) (by simp only [go_sem,List.cons_append,List.nil_append,Nat.reduceAdd,↓reduceIte,Bool.false_eq_true];rfl) mixed (fun C hP hM hC=>?_))
  (repeat (first|((with_reducible refine rC rfl fun K hK=>?_);simp only [go_sem,seval,↓reduceIte];(first|refine hK _ _ _ ?_|refine ⟨_,hV,hK _ _ _ ?_⟩|refine ⟨_,hcv,hK _ _ _ ?_⟩);clear hK K)|refine sT ?_))
  refine Sy ?_
  exact ⟨trivial,0,rfl,.inl rfl⟩
 | some h=>
  simp only [stT,Option.isNone_some] at hcv ⊢
  refine (K4 (by decide)).2 (AFk.of0' ttOk Tryz.func164 Tryz.ntmps164 (by rw [Tryz.results164]) (by rfl) (by rfl) (by simp) (by simp) (by rfl) (by simp [T.noF,T.noFL,Dm]) (by simp only [go_sem,List.cons_append,List.nil_append,Nat.reduceAdd,↓reduceIte,Bool.false_eq_true];rfl) mixed (fun C hP hM hC=>?_))
  (repeat (first|((with_reducible refine rC rfl fun K hK=>?_);simp only [go_sem,seval,↓reduceIte];(first|refine hK _ _ _ ?_|refine ⟨_,hV,hK _ _ _ ?_⟩|refine ⟨_,hcv,hK _ _ _ ?_⟩);clear hK K)|refine sT ?_))
  refine Sy ?_
  exact ⟨trivial,1,rfl,.inr rfl⟩
noncomputable def stC (m:Int) (la:List (List Int)) (n:Int) (lb:List (List Int)):Int:=if twC m la n lb=0 then (if szM m.toNat (la.length-2) 20000=20001 then 3 else if (stF m.toNat (la.length-1) (pc la) (pc lb)).isNone=true then 4 else 0) else twC m la n lb
def stV (m:Int) (la lb:List (List Int)):List Int:=0::(stF m.toNat (la.length-1) (pc la) (pc lb)).getD []
theorem Kz {m n:Int} {la lb:List (List Int)} (h:stC m la n lb=0):twC m la n lb=0∧szM m.toNat (la.length-2) 20000≠20001∧∃ x,stF m.toNat (la.length-1) (pc la) (pc lb)=some x:=by
 unfold stC at h
 split at h
 ·rename_i h1
  split at h
  ·cases h
  ·rename_i h2
   split at h
   ·cases h
   ·rename_i h3
    cases hx:stF m.toNat (la.length-1) (pc la) (pc lb) with
    | none=>rw [hx] at h3;exact absurd rfl h3
    | some x=>exact ⟨h1,h2,x,rfl⟩
 ·rename_i h1;exact absurd h h1
set_option maxHeartbeats 4000000 in
theorem Hj (m n:Int) (la lb:List (List Int)) (ha:Sm la) (hb:Sm lb) (hc:stC m la n lb=0):AFn Tryz.prog 63 [.agg [.int .i64 m,.sl false 27 (rowsF la)],.agg [.int .i64 n,.sl false 27 (rowsF lb)]] (.tup [.agg [.int .i64 m,.sl true 2 (intL (stV m la lb))],.int .i64 0]):=by
 refine fO Tryz.func63 Tryz.ntmps63 (by rw [Tryz.results63]) fun C hP hM hC=>?_
 obtain ⟨h1,h2,x,hx⟩:=Kz hc
 obtain ⟨l1,l2,hmn,hll⟩:=Cg h1
 have hl:=Ba (A7 l1).1
 have hl2:=Ba (A7 l2).1
 obtain ⟨M,rfl⟩:=Int.eq_ofNat_of_zero_le (show 0≤m by omega)
 obtain ⟨K,hK⟩:∃ K,la.length=K+1:=⟨la.length-1,by omega⟩
 subst hmn
 have hD:=A3 (M:Int) la (by omega)
 rw [hK,show ((K+1:Nat):Int)-1=(K:Int) by omega] at hD
 have hS:=Eb (M:Int) (M:Int) la lb (K-1) ha hb (by omega)
 rw [hK,show K+1-2=K-1 by omega] at h2
 rw [if_pos h1,if_neg h2] at hS
 rw [Int.toNat_natCast,hK,Nat.add_sub_cancel] at hx
 have hcv:=Gu M K la lb (by omega) (by omega) (by omega) (by omega) (by rw [← hK];exact hl.2.2.2.2) (by rw [← hK,hll];exact hl2.2.2.2.2) (some x) hx
 simp only [stT] at hcv
 have hV:stV (M:Int) la lb=0::x:=by rw [stV,Int.toNat_natCast,hK,Nat.add_sub_cancel,hx];rfl
 rw [hV]
 have w1:IntKind.i64.wrap ((K:Int)-1)=((K-1:Nat):Int):=by rw [wid _ (by omega) (by omega)];omega
 refine AWP.tailR 3 [(2,⟨1,.own (.box 26 (.agg [.int .i64 (M:Int),.sl false 27 (rowsF la)]))⟩),(3,⟨1,.own (.box 26 (.agg [.int .i64 (M:Int),.sl false 27 (rowsF lb)]))⟩),(4,⟨1,.own (.box 29 (.agg [.int .i64 0,.nil]))⟩),(7,⟨2,.own (.box 29 (.agg [.int .i64 0,.nil]))⟩),(8,⟨1,.own (.box 4 (.bool false))⟩)] ?_ (fun R tail=>?_)
 ·simp only [dropSeq]
  refine AWP.frz (s:=3) rfl ?_
  refine AWP.frz (s:=2) rfl ?_
  simp only [go_sem]
  (repeat (first|((with_reducible refine rC rfl fun K hK=>?_);simp only [go_sem,seval,↓reduceIte];(first|refine hK _ _ _ ?_|refine ⟨_,hD,hK _ _ _ ?_⟩|refine ⟨_,hcv,hK _ _ _ ?_⟩);clear hK K)|refine sT ?_))
  refine rt2 ?_
  rfl
 ·simp only [putSeq]
  (repeat (first|((with_reducible refine rC rfl fun K hK=>?_);simp only [go_sem,seval,↓reduceIte,show ((0:Int) != 0)=false from rfl,w1];(first|refine hK _ _ _ ?_|refine ⟨_,hD,hK _ _ _ ?_⟩|refine ⟨_,hS,hK _ _ _ ?_⟩);clear hK K)|refine sT ?_))
  refine AWP.sub ?_ (by rfl) tail
  simp [Sub,lk]
set_option maxHeartbeats 4000000 in
theorem Hd (m n:Int) (la lb:List (List Int)) (ha:Sm la) (hb:Sm lb) (hc:stC m la n lb≠0):AFn Tryz.prog 63 [.agg [.int .i64 m,.sl false 27 (rowsF la)],.agg [.int .i64 n,.sl false 27 (rowsF lb)]] (.tup [.agg [.int .i64 0,.nil],.int .i64 (stC m la n lb)]):=by
 refine fO Tryz.func63 Tryz.ntmps63 (by rw [Tryz.results63]) fun C hP hM hC=>?_
 have hD:=A3 m la (by have:=ha.1;omega)
 by_cases h1:twC m la n lb=0
 ·obtain ⟨l1,l2,hmn,hll⟩:=Cg h1
  have hl:=Ba (A7 l1).1
  have hl2:=Ba (A7 l2).1
  obtain ⟨M,rfl⟩:=Int.eq_ofNat_of_zero_le (show 0≤m by omega)
  obtain ⟨K,hK⟩:∃ K,la.length=K+1:=⟨la.length-1,by omega⟩
  subst hmn
  rw [hK,show ((K+1:Nat):Int)-1=(K:Int) by omega] at hD
  have hS:=Eb (M:Int) (M:Int) la lb (K-1) ha hb (by omega)
  rw [if_pos h1] at hS
  have hcE:stC (M:Int) la (M:Int) lb=if szM M (K-1) 20000=20001 then 3 else if (stF M K (pc la) (pc lb)).isNone=true then 4 else 0:=by
   rw [stC,if_pos h1,Int.toNat_natCast,hK,Nat.add_sub_cancel,show K+1-2=K-1 by omega]
  rw [Int.toNat_natCast] at hS
  have w1:IntKind.i64.wrap ((K:Int)-1)=((K-1:Nat):Int):=by rw [wid _ (by omega) (by omega)];omega
  by_cases h2:szM M (K-1) 20000=20001
  ·rw [if_pos h2] at hS hcE
   rw [hcE]
   (repeat (first|((with_reducible refine rC rfl fun K hK=>?_);simp only [go_sem,seval,↓reduceIte,show ((3:Int) != 0)=true from rfl,w1];(first|refine hK _ _ _ ?_|refine ⟨_,hD,hK _ _ _ ?_⟩|refine ⟨_,hS,hK _ _ _ ?_⟩);clear hK K)|refine sT ?_))
   refine rt2 ?_
   rfl
  ·rw [if_neg h2] at hS hcE
   have hx:stF M K (pc la) (pc lb)=none:=by
    cases hx:stF M K (pc la) (pc lb) with
    | none=>rfl
    | some x=>
     rw [hx] at hcE
     exact absurd hcE hc
   rw [hx] at hcE
   have hcv:=Gu M K la lb (by omega) (by omega) (by omega) (by omega) (by rw [← hK];exact hl.2.2.2.2) (by rw [← hK,hll];exact hl2.2.2.2.2) none hx
   simp only [stT] at hcv
   rw [hcE]
   refine AWP.tailR 3 [(2,⟨1,.own (.box 26 (.agg [.int .i64 (M:Int),.sl false 27 (rowsF la)]))⟩),(3,⟨1,.own (.box 26 (.agg [.int .i64 (M:Int),.sl false 27 (rowsF lb)]))⟩),(4,⟨1,.own (.box 29 (.agg [.int .i64 0,.nil]))⟩),(7,⟨2,.own (.box 29 (.agg [.int .i64 0,.nil]))⟩),(8,⟨1,.own (.box 4 (.bool false))⟩)] ?_ (fun R tail=>?_)
   ·simp only [dropSeq]
    refine AWP.frz (s:=3) rfl ?_
    refine AWP.frz (s:=2) rfl ?_
    simp only [go_sem]
    (repeat (first|((with_reducible refine rC rfl fun K hK=>?_);simp only [go_sem,seval,↓reduceIte];(first|refine hK _ _ _ ?_|refine ⟨_,hD,hK _ _ _ ?_⟩|refine ⟨_,hcv,hK _ _ _ ?_⟩);clear hK K)|refine sT ?_))
    refine rt2 ?_
    rfl
   ·simp only [putSeq]
    (repeat (first|((with_reducible refine rC rfl fun K hK=>?_);simp only [go_sem,seval,↓reduceIte,show ((0:Int) != 0)=false from rfl,w1];(first|refine hK _ _ _ ?_|refine ⟨_,hD,hK _ _ _ ?_⟩|refine ⟨_,hS,hK _ _ _ ?_⟩);clear hK K)|refine sT ?_))
    refine AWP.sub ?_ (by rfl) tail
    simp [Sub,lk]
 ·have hcE:stC m la n lb=twC m la n lb:=by rw [stC,if_neg h1]
  have hS:=Gn m n la lb ((la.length:Int)-1-1) ha hb h1
  rw [hcE]
  (repeat (first|((with_reducible refine rC rfl fun K hK=>?_);simp only [go_sem,seval,↓reduceIte,show (twC m la n lb != 0)=true by rw [bne_iff_ne];exact h1,wid ((la.length:Int)-1-1) (by have:=ha.1;omega) (by have:=ha.1;omega)];(first|refine hK _ _ _ ?_|refine ⟨_,hD,hK _ _ _ ?_⟩|refine ⟨_,hS,hK _ _ _ ?_⟩);clear hK K)|refine sT ?_))
  refine rt2 ?_
  rfl
theorem Wj {M d:Nat} {p y:List Int} {Z:List Int→Bool} (c:Nat) (h:(alK M d p c).find? Z=some y):∀ k,(alK M d p (c+k)).find? Z=some y
 | 0=>h
 | k+1=>by rw [← Nat.add_assoc,G5,List.find?_append,Wj c h k,Option.some_or]
def otL:Option (List Int)→List (List Int)
 | none=>[]
 | some y=>[y]
def otS:Option (List Int)→Slot
 | none=>⟨0,.val (.nil)⟩
 | some y=>⟨1,.own (.sl true 27 (rowsO [y]))⟩
set_option maxHeartbeats 4000000 in
theorem Pe (M D : Nat) (lf lg : List (List Int)) (hm : 1 < M) (hm2 : M ≤ 10000) (hD : 1 ≤ D) (hK2 : D ≤ 900) (hf : Pl (M : Int) (D + 1) lf) (hg : Pl (M : Int) (D + 1) lg) (h00 : pc lf 0 0 = 0) : ∀ (d : Nat) (a : List Int), a.length + d = D + 1 → 1 ≤ a.length → at' a 0 = 0 → (∀ z ∈ a, 0 ≤ z ∧ z < (M : Int)) → hmB (M : Int) a.length (pc lf) (pc lg) a = true →
  ∀ r,(al M d a).find? (hmB (M:Int) (D+1) (pc lf) (pc lg))=r→
  AFn Tryz.prog 234 [.agg [.int .i64 (M:Int),.sl false 27 (rowsF lf)],.agg [.int .i64 (M:Int),.sl false 27 (rowsF lg)],.sl false 2 (intL a),.int .i64 1,.nil] (roT (otL r)):=by
 intro d
 induction d with
 | zero=>
  intro a hal h1 h0 ha hfit r hr
  have hO:=Co a (by omega)
  have er:r=some a:=by rw [← hr,al,List.find?_cons,show D+1=a.length by omega,hfit]
  subst er
  simp only [otL,roT]
  refine AFn.of' ttOk (by decide) Tryz.func234 Tryz.ntmps234 (by rw [Tryz.results234]) (by rfl) (by rfl) (by simp) (by decide) (by simp only [go_sem,Nat.reduceAdd,↓reduceIte];rfl) mixed (fun C hP hM hC=>?_)
  (repeat (first|((with_reducible refine rC rfl fun K hK=>?_);simp only [go_sem,seval,↓reduceIte,Ab,hf.len,show ((a.length:Int)==((D+1:Nat):Int))=true by rw [beq_iff_eq];omega];(first|refine hK _ _ _ ?_|refine ⟨_,hO,hK _ _ _ ?_⟩);clear hK K)|refine sT ?_))
  refine rt1 ?_
  rfl
 | succ d ih=>
  intro a hal h1 h0 ha hfit r hr
  have hal2:(al M (d+1) a)=alK M d a M:=rfl
  rw [hal2] at hr
  obtain ⟨Z,hZ⟩:∃ Z,Z=hmB (M:Int) (D+1) (pc lf) (pc lg):=⟨_,rfl⟩
  rw [← hZ] at ih hr
  have hnext:∀ c:Nat,(alK M d a (c+1)).find? Z=((alK M d a c).find? Z).or ((al M d (a++[(c:Int)])).find? Z):=fun c=>by
   rw [G5,List.find?_append]
  have hnone:∀ c:Nat,hmB (M:Int) (a.length+1) (pc lf) (pc lg) (a++[(c:Int)])=false→(al M d (a++[(c:Int)])).find? Z=none:=fun c hc=>by
   rw [List.find?_eq_none]
   intro y hy hZy
   have hyl:=(Gr d _ y hy).1
   simp only [List.length_append,List.length_cons,List.length_nil,Nat.zero_add] at hyl
   rw [hZ,show D+1=y.length by omega] at hZy
   have:=Km (by omega) h00 d (a++[(c:Int)]) y (by simp) (by rw [Jz (by omega)];exact h0) hy hZy
   rw [show (a++[(c:Int)]).length=a.length+1 by simp,hc] at this
   cases this
  have hO:=Co a (by omega)
  have hC1:=Dc (M:Int) lf (D+1) a.length hf (by omega) (by omega)
  have hC2:=Dc (M:Int) lg (D+1) a.length hg (by omega) (by omega)
  refine AFn.of' (e:=[(0,⟨0,.val (.agg [.int .i64 (M:Int),.sl false 27 (rowsF lf)])⟩),(1,⟨0,.val (.agg [.int .i64 (M:Int),.sl false 27 (rowsF lg)])⟩),(2,⟨0,.val (.sl false 2 (intL a))⟩),(3,⟨0,.val (.int .i64 1)⟩),(4,⟨0,.val (.nil)⟩)]) ttOk (by decide) Tryz.func234 Tryz.ntmps234 (by rw [Tryz.results234]) (by rfl) (by rfl) (by simp) (by decide) (by rfl) mixed (fun C hP hM hC=>?_)
  (repeat (first|((with_reducible refine rC rfl fun K hK=>?_);simp only [go_sem,seval,↓reduceIte,Ab,hf.len,show ((a.length:Int)==((D+1:Nat):Int))=false by rw [beq_eq_false_iff_ne];omega];refine hK _ _ _ ?_;clear hK K)|refine sT ?_))
  refine AWP.loop (fun w:Nat×Option (List Int)=>[(4,otS w.2),(12,⟨0,.val (.int .i64 w.1)⟩),(11,⟨0,.val (.int .i64 a.length)⟩),(2,⟨0,.val (.sl false 2 (intL a))⟩),(3,⟨0,.val (.int .i64 1)⟩),(5,⟨1,.own (.box 26 (.agg [.int .i64 (M:Int),.sl false 27 (rowsF lf)]))⟩),(6,⟨1,.own (.box 26 (.agg [.int .i64 (M:Int),.sl false 27 (rowsF lg)]))⟩)]) (fun w=>w.1≤M∧(alK M d a w.1).find? Z=w.2) (fun w=>M-w.1) (0,none) ⟨Nat.zero_le _,by rw [Lg];rfl⟩ (fun w=>by obtain ⟨c,y⟩:=w;cases y <;> rfl) ?_ (fun w hw=>?_)
  ·simp [Sub,lk,otS]
  ·obtain ⟨c,y⟩:=w
   simp only at hw ⊢
   obtain ⟨hcM,hy⟩:=hw
   cases y with
   | some y=>
    have er:r=some y:=by
     have:=Wj c hy (M-c)
     rw [show c+(M-c)=M by omega,hr] at this
     exact this
    subst er
    simp only [otS,otL,roT]
    by_cases hc:c<M
    ·(repeat (first|((with_reducible refine rC rfl fun K hK=>?_);simp only [go_sem,seval,↓reduceIte,show (c:Int)<(M:Int) by omega,Af,List.length_cons,List.length_nil,show ¬ ((0+1:Nat):Int)<1 by omega,show ¬ (1:Int)<1 by omega];refine hK _ _ _ ?_;clear hK K)|refine sT ?_))
     refine rt1 ?_
     rfl
    ·(repeat (first|((with_reducible refine rC rfl fun K hK=>?_);simp only [go_sem,seval,↓reduceIte,show ¬ (c:Int)<(M:Int) by omega];refine hK _ _ _ ?_;clear hK K)|refine sT ?_))
     refine rt1 ?_
     rfl
   | none=>
    simp only [otS]
    by_cases hc:c<M
    ·have hnx:=hnext c
     rw [hy,Option.none_or] at hnx
     have hac:∀ z∈a++[(c:Int)],0≤z∧z<(M:Int):=fun z hz=>by
      rcases List.mem_append.1 hz with h|h
      ·exact ha z h
      ·rw [List.mem_singleton] at h;omega
     have hacl:(a++[(c:Int)]).length=a.length+1:=by simp
     have hac0:at' (a++[(c:Int)]) 0=0:=by rw [Jz (by omega)];exact h0
     have hFt:=G4 (M:Int) (tab2 (a.length+1) (pc lf)) (tab2 (a.length+1) (pc lg)) (a++[(c:Int)]) (a.length+1) (by omega) (by omega) (Pl.tab2 (by omega) fun i j _=>hf.num i j) (Pl.tab2 (by omega) fun i j _=>hg.num i j) hac hacl hac0 (by omega) (by omega)
     rw [Qz (by omega) (tf:=pc lf) (tg:=pc lg) (fun u v h=>Bi h) (fun u v h=>Bi h)] at hFt
     obtain ⟨b,hb⟩:∃ b,hmB (M:Int) (a.length+1) (pc lf) (pc lg) (a++[(c:Int)])=b:=⟨_,rfl⟩
     rw [hb] at hFt
     (repeat (first|((with_reducible refine rC rfl fun K hK=>?_);simp only [go_sem,seval,↓reduceIte,show (c:Int)<(M:Int) by omega,List.length_nil,show (0:Int)<1 by omega,Nat.zero_add,Bv,List.length_cons,show a.length+1≤1099511627776 by omega,show (a.length+1)*8≤140737488355328 by omega];(first|refine hK _ _ _ ?_|refine ⟨_,hO,hK _ _ _ ?_⟩|refine ⟨_,hC1,hK _ _ _ ?_⟩|refine ⟨_,hC2,hK _ _ _ ?_⟩|refine ⟨_,hFt,hK _ _ _ ?_⟩);clear hK K)|refine sT ?_))
     refine AWP.frz (s:=13) rfl ?_
     simp only [go_sem]
     cases b with
     | false=>
      have hn:=hnone c hb
      rw [hn] at hnx
      (repeat (first|((with_reducible refine rC rfl fun K hK=>?_);simp only [go_sem,seval,↓reduceIte,wid ((c:Int)+1) (by omega) (by omega)];refine hK _ _ _ ?_;clear hK K)|refine sT ?_))
      exact ⟨(c+1,none),⟨by simp only;omega,hnx⟩,by simp only;omega,by simp [Sub,lk,otS]⟩
     | true=>
      have hih:=ih (a++[(c:Int)]) (by omega) (by omega) hac0 hac (by rw [hacl];exact hb) _ rfl
      cases hR:(al M d (a++[(c:Int)])).find? Z with
      | none=>
       rw [hR] at hih hnx
       simp only [otL,roT] at hih
       (repeat (first|((with_reducible refine rC rfl fun K hK=>?_);simp only [go_sem,seval,↓reduceIte,wid ((c:Int)+1) (by omega) (by omega)];(first|refine hK _ _ _ ?_|refine ⟨_,hih,hK _ _ _ ?_⟩);clear hK K)|refine sT ?_))
       exact ⟨(c+1,none),⟨by simp only;omega,hnx⟩,by simp only;omega,by simp [Sub,lk,otS]⟩
      | some y=>
       rw [hR] at hih hnx
       simp only [otL,roT] at hih
       (repeat (first|((with_reducible refine rC rfl fun K hK=>?_);simp only [go_sem,seval,↓reduceIte,wid ((c:Int)+1) (by omega) (by omega),D7];(first|refine hK _ _ _ ?_|refine ⟨_,hih,hK _ _ _ ?_⟩);clear hK K)|refine sT ?_))
       exact ⟨(c+1,some y),⟨by simp only;omega,hnx⟩,by simp only;omega,by simp [Sub,lk,otS]⟩
    ·have e:c=M:=by omega
     subst e
     have er:r=none:=hr.symm.trans hy
     subst er
     simp only [otL,roT]
     (repeat (first|((with_reducible refine rC rfl fun K hK=>?_);simp only [go_sem,seval,↓reduceIte,show ¬ (c:Int)<(c:Int) by omega];refine hK _ _ _ ?_;clear hK K)|refine sT ?_))
     refine rt1 ?_
     rfl
theorem Ah2 (M D:Nat) (tf tg:Nat→Nat→Int):(al M (D-1) [0,1]).find? (hmB (M:Int) (D+1) tf tg)=(stF M D tf tg).map (0 :: ·):=by
 rw [R8,List.find?_map];rfl
set_option maxHeartbeats 4000000 in
theorem Jd (M D:Nat) (la lb:List (List Int)) (ha:Sm la) (hb:Sm lb) (h:twC (M:Int) la (M:Int) lb=0) (hD:la.length=D+1) (hz:szM M (D-1) 20000≠20001) (r:Option (List Int)) (hr:stF M D (pc la) (pc lb)=r):AFn Tryz.prog 166 [.agg [.int .i64 (M:Int),.sl false 27 (rowsF la)],.agg [.int .i64 (M:Int),.sl false 27 (rowsF lb)],.sl false 2 [.int .i64 0,.int .i64 1],.int .i64 1] (.tup [roT (otL (r.map (0 :: ·))),.int .i64 0]):=by
 refine fO Tryz.func166 Tryz.ntmps166 (by rw [Tryz.results166]) fun C hP hM hC=>?_
 obtain ⟨l1,l2,_,hll⟩:=Cg h
 have hl:=Ba (A7 l1).1
 have hl2:=Ba (A7 l2).1
 have hw1:=(A7 l1).2
 have h00:pc la 0 0=0:=by
  have:=hw1.1 0 (by omega)
  rwa [ok1,if_neg (by omega)] at this
 have hA:=Dq (M:Int) (M:Int) la lb ha hb
 rw [h] at hA
 have hB:=E3 M (D-1) (by omega) (by omega) (by omega)
 rw [decide_eq_false hz] at hB
 have pa:Pl (M:Int) (D+1) la:=by rw [← hD];exact hl.2.2.2.2
 have pb:Pl (M:Int) (D+1) lb:=by rw [← hD,hll];exact hl2.2.2.2.2
 have hn01:∀ z∈[(0:Int),1],0≤z∧z<(M:Int):=fun z hz=>by
  simp only [List.mem_cons,List.not_mem_nil,or_false] at hz
  omega
 have hC1:=Dc (M:Int) la (D+1) 1 pa (by omega) (by omega)
 have hC2:=Dc (M:Int) lb (D+1) 1 pb (by omega) (by omega)
 have hFt:=G4 (M:Int) (tab2 (1+1) (pc la)) (tab2 (1+1) (pc lb)) [0,1] (1+1) (by omega) (by omega) (Pl.tab2 (by omega) fun i j _=>pa.num i j) (Pl.tab2 (by omega) fun i j _=>pb.num i j) hn01 rfl rfl (by omega) (by omega)
 rw [Qz (by omega) (tf:=pc la) (tg:=pc lb) (fun u v h=>Bi h) (fun u v h=>Bi h)] at hFt
 obtain ⟨b,hb⟩:∃ b,hmB (M:Int) (1+1) (pc la) (pc lb) [0,1]=b:=⟨_,rfl⟩
 rw [hb] at hFt
 have eL:intL [0,1]=[T.int .i64 0,T.int .i64 1]:=rfl
 rw [eL] at hFt
 have hfd:=Ah2 M D (pc la) (pc lb)
 rw [hr] at hfd
 have w1:IntKind.i64.wrap (((D+1:Nat):Int)-2)=((D-1:Nat):Int):=by rw [wid _ (by omega) (by omega)];omega
 cases b with
 | false=>
  have hrn:r=none:=by
   have:(al M (D-1) [0,1]).find? (hmB (M:Int) (D+1) (pc la) (pc lb))=none:=by
    rw [List.find?_eq_none]
    intro y hy hZy
    have hyl:=(Gr (D-1) _ y hy).1
    simp only [List.length_cons,List.length_nil,Nat.zero_add] at hyl
    rw [show D+1=y.length by omega] at hZy
    have h9:=Km (by omega) h00 (D-1) [0,1] y (by simp) rfl hy hZy
    rw [show ([0,1]:List Int).length=1+1 from rfl,hb] at h9
    cases h9
   rw [this] at hfd
   cases r with
   | none=>rfl
   | some x=>cases hfd
  subst hrn
  simp only [Option.map_none,otL,roT]
  (repeat (first|((with_reducible refine rC rfl fun K hK=>?_);simp only [go_sem,seval,↓reduceIte,show ((0:Int) != 0)=false from rfl,Ab,hD,List.length_cons,List.length_nil,w1,show ((2:Int)==2)=true from rfl,show (((0+1+1:Nat):Int)==2)=true from rfl,show ((0+1+1:Nat):Int)=2 from rfl];(first|refine hK _ _ _ ?_|refine ⟨_,hA,hK _ _ _ ?_⟩|refine ⟨_,hB,hK _ _ _ ?_⟩|refine ⟨_,hC1,hK _ _ _ ?_⟩|refine ⟨_,hC2,hK _ _ _ ?_⟩|refine ⟨_,hFt,hK _ _ _ ?_⟩);clear hK K)|refine sT ?_))
  refine rt2 ?_
  rfl
 | true=>
  have hG:=Pe M D la lb (by omega) (by omega) (by omega) (by omega) pa pb h00 (D-1) [0,1] (by simp only [List.length_cons,List.length_nil];omega) (by simp) rfl hn01 hb _ hfd
  rw [eL] at hG
  cases r with
  | none=>
   simp only [Option.map_none,otL,roT] at hG ⊢
   (repeat (first|((with_reducible refine rC rfl fun K hK=>?_);simp only [go_sem,seval,↓reduceIte,show ((0:Int) != 0)=false from rfl,Ab,hD,List.length_cons,List.length_nil,w1,show ((2:Int)==2)=true from rfl,show (((0+1+1:Nat):Int)==2)=true from rfl,show ((0+1+1:Nat):Int)=2 from rfl];(first|refine hK _ _ _ ?_|refine ⟨_,hA,hK _ _ _ ?_⟩|refine ⟨_,hB,hK _ _ _ ?_⟩|refine ⟨_,hC1,hK _ _ _ ?_⟩|refine ⟨_,hC2,hK _ _ _ ?_⟩|refine ⟨_,hFt,hK _ _ _ ?_⟩|refine ⟨_,hG,hK _ _ _ ?_⟩);clear hK K)|refine sT ?_))
   refine rt2 ?_
   rfl
  | some x=>
   simp only [Option.map_some,otL,roT] at hG ⊢
   (repeat (first|((with_reducible refine rC rfl fun K hK=>?_);simp only [go_sem,seval,↓reduceIte,show ((0:Int) != 0)=false from rfl,Ab,hD,List.length_cons,List.length_nil,w1,show ((2:Int)==2)=true from rfl,show (((0+1+1:Nat):Int)==2)=true from rfl,show ((0+1+1:Nat):Int)=2 from rfl,D7];(first|refine hK _ _ _ ?_|refine ⟨_,hA,hK _ _ _ ?_⟩|refine ⟨_,hB,hK _ _ _ ?_⟩|refine ⟨_,hC1,hK _ _ _ ?_⟩|refine ⟨_,hC2,hK _ _ _ ?_⟩|refine ⟨_,hFt,hK _ _ _ ?_⟩|refine ⟨_,hG,hK _ _ _ ?_⟩);clear hK K)|refine sT ?_))
   refine rt2 ?_
   rfl
theorem O8 (m n:Int) (la lb:List (List Int)) (ha:Sm la) (hb:Sm lb) (h:twC m la n lb≠0):AFn Tryz.prog 166 [.agg [.int .i64 m,.sl false 27 (rowsF la)],.agg [.int .i64 n,.sl false 27 (rowsF lb)],.sl false 2 [.int .i64 0,.int .i64 1],.int .i64 1] (.tup [.nil,.int .i64 (twC m la n lb)]):=by
 refine fO Tryz.func166 Tryz.ntmps166 (by rw [Tryz.results166]) fun C hP hM hC=>?_
 have hA:=Dq m n la lb ha hb
 (repeat (first|((with_reducible refine rC rfl fun K hK=>?_);simp only [go_sem,seval,↓reduceIte,show (twC m la n lb != 0)=true by rw [bne_iff_ne];exact h];(first|refine hK _ _ _ ?_|refine ⟨_,hA,hK _ _ _ ?_⟩);clear hK K)|refine sT ?_))
 refine rt2 ?_
 rfl
theorem O7 (M D:Nat) (la lb:List (List Int)) (ha:Sm la) (hb:Sm lb) (h:twC (M:Int) la (M:Int) lb=0) (hD:la.length=D+1) (hz:szM M (D-1) 20000=20001):AFn Tryz.prog 166 [.agg [.int .i64 (M:Int),.sl false 27 (rowsF la)],.agg [.int .i64 (M:Int),.sl false 27 (rowsF lb)],.sl false 2 [.int .i64 0,.int .i64 1],.int .i64 1] (.tup [.nil,.int .i64 3]):=by
 refine fO Tryz.func166 Tryz.ntmps166 (by rw [Tryz.results166]) fun C hP hM hC=>?_
 obtain ⟨l1,l2,_,hll⟩:=Cg h
 have hl:=Ba (A7 l1).1
 have hA:=Dq (M:Int) (M:Int) la lb ha hb
 rw [h] at hA
 have hB:=E3 M (D-1) (by omega) (by omega) (by omega)
 rw [decide_eq_true hz] at hB
 have w1:IntKind.i64.wrap (((D+1:Nat):Int)-2)=((D-1:Nat):Int):=by rw [wid _ (by omega) (by omega)];omega
 (repeat (first|((with_reducible refine rC rfl fun K hK=>?_);simp only [go_sem,seval,↓reduceIte,show ((0:Int) != 0)=false from rfl,Ab,hD,List.length_cons,List.length_nil,w1,show ((0+1+1:Nat):Int)=2 from rfl];(first|refine hK _ _ _ ?_|refine ⟨_,hA,hK _ _ _ ?_⟩|refine ⟨_,hB,hK _ _ _ ?_⟩);clear hK K)|refine sT ?_))
 refine rt2 ?_
 rfl
theorem Hn (m n:Int) (la lb:List (List Int)) (ha:Sm la) (hb:Sm lb) (hc:stC m la n lb=0):AFn Tryz.prog 64 [.agg [.int .i64 m,.sl false 27 (rowsF la)],.agg [.int .i64 n,.sl false 27 (rowsF lb)]] (.tup [.agg [.int .i64 m,.sl true 2 (intL (stV m la lb))],.int .i64 0]):=by
 refine fO Tryz.func64 Tryz.ntmps64 (by rw [Tryz.results64]) fun C hP hM hC=>?_
 obtain ⟨h1,h2,x,hx⟩:=Kz hc
 obtain ⟨l1,l2,hmn,hll⟩:=Cg h1
 have hl:=Ba (A7 l1).1
 obtain ⟨M,rfl⟩:=Int.eq_ofNat_of_zero_le (show 0≤m by omega)
 obtain ⟨D,hD⟩:∃ D,la.length=D+1:=⟨la.length-1,by omega⟩
 subst hmn
 rw [hD,show D+1-2=D-1 by omega,Int.toNat_natCast] at h2
 rw [Int.toNat_natCast,hD,Nat.add_sub_cancel] at hx
 have hV:stV (M:Int) la lb=0::x:=by rw [stV,Int.toNat_natCast,hD,Nat.add_sub_cancel,hx];rfl
 have hA:=Jd M D la lb ha hb h1 hD h2 (some x) hx
 simp only [Option.map_some,otL,roT] at hA
 have hMk:=Kg (M:Int) (0::x)
 have g0:([0::x]:List (List Int)).getD 0 []=0::x:=rfl
 have hat:=Ap [0::x] 0 (by simp)
 rw [g0] at hat
 rw [hV]
 (repeat (first|((with_reducible refine rC rfl fun K hK=>?_);simp only [go_sem,seval,↓reduceIte,show ((0:Int) != 0)=false from rfl,D7,Af,List.length_cons,List.length_nil,show (((0+1:Nat):Int)==0)=false from rfl,show ((1:Int)==0)=false from rfl,Int.le_refl,Int.toNat_zero,show (0:Int)<((0+1:Nat):Int) by omega,show (0:Int)<1 by omega,hat,List.take_zero,Nat.zero_mul];(first|refine hK _ _ _ ?_|refine ⟨_,hA,hK _ _ _ ?_⟩|refine ⟨_,hMk,hK _ _ _ ?_⟩);clear hK K)|refine sT ?_))
 refine rt2 ?_
 rfl
theorem He (m n:Int) (la lb:List (List Int)) (ha:Sm la) (hb:Sm lb) (hc:stC m la n lb≠0):AFn Tryz.prog 64 [.agg [.int .i64 m,.sl false 27 (rowsF la)],.agg [.int .i64 n,.sl false 27 (rowsF lb)]] (.tup [.agg [.int .i64 0,.nil],.int .i64 (stC m la n lb)]):=by
 refine fO Tryz.func64 Tryz.ntmps64 (by rw [Tryz.results64]) fun C hP hM hC=>?_
 by_cases h1:twC m la n lb=0
 ·obtain ⟨l1,l2,hmn,hll⟩:=Cg h1
  have hl:=Ba (A7 l1).1
  obtain ⟨M,rfl⟩:=Int.eq_ofNat_of_zero_le (show 0≤m by omega)
  obtain ⟨D,hD⟩:∃ D,la.length=D+1:=⟨la.length-1,by omega⟩
  subst hmn
  have hcE:stC (M:Int) la (M:Int) lb=if szM M (D-1) 20000=20001 then 3 else if (stF M D (pc la) (pc lb)).isNone=true then 4 else 0:=by
   rw [stC,if_pos h1,Int.toNat_natCast,hD,Nat.add_sub_cancel,show D+1-2=D-1 by omega]
  by_cases h2:szM M (D-1) 20000=20001
  ·have hA:=O7 M D la lb ha hb h1 hD h2
   rw [if_pos h2] at hcE
   rw [hcE]
   (repeat (first|((with_reducible refine rC rfl fun K hK=>?_);simp only [go_sem,seval,↓reduceIte,show ((3:Int) != 0)=true from rfl];(first|refine hK _ _ _ ?_|refine ⟨_,hA,hK _ _ _ ?_⟩);clear hK K)|refine sT ?_))
   refine rt2 ?_
   rfl
  ·rw [if_neg h2] at hcE
   have hx:stF M D (pc la) (pc lb)=none:=by
    cases hx:stF M D (pc la) (pc lb) with
    | none=>rfl
    | some x=>
     rw [hx] at hcE
     exact absurd hcE hc
   rw [hx] at hcE
   have hA:=Jd M D la lb ha hb h1 hD h2 none hx
   simp only [Option.map_none,otL,roT] at hA
   rw [hcE]
   (repeat (first|((with_reducible refine rC rfl fun K hK=>?_);simp only [go_sem,seval,↓reduceIte,show ((0:Int) != 0)=false from rfl,List.length_nil,show (((0:Nat):Int)==0)=true from rfl,show ((0:Int)==0)=true from rfl];(first|refine hK _ _ _ ?_|refine ⟨_,hA,hK _ _ _ ?_⟩);clear hK K)|refine sT ?_))
   refine rt2 ?_
   rfl
 ·have hcE:stC m la n lb=twC m la n lb:=by rw [stC,if_neg h1]
  have hA:=O8 m n la lb ha hb h1
  rw [hcE]
  (repeat (first|((with_reducible refine rC rfl fun K hK=>?_);simp only [go_sem,seval,↓reduceIte,show (twC m la n lb != 0)=true by rw [bne_iff_ne];exact h1];(first|refine hK _ _ _ ?_|refine ⟨_,hA,hK _ _ _ ?_⟩);clear hK K)|refine sT ?_))
  refine rt2 ?_
  rfl
end Go.Proofs.YtapdekacpecgiaaGreat
