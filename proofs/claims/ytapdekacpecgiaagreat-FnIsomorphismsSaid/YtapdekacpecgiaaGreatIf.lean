import Derived.Test.YtapdekacpecgiaaGreatIa
namespace Go.Proofs.YtapdekacpecgiaaGreat
open Go.RowKit
set_option linter.unusedSimpArgs false
set_option linter.unusedVariables false
set_option linter.unusedSectionVars false
set_option maxRecDepth 20000
set_option maxHeartbeats 1000000
theorem AWP.follows {C:Ctx} {n:Nat} {Q:Exit→Env→Prop} {env:Env} {c:Code} (t:Nat) (h0:lk env 3000002=none) (h:AWP C n c Q ((3000002,⟨0,.val (.str (.raw none t 0))⟩)::env)):AWP C n c Q env:=fun C1 hE a w hF=>by
 obtain ⟨hd,hn,κ,V,hI,hV⟩:=hF
 exact h C1 hE a w ⟨hd,hn,κ,_,hI.bind 3000002 0 (.str (.raw none t 0)) (Con.val (.raw none t 0)) (by rw [h0];exact Nat.le_refl _) rfl 0 ⟨[(Con.raw none t 0).val],rfl,by simp [CR,Con.ok]⟩,fun t ht=>by rw [As _ _ _ _ (by omega)];exact hV t ht⟩
def isoB (M K:Nat) (tf tg:Nat→Nat→Int) (x:List Int):Bool:=unB M (at' x 0)&&hmB (M:Int) (K+1) tf tg (0::x)
theorem Hq {M d:Nat} {p:List Int} {W:List Int→Bool}:∀ n,(alK M d p n).find? W=none→∀ k,k<n→(al M d (p++[(k:Int)])).find? W=none
 | 0,_,k,h=>by omega
 | n+1,hn,k,h=>by
  rw [G5,List.find?_append,Option.or_eq_none_iff] at hn
  by_cases e:k=n
  ·rw [e];exact hn.2
  ·exact Hq n hn.1 k (by omega)
theorem L1 {M d:Nat} {p h:List Int} {W:List Int→Bool}:∀ n,(alK M d p n).find? W=some h→∃ k,k<n∧(alK M d p k).find? W=none∧(al M d (p++[(k:Int)])).find? W=some h
 | 0,hn=>by simp [Lg] at hn
 | n+1,hn=>by
  rw [G5,List.find?_append] at hn
  cases h1:(alK M d p n).find? W with
  | none=>
   rw [h1,Option.none_or] at hn
   exact ⟨n,by omega,h1,hn⟩
  | some y=>
   rw [h1,Option.some_or] at hn
   injection hn with hn
   subst hn
   obtain ⟨k,h2,h3⟩:=L1 n h1
   exact ⟨k,by omega,h3⟩
theorem Fn (M K : Nat) (lf lg : List (List Int)) (x : List Int) (hm : 1 < M) (hm2 : M ≤ 10000) (hK : 1 ≤ K) (hK2 : K ≤ 900) (hf : Pl (M : Int) (K + 1) lf) (hg : Pl (M : Int) (K + 1) lg) (hx : ∀ z ∈ x, 0 ≤ z ∧ z < (M : Int)) (hxl : x.length = K) (b : Bool) (hb : isoB M K (pc lf) (pc lg) x = b) :
  AFn Tryz.prog (6000000+235) [.box 142 (.sl true 29 []),.agg [.int .i64 (M:Int),.sl true 2 (intL (0::x))],.fptr (.fn 139 []),.fptr (.agg [.int .i64 (M:Int),.sl false 27 (rowsF lf)]),.fptr (.agg [.int .i64 (M:Int),.sl false 27 (rowsF lg)]),.addr 3000001 0 [] 0 [0],.fptr (.bool true)] (.tup [.bool (!b),.box 142 (.sl true 29 (if b then [.agg [.int .i64 (M:Int),.sl true 2 (intL (0::x))]] else []))]):=by
 have hI1:=Ht M x hm2 hx (by omega) (by omega)
 have hI2:=Ej (M:Int) lf lg (0::x) (K+1) (by omega) (by omega) hf hg (fun z hz=>by
  rcases List.mem_cons.1 hz with e|e
  ·omega
  ·exact hx z e) (by simp [hxl]) (by omega) (by omega)
 rw [isoB] at hb
 refine (K4 (by decide)).2 (AFk.of' (tr:=7) ttOk Tryz.func235 Tryz.ntmps235 (by rw [Tryz.results235]) (by rfl) (by rfl) (by simp) (by simp) (by decide) (by rfl) (by rfl) (by cases b <;> simp [T.noF,T.noFL,Dm]) (by simp only [go_sem,List.cons_append,List.nil_append,Nat.reduceAdd,↓reduceIte,Bool.false_eq_true];rfl) mixed (fun C hP hM hC=>?_))
 refine AWP.follows 4 rfl ?_
 cases h1:unB M (at' x 0) with
 | false=>
  rw [h1] at hI1 hb
  simp only [Bool.false_and] at hb
  subst hb
  (repeat (first|((with_reducible refine rC rfl fun K hK=>?_);simp only [go_sem,seval,↓reduceIte];(first|refine hK _ _ _ ?_|refine ⟨_,hI1,hK _ _ _ ?_⟩);clear hK K)|refine sT ?_))
  refine AWP.ret (Hc ?_)
  exact ⟨⟨_,rfl⟩,0,rfl,.inl rfl⟩
 | true=>
  rw [h1] at hI1 hb
  simp only [Bool.true_and] at hb
  rw [hb] at hI2
  cases b with
  | false=>
   (repeat (first|((with_reducible refine rC rfl fun K hK=>?_);simp only [go_sem,seval,↓reduceIte];(first|refine hK _ _ _ ?_|refine ⟨_,hI1,hK _ _ _ ?_⟩|refine ⟨_,hI2,hK _ _ _ ?_⟩);clear hK K)|refine sT ?_))
   refine AWP.ret (Hc ?_)
   exact ⟨⟨_,rfl⟩,0,rfl,.inl rfl⟩
  | true=>
   (repeat (first|((with_reducible refine rC rfl fun K hK=>?_);simp only [go_sem,seval,↓reduceIte];(first|refine hK _ _ _ ?_|refine ⟨_,hI1,hK _ _ _ ?_⟩|refine ⟨_,hI2,hK _ _ _ ?_⟩);clear hK K)|refine sT ?_))
   refine AWP.ret (Hc ?_)
   exact ⟨⟨_,rfl⟩,1,rfl,.inr rfl⟩
theorem Bf (l:List Int):∀ t∈intL l,t.scalar=true:=fun t ht=>by
 simp only [intL,List.mem_map] at ht
 obtain ⟨x,_,rfl⟩:=ht
 rfl
def cuL (M d:Nat) (p:List Int):Option (List Int)→List Int
 | none=>0::(p++List.replicate d ((M:Int)-1))
 | some h=>0::h
def cuS (M:Nat):Option (List Int)→List T
 | none=>[]
 | some h=>[.agg [.int .i64 (M:Int),.sl true 2 (intL (0::h))]]
set_option maxHeartbeats 4000000 in
theorem S8 (M K : Nat) (lf lg : List (List Int)) (hm : 1 < M) (hm2 : M ≤ 10000) (hK : 1 ≤ K) (hK2 : K ≤ 900) (hf : Pl (M : Int) (K + 1) lf) (hg : Pl (M : Int) (K + 1) lg) : ∀ (d j : Nat) (x : List Int), x.length = K → j + d = K → (∀ z ∈ x, 0 ≤ z ∧ z < (M : Int)) → ∀ r, (al M d (x.take j)).find? (isoB M K (pc lf) (pc lg)) = r →
  AFn Tryz.prog (7000000+230) [.sl true 2 (intL (0::x)),.box 142 (.sl true 29 []),.int .i64 M,.int .i64 ((j+1:Nat):Int),.fn 235 [.fptr (.fn 139 []),.fptr (.agg [.int .i64 (M:Int),.sl false 27 (rowsF lf)]),.fptr (.agg [.int .i64 (M:Int),.sl false 27 (rowsF lg)]),.addr 3000001 0 [] 0 [0],.fptr (.bool true)]] (.tup [.bool r.isNone,.sl true 2 (intL (cuL M d (x.take j) r)),.box 142 (.sl true 29 (cuS M r))]):=by
 intro d
 induction d with
 | zero=>
  intro j x hx hj hb r hr
  have ht:x.take j=x:=List.take_of_length_le (by omega)
  rw [ht,al] at hr
  rw [ht]
  have hcp:=Fl (0::x) (by simp;omega)
  cases hw:isoB M K (pc lf) (pc lg) x with
  | false=>
   have hcl:=Fn M K lf lg x hm hm2 hK hK2 hf hg hb hx false hw
   have er:r=none:=by rw [← hr];simp [hw]
   subst er
   simp only [cuL,cuS,Option.isNone_none,List.replicate_zero,List.append_nil]
   simp only [Bool.not_false,Bool.false_eq_true,if_false] at hcl
   refine (Ia (by decide)).2 (AFc.of' (tr:=6) (d:=3) ttOk md Tryz.func230 Tryz.ntmps230 (by rw [Tryz.results230]) (by rfl) (by rfl) (by decide) (by decide) (by decide) (by rfl) (by rfl) (by rfl) (by kernel_rfl) (by decide) (by rfl) (by kernel_rfl) (by kernel_rfl) rfl (Bf _) (Bf _) (by rfl) (by rfl) (by rfl) mixed (fun C hP hM hC=>?_))
   (repeat (first|((with_reducible refine rC rfl fun K hK=>?_);simp only [go_sem,seval,↓reduceIte,List.length_cons,show (((j+1:Nat):Int)==((x.length+1:Nat):Int))=true by rw [beq_iff_eq];omega];(first|refine hK _ _ _ ?_|refine ⟨_,hcp,hK _ _ _ ?_⟩|refine ⟨_,hcl,hK _ _ _ ?_⟩);clear hK K)|refine sT ?_))
   refine AWP.ret (En ?_)
   exact ⟨⟨_,rfl⟩,rfl,0,rfl,.inl rfl⟩
  | true=>
   have hcl:=Fn M K lf lg x hm hm2 hK hK2 hf hg hb hx true hw
   have er:r=some x:=by rw [← hr];simp [hw]
   subst er
   simp only [cuL,cuS,Option.isNone_some]
   simp only [Bool.not_true,if_true] at hcl
   refine (Ia (by decide)).2 (AFc.of' (tr:=6) (d:=3) ttOk md Tryz.func230 Tryz.ntmps230 (by rw [Tryz.results230]) (by rfl) (by rfl) (by decide) (by decide) (by decide) (by rfl) (by rfl) (by rfl) (by kernel_rfl) (by decide) (by rfl) (by kernel_rfl) (by kernel_rfl) rfl (Bf _) (Bf _) (by rfl) (by rfl) (by simp [T.noF,T.noFL,Dm]) mixed (fun C hP hM hC=>?_))
   (repeat (first|((with_reducible refine rC rfl fun K hK=>?_);simp only [go_sem,seval,↓reduceIte,List.length_cons,show (((j+1:Nat):Int)==((x.length+1:Nat):Int))=true by rw [beq_iff_eq];omega];(first|refine hK _ _ _ ?_|refine ⟨_,hcp,hK _ _ _ ?_⟩|refine ⟨_,hcl,hK _ _ _ ?_⟩);clear hK K)|refine sT ?_))
   refine AWP.ret (En ?_)
   exact ⟨⟨_,rfl⟩,rfl,1,rfl,.inr rfl⟩
 | succ d ih=>
  intro j x hx hj hb r hr
  have hround:∀ k,k<M→∀ r',(al M d (x.take j++[(k:Int)])).find? (isoB M K (pc lf) (pc lg))=r'→AFn Tryz.prog (7000000+230) [.sl true 2 (intL (0::(cvY M j d x k).set j (k:Int))),.box 142 (.sl true 29 []),.int .i64 M,.int .i64 ((j+1+1:Nat):Int),.fn 235 [.fptr (.fn 139 []),.fptr (.agg [.int .i64 (M:Int),.sl false 27 (rowsF lf)]),.fptr (.agg [.int .i64 (M:Int),.sl false 27 (rowsF lg)]),.addr 3000001 0 [] 0 [0],.fptr (.bool true)]] (.tup [.bool r'.isNone,.sl true 2 (intL (cuL M d (x.take j++[(k:Int)]) r')),.box 142 (.sl true 29 (cuS M r'))]):=fun k hk r' hr'=>by
   have hy:=Fx (M:=M) (x:=x) (j:=j) (d:=d) (by omega) k
   have hyb:=Aiq (j:=j) (d:=d) hb (Nat.le_of_lt hk) (by omega)
   have hn2:=Gw (M:=M) (x:=x) (j:=j) (d:=d) (by omega) k
   have:=ih (j+1) ((cvY M j d x k).set j (k:Int)) (by rw [List.length_set];omega) (by omega) (fun z hz=>by
    rcases List.mem_or_eq_of_mem_set hz with h|h
    ·exact hyb z h
    ·omega) r' (by rw [hn2.1];exact hr')
   rw [hn2.1] at this
   exact this
  rw [← Zk] at hr
  cases r with
  | none=>
   simp only [cuL,cuS,Option.isNone_none]
   refine (Ia (by decide)).2 (AFc.of' (tr:=6) (d:=3) ttOk md Tryz.func230 Tryz.ntmps230 (by rw [Tryz.results230]) (by rfl) (by rfl) (by decide) (by decide) (by decide) (by rfl) (by rfl) (by rfl) (by kernel_rfl) (by decide) (by rfl) (by kernel_rfl) (by kernel_rfl) (by simp [Ft];omega) (Bf _) (Bf _) (by rfl) (by rfl) (by rfl) mixed (fun C hP hM hC=>?_))
   (repeat (first|((with_reducible refine rC rfl fun K hK=>?_);simp only [go_sem,seval,↓reduceIte,List.length_cons,show (((j+1:Nat):Int)==((x.length+1:Nat):Int))=false by rw [beq_eq_false_iff_ne];omega];refine hK _ _ _ ?_;clear hK K)|refine sT ?_))
   refine AWP.loop (fun k:Nat=>[(23,⟨0,.val (.int .i64 k)⟩),(22,⟨0,.val (.int .i64 M)⟩),(1,⟨0,.val (.int .i64 (j+1:Nat))⟩),(2,⟨0,.val (.fn 235 [.fptr (.fn 139 []),.fptr (.agg [.int .i64 (M:Int),.sl false 27 (rowsF lf)]),.fptr (.agg [.int .i64 (M:Int),.sl false 27 (rowsF lg)]),.addr 3000001 0 [] 0 [0],.fptr (.bool true)])⟩),(3,⟨0,.own (.box 29 (.agg [.int .i64 M,.sl true 2 (intL (0::cvY M j d x k))]))⟩),(3000001,⟨0,.own (.box 142 (.sl true 29 []))⟩)]) (fun k=>k≤M) (fun k=>M-k) 0 (Nat.zero_le _) (fun k=>rfl) ?_ (fun k hk=>?_)
   ·simp [Sub,lk,cvY]
   ·have hy:=Fx (M:=M) (x:=x) (j:=j) (d:=d) (by omega) k
    by_cases hlt:k<M
    ·have hn2:=Gw (M:=M) (x:=x) (j:=j) (d:=d) (by omega) k
     have hih:=hround k hlt none (Hq M hr k hlt)
     simp only [cuL,cuS,Option.isNone_none] at hih
     rw [← hn2.1,hn2.2] at hih
     have hset:(0::cvY M j d x k).set (j+1) (k:Int)=0::(cvY M j d x k).set j (k:Int):=rfl
     have hjl:j+1<(0::cvY M j d x k).length:=by simp;omega
     (repeat (first|((with_reducible refine rC rfl fun K hK=>?_);simp only [go_sem,seval,↓reduceIte,show (k:Int)<(M:Int) by omega,List.length_cons,hy.1,Int.toNat_natCast,Int.natCast_nonneg,Nat.mul_one,show ((j+1:Nat):Int)<((j+d+1+1:Nat):Int) by omega,Ae _ (j+1) hjl,Aa _ (j+1) (Nat.le_of_lt hjl),Ax,hset,show IntKind.i64.wrap (((j+1:Nat):Int)+1)=((j+1+1:Nat):Int) by rw [wid _ (by omega) (by omega)];omega,wid ((k:Int)+1) (by omega) (by omega)];(first|refine hK _ _ _ ?_|refine ⟨_,hih,hK _ _ _ ?_⟩);clear hK K)|refine sT ?_))
     exact ⟨k+1,by omega,by omega,by simp [Sub,lk]⟩
    ·have e:k=M:=by omega
     subst e
     (repeat (first|((with_reducible refine rC rfl fun K hK=>?_);simp only [go_sem,seval,↓reduceIte,show ¬ (k:Int)<(k:Int) by omega];refine hK _ _ _ ?_;clear hK K)|refine sT ?_))
     refine AWP.ret (En ?_)
     obtain ⟨k0,rfl⟩:∃ k0,k=k0+1:=⟨k-1,by omega⟩
     refine ⟨⟨_,rfl⟩,?_,0,rfl,.inl rfl⟩
     simp only [cvY,List.replicate_succ]
     rw [show ((k0+1:Nat):Int)-1=(k0:Int) by omega]
     rfl
  | some h=>
   obtain ⟨k1,hk1,hk2,hk3⟩:=L1 M hr
   obtain ⟨hh1,hh2,hh3⟩:=Gr d _ h (List.mem_of_find?_eq_some hk3)
   simp only [List.length_append,List.length_take,List.length_cons,List.length_nil,Nat.zero_add] at hh1
   have hhl:h.length=K:=by omega
   simp only [cuL,cuS,Option.isNone_some]
   refine (Ia (by decide)).2 (AFc.of' (tr:=6) (d:=3) ttOk md Tryz.func230 Tryz.ntmps230 (by rw [Tryz.results230]) (by rfl) (by rfl) (by decide) (by decide) (by decide) (by rfl) (by rfl) (by rfl) (by kernel_rfl) (by decide) (by rfl) (by kernel_rfl) (by kernel_rfl) (by simp [Ft];omega) (Bf _) (Bf _) (by rfl) (by rfl) (by simp [T.noF,T.noFL,Dm]) mixed (fun C hP hM hC=>?_))
   (repeat (first|((with_reducible refine rC rfl fun K hK=>?_);simp only [go_sem,seval,↓reduceIte,List.length_cons,show (((j+1:Nat):Int)==((x.length+1:Nat):Int))=false by rw [beq_eq_false_iff_ne];omega];refine hK _ _ _ ?_;clear hK K)|refine sT ?_))
   refine AWP.loop (fun k:Nat=>[(23,⟨0,.val (.int .i64 k)⟩),(22,⟨0,.val (.int .i64 M)⟩),(1,⟨0,.val (.int .i64 (j+1:Nat))⟩),(2,⟨0,.val (.fn 235 [.fptr (.fn 139 []),.fptr (.agg [.int .i64 (M:Int),.sl false 27 (rowsF lf)]),.fptr (.agg [.int .i64 (M:Int),.sl false 27 (rowsF lg)]),.addr 3000001 0 [] 0 [0],.fptr (.bool true)])⟩),(3,⟨0,.own (.box 29 (.agg [.int .i64 M,.sl true 2 (intL (0::cvY M j d x k))]))⟩),(3000001,⟨0,.own (.box 142 (.sl true 29 []))⟩)]) (fun k=>k≤k1) (fun k=>M-k) 0 (Nat.zero_le _) (fun k=>rfl) ?_ (fun k hk=>?_)
   ·simp [Sub,lk,cvY]
   ·have hy:=Fx (M:=M) (x:=x) (j:=j) (d:=d) (by omega) k
    have hn2:=Gw (M:=M) (x:=x) (j:=j) (d:=d) (by omega) k
    have hset:(0::cvY M j d x k).set (j+1) (k:Int)=0::(cvY M j d x k).set j (k:Int):=rfl
    have hjl:j+1<(0::cvY M j d x k).length:=by simp;omega
    by_cases hlt:k<k1
    ·have hih:=hround k (by omega) none (Hq k1 hk2 k hlt)
     simp only [cuL,cuS,Option.isNone_none] at hih
     rw [← hn2.1,hn2.2] at hih
     (repeat (first|((with_reducible refine rC rfl fun K hK=>?_);simp only [go_sem,seval,↓reduceIte,show (k:Int)<(M:Int) by omega,List.length_cons,hy.1,Int.toNat_natCast,Int.natCast_nonneg,Nat.mul_one,show ((j+1:Nat):Int)<((j+d+1+1:Nat):Int) by omega,Ae _ (j+1) hjl,Aa _ (j+1) (Nat.le_of_lt hjl),Ax,hset,show IntKind.i64.wrap (((j+1:Nat):Int)+1)=((j+1+1:Nat):Int) by rw [wid _ (by omega) (by omega)];omega,wid ((k:Int)+1) (by omega) (by omega)];(first|refine hK _ _ _ ?_|refine ⟨_,hih,hK _ _ _ ?_⟩);clear hK K)|refine sT ?_))
     exact ⟨k+1,by omega,by omega,by simp [Sub,lk]⟩
    ·have e:k=k1:=by omega
     subst e
     have hih:=hround k hk1 (some h) hk3
     simp only [cuL,cuS,Option.isNone_some] at hih
     (repeat (first|((with_reducible refine rC rfl fun K hK=>?_);simp only [go_sem,seval,↓reduceIte,show (k:Int)<(M:Int) by omega,List.length_cons,hy.1,Int.toNat_natCast,Int.natCast_nonneg,Nat.mul_one,show ((j+1:Nat):Int)<((j+d+1+1:Nat):Int) by omega,Ae _ (j+1) hjl,Aa _ (j+1) (Nat.le_of_lt hjl),Ax,hset,show IntKind.i64.wrap (((j+1:Nat):Int)+1)=((j+1+1:Nat):Int) by rw [wid _ (by omega) (by omega)];omega];(first|refine hK _ _ _ ?_|refine ⟨_,hih,hK _ _ _ ?_⟩);clear hK K)|refine sT ?_))
     refine AWP.ret (En ?_)
     exact ⟨⟨_,rfl⟩,rfl,1,rfl,.inr rfl⟩
end Go.Proofs.YtapdekacpecgiaaGreat
