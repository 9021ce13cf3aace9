import Derived.Test.YtapdekacpecgiaaGreatLc
import Derived.Test.YtapdekacpecgiaaGreatPa
import Derived.Test.YtapdekacpecgiaaGreatMb
namespace Go.Proofs.YtapdekacpecgiaaGreat
open Go.RowKit
set_option linter.unusedSimpArgs false
set_option linter.unusedVariables false
set_option linter.unusedSectionVars false
set_option maxRecDepth 20000
set_option maxHeartbeats 1000000
def codeN (m:Int) (l:List Int):Int:=if (decide (2≤m)&&decide (m≤10000))=true then (if l.all (isNum m) then 0 else 2) else 1
theorem Ou (x m:Int) (h1 : -9000000000000000000≤m) (h2:m≤9000000000000000000):AFn Tryz.prog 240 [.int .i64 x,.fptr (.int .i64 m)] (.bool (isNum m x)):=by
 refine fO Tryz.func240 Tryz.ntmps240 (by rw [Tryz.results240]) fun C hP hM hC=>?_
 (repeat (first|((with_reducible refine rC rfl fun K hK=>?_);simp only [go_sem,seval,↓reduceIte];(first|refine hK _ _ _ ?_|refine ⟨_,Dx _ _ h1 h2,hK _ _ _ ?_⟩);clear hK K)|refine sT ?_))
 refine rt1 ?_
 rfl
theorem Q1 (m:Int) (l:List Int) (hl:l.length≤1099511627776):AFn Tryz.prog 198 [.int .i64 m,.sl false 2 (intL l)] (.int .i64 (codeN m l)):=by
 refine fO Tryz.func198 Tryz.ntmps198 (by rw [Tryz.results198]) fun C hP hM hC=>?_
 cases hm:(decide (2≤m)&&decide (m≤10000)) with
 | false=>
  (repeat (first|((with_reducible refine rC rfl fun K hK=>?_);simp only [go_sem,seval,↓reduceIte,hm];(first|refine hK _ _ _ ?_|refine ⟨_,Bz _,hK _ _ _ ?_⟩);clear hK K)|refine sT ?_))
  refine rt1 ?_
  simp [codeN,hm]
 | true=>
  have hm2:2≤m∧m≤10000:=by simpa using hm
  have hA:=Ec l hl 240 [.fptr (.int .i64 m)] (by decide) (by rfl) (by rfl) (fun c=>rfl) (isNum m) (fun x hx=>Ou x m (by omega) (by omega))
  cases hs:l.all (isNum m) with
  | false=>
   rw [hs] at hA
   (repeat (first|((with_reducible refine rC rfl fun K hK=>?_);simp only [go_sem,seval,↓reduceIte,hm];(first|refine hK _ _ _ ?_|refine ⟨_,Bz _,hK _ _ _ ?_⟩|refine ⟨_,hA,hK _ _ _ ?_⟩);clear hK K)|refine sT ?_))
   refine rt1 ?_
   simp [codeN,hm,hs]
  | true=>
   rw [hs] at hA
   (repeat (first|((with_reducible refine rC rfl fun K hK=>?_);simp only [go_sem,seval,↓reduceIte,hm];(first|refine hK _ _ _ ?_|refine ⟨_,Bz _,hK _ _ _ ?_⟩|refine ⟨_,hA,hK _ _ _ ?_⟩);clear hK K)|refine sT ?_))
   refine rt1 ?_
   simp [codeN,hm,hs]
theorem Cr (n m:Int) (h:0<m) (h2:m≤4611686018427387904):AFn Tryz.prog 128 [.int .i64 n,.int .i64 m] (.int .i64 (n%m)):=by
 refine fO Tryz.func128 Tryz.ntmps128 (by rw [Tryz.results128]) fun C hP hM hC=>?_
 have h1:=Int.neg_lt_tmod_of_pos' n h
 (repeat (first|((with_reducible refine rC rfl fun K hK=>?_);simp only [go_sem,seval,↓reduceIte,show m≠0 by omega,wid (n.tmod m+m) (by omega) (by omega),Af3 n m h];refine hK _ _ _ ?_;clear hK K)|refine sT ?_))
 refine rt1 ?_
 rfl
theorem El (m d:Int) (n:Nat) (hd:d+1=n) (hn:n≤1099511627776):AFn Tryz.prog 119 [.int .i64 m,.int .i64 d] (.agg [.int .i64 m,.sl true 2 (intL (tab n (fun _=>0)))]):=by
 refine fO Tryz.func119 Tryz.ntmps119 (by rw [Tryz.results119]) fun C hP hM hC=>?_
 (repeat (first|((with_reducible refine rC rfl fun K hK=>?_);simp only [go_sem,seval,↓reduceIte,wid (n:Int) (by omega) (by omega),hd,Int.natCast_nonneg,Int.toNat_natCast,show (n:Int)≤1099511627776 by omega,C6,Fk,Kt];refine hK _ _ _ ?_;clear hK K)|refine sT ?_))
 refine rt1 ?_
 rfl
theorem Fc (m:Int) (l:List Int) (c:Int) (hl:l.length≤1000000) (h0:0<l.length) (hm:0<m) (hm2:m≤1000000000000):AFn Tryz.prog 177 [.agg [.int .i64 m,.sl false 2 (intL l)],.int .i64 c] (.agg [.int .i64 m,.sl true 2 (intL (tab l.length (fun j=>if j=0 then c%m else 0)))]):=by
 refine fO Tryz.func177 Tryz.ntmps177 (by rw [Tryz.results177]) fun C hP hM hC=>?_
 have hI:(0:Int)<(l.length:Int):=by omega
 (repeat (first|((with_reducible refine rC rfl fun K hK=>?_);simp only [go_sem,seval,↓reduceIte,Ae,hI,Int.le_refl,Int.toNat_zero,Ao _ 0 (show 0<(tab l.length (fun _=>0)).length by simpa [Ae] using h0),B7,Y5,List.take_zero,Nat.zero_mul,show (0:Int)<(l.length:Int) by omega,h0];(first|refine hK _ _ _ ?_|refine ⟨_,Bb m l (by omega),hK _ _ _ ?_⟩|refine ⟨_,El m ((l.length:Int)-1) l.length (by omega) (by omega),hK _ _ _ ?_⟩|refine ⟨_,Cr c m hm (by omega),hK _ _ _ ?_⟩);clear hK K)|refine sT ?_))
 refine rt1 ?_
 rfl
theorem Q9 (m:Int) (l:List Int):AFn Tryz.prog 77 [.int .i64 m,.sl true 2 (intL l)] (.agg [.int .i64 m,.sl true 2 (intL l)]):=by
 refine fO Tryz.func77 Tryz.ntmps77 (by rw [Tryz.results77]) fun C hP hM hC=>?_
 (repeat (first|((with_reducible refine rC rfl fun K hK=>?_);simp only [go_sem,seval,↓reduceIte];refine hK _ _ _ ?_;clear hK K)|refine sT ?_))
 refine rt1 ?_
 rfl
theorem Jj (m:Int) (la lb:List Int) (d:Nat) (hm:0<m) (hm2:m≤1099511627776) (ha:∀ x∈la,0≤x∧x<m) (hb:∀ x∈lb,0≤x∧x<m) (hla:la.length=d+1) (hlb:lb.length=d+1) (hd:d≤1000000):AFn Tryz.prog 179 [.agg [.int .i64 m,.sl false 2 (intL la)],.agg [.int .i64 m,.sl false 2 (intL lb)]] (.agg [.int .i64 m,.sl true 2 (intL (timesL m la lb d))]):=by
 refine fO Tryz.func179 Tryz.ntmps179 (by rw [Tryz.results179]) fun C hP hM hC=>?_
 have hm0:m≠0:=by omega
 (repeat (first|((with_reducible refine rC rfl fun K hK=>?_);simp only [go_sem,seval,↓reduceIte];(first|refine hK _ _ _ ?_|refine ⟨_,Bb m la (by omega),hK _ _ _ ?_⟩|refine ⟨_,El m ((la.length:Int)-1) (d+1) (by omega) (by omega),hK _ _ _ ?_⟩);clear hK K)|refine sT ?_))
 refine AWP.loop (fun i:Nat=>[(18,⟨0,.val (.int .i64 i)⟩),(17,⟨0,.val (.int .i64 (d+1:Nat))⟩),(16,⟨0,.val (.sl false 2 (intL la))⟩),(5,⟨2,.own (.box 29 (.agg [.int .i64 m,.sl true 2 (intL (tab (d+1) (pr (at' la) (at' lb) m i)))]))⟩),(2,⟨1,.own (.box 29 (.agg [.int .i64 m,.sl false 2 (intL la)]))⟩),(3,⟨1,.own (.box 29 (.agg [.int .i64 m,.sl false 2 (intL lb)]))⟩),(4,⟨1,.own (.box 29 (.agg [.int .i64 0,.nil]))⟩)]) (fun i=>i≤d+1) (fun i=>d+1-i) 0 (Nat.zero_le _) (fun i=>rfl) ?_ (fun i hi=>?_)
 ·have e:tab (d+1) (pr (at' la) (at' lb) m 0)=tab (d+1) (fun _=>0):=Bn fun j _=>Aji _ _ _ _
  simp [Sub,lk,e,hla]
 ·by_cases hc:i<d+1
  ·have hI1:((i:Int)<((d+1:Nat):Int)):=by omega
   have hx:=A4 ha hm i
   have e0:tab (d+1) (pr (at' la) (at' lb) m i)=tab (d+1) (row (at' la) (at' lb) m i 0):=Bn fun j _=>(Aid _ _ _ _ _).symm
   (repeat (first|((with_reducible refine rC rfl fun K hK=>?_);simp only [go_sem,seval,↓reduceIte,hI1,hla,hlb,Ac la i (by omega),show la.getD i 0=at' la i from rfl,Int.toNat_natCast,Int.natCast_nonneg,wid (((d+1:Nat):Int)-i) (by omega) (by omega),show (0:Int)≤((d+1:Nat):Int)-i by omega,show ((d+1:Nat):Int)-i≤((d+1:Nat):Int) by omega,List.drop_zero,show (((d+1:Nat):Int)-i).toNat=d+1-i by omega,show (intL lb).take (d+1-i)=intL (lb.take (d+1-i)) by simp [intL],List.length_take,Nat.min_eq_left (show d+1-i≤d+1 by omega)];refine hK _ _ _ ?_;clear hK K)|refine sT ?_))
   refine AWP.loop (fun k:Nat=>[(32,⟨0,.val (.int .i64 k)⟩),(31,⟨0,.val (.int .i64 (d+1-i:Nat))⟩),(30,⟨0,.val (.sl false 2 (intL (lb.take (d+1-i))))⟩),(6,⟨0,.val (.int .i64 i)⟩),(7,⟨0,.val (.int .i64 (at' la i))⟩),(18,⟨0,.val (.int .i64 i)⟩),(17,⟨0,.val (.int .i64 (d+1:Nat))⟩),(16,⟨0,.val (.sl false 2 (intL la))⟩),(5,⟨2,.own (.box 29 (.agg [.int .i64 m,.sl true 2 (intL (tab (d+1) (row (at' la) (at' lb) m i k)))]))⟩),(2,⟨1,.own (.box 29 (.agg [.int .i64 m,.sl false 2 (intL la)]))⟩),(3,⟨1,.own (.box 29 (.agg [.int .i64 m,.sl false 2 (intL lb)]))⟩),(4,⟨1,.own (.box 29 (.agg [.int .i64 0,.nil]))⟩)]) (fun k=>k≤d+1-i) (fun k=>d+1-i-k) 0 (Nat.zero_le _) (fun i=>rfl) ?_ (fun k hk=>?_)
   ·simp [Sub,lk,← e0]
   ·by_cases hk2:k<d+1-i
    ·have hy:=A4 hb hm k
     have hp:=Af7 (at' la) (at' lb) hm i (i+k)
     have hz:=Ag (at' la i*at' lb k) m hm
     have hlen:i+k<(tab (d+1) (row (at' la) (at' lb) m i k)).length:=by rw [Ae];omega
     have g1:(tab (d+1) (row (at' la) (at' lb) m i k)).getD (i+k) 0=pr (at' la) (at' lb) m i (i+k):=by rw [Es (by omega),Alw]
     have g2:(lb.take (d+1-i)).getD k 0=at' lb k:=by simp [at',List.getD_eq_getElem?_getD,List.getElem?_take_of_lt hk2]
     have g3:(pr (at' la) (at' lb) m i (i+k)+at' la i*at' lb k%m)%m=pr (at' la) (at' lb) m (i+1) (i+k):=by rw [Int.add_emod_emod,Ake]
     have hlen2:k<(lb.take (d+1-i)).length:=by rw [List.length_take];omega
     have hK1:((k:Int)<((d+1-i:Nat):Int)):=by omega
     (repeat (first|((with_reducible refine rC rfl fun K hK=>?_);simp only [go_sem,seval,↓reduceIte,hK1,wid ((i:Int)+k) (by omega) (by omega),Ac _ k hlen2,List.length_take,hlb,Nat.min_eq_left (show d+1-i≤d+1 by omega),Ac _ _ hlen,g1,g2,g3,Int.toNat_natCast,Int.natCast_nonneg,show ((i:Int)+k).toNat=i+k by omega,show (0:Int)≤(i:Int)+k by omega,Ae,show (i:Int)+k<((d+1:Nat):Int) by omega,wid (pr (at' la) (at' lb) m i (i+k)+at' la i*at' lb k%m) (by omega) (by omega),tm (pr (at' la) (at' lb) m i (i+k)+at' la i*at' lb k%m) m (by omega),hm0,Nat.mul_one,Ao _ _ hlen,Ai _ _ (Nat.le_of_lt hlen),B7,H0 (fun n _=>Ajs (at' la) (at' lb) m i k n),wid ((k:Int)+1) (by omega) (by omega)];(first|refine hK _ _ _ ?_|refine ⟨_,Cv m (at' la i) (at' lb k) hm (by omega) hx.1 hx.2 hy.1 hy.2,hK _ _ _ ?_⟩);clear hK K)|refine sT ?_))
     exact ⟨k+1,by omega,by omega,by simp [Sub,lk]⟩
    ·have hE:tab (d+1) (row (at' la) (at' lb) m i k)=tab (d+1) (pr (at' la) (at' lb) m (i+1)):=Bn fun n hn=>Aj5 fun hn2=>by omega
     have hK1:¬ ((k:Int)<((d+1-i:Nat):Int)):=by omega
     (repeat (first|((with_reducible refine rC rfl fun K hK=>?_);simp only [go_sem,seval,↓reduceIte,hK1,wid ((i:Int)+1) (by omega) (by omega)];refine hK _ _ _ ?_;clear hK K)|refine sT ?_))
     exact ⟨i+1,by omega,by omega,by simp [Sub,lk,hE]⟩
  ·have hE:tab (d+1) (pr (at' la) (at' lb) m i)=timesL m la lb d:=Bn fun n hn=>Al5 fun j hj hj2=>Ala (by omega)
   have hI1:¬ ((i:Int)<((d+1:Nat):Int)):=by omega
   (repeat (first|((with_reducible refine rC rfl fun K hK=>?_);simp only [go_sem,seval,↓reduceIte,hI1];refine hK _ _ _ ?_;clear hK K)|refine sT ?_))
   refine rt1 ?_
   rw [← hE]
theorem Dt (m n:Int) (h:0<m) (h2:m≤4611686018427387904):AFn Tryz.prog 204 [.int .i64 m,.int .i64 n] (.int .i64 (n%m)):=by
 refine fO Tryz.func204 Tryz.ntmps204 (by rw [Tryz.results204]) fun C hP hM hC=>?_
 have h1:=Int.neg_lt_tmod_of_pos' n h
 (repeat (first|((with_reducible refine rC rfl fun K hK=>?_);simp only [go_sem,seval,↓reduceIte,show m≠0 by omega,wid (n.tmod m+m) (by omega) (by omega),Af3 n m h];refine hK _ _ _ ?_;clear hK K)|refine sT ?_))
 refine rt1 ?_
 rfl
theorem Sr (m a:Int) (hm:0<m) (hm2:m≤1000000000):AFn Tryz.prog 136 [.int .i64 m,.int .i64 a] (.int .i64 (invL m a)):=by
 refine fO Tryz.func136 Tryz.ntmps136 (by rw [Tryz.results136]) fun C hP hM hC=>?_
 (repeat (first|((with_reducible refine rC rfl fun K hK=>?_);simp only [go_sem,seval,↓reduceIte];(first|refine hK _ _ _ ?_|refine ⟨_,Dt m a hm (by omega),hK _ _ _ ?_⟩);clear hK K)|refine sT ?_))
 refine AWP.loop (fun w:Int×Int×Int×Int=>[(5,⟨0,.val (.int .i64 w.1)⟩),(6,⟨0,.val (.int .i64 w.2.1)⟩),(7,⟨0,.val (.int .i64 w.2.2.1)⟩),(8,⟨0,.val (.int .i64 w.2.2.2)⟩),(0,⟨0,.val (.int .i64 m)⟩)]) (fun w=>EuB m w.1 w.2.1 w.2.2.1 w.2.2.2∧eu w.1 w.2.1 w.2.2.1 w.2.2.2=eu m (a%m) 0 1) (fun w=>w.2.1.toNat) (m,a%m,0,1) ⟨Ry hm,rfl⟩ (fun i=>rfl) ?_ (fun w hw=>?_)
 ·simp [Sub,lk]
 ·obtain ⟨r,s,x,y⟩:=w
  obtain ⟨hB,hE⟩:=hw
  simp only at hB hE ⊢
  by_cases hs:0<s
  ·obtain ⟨g1,g2,g3,g4,e,g5,g6,g7,g8⟩:=Mv hB hs
   have hr:=hB.1
   have td:r.tdiv s=r/s:=Int.tdiv_eq_ediv_of_nonneg (by omega)
   (repeat (first|((with_reducible refine rC rfl fun K hK=>?_);simp only [go_sem,seval,↓reduceIte,hs,show s≠0 by omega,td,wid (r/s) (by omega) (by omega),wid (r/s*s) (by omega) (by omega),e,wid (r%s) (by have:=Ag r s hs;have:=hB.2.2.2.1;omega) (by have:=Ag r s hs;have:=hB.2.2.2.1;omega),wid (r/s*y) (by omega) (by omega),wid (x-r/s*y) (by omega) (by omega)];refine hK _ _ _ ?_;clear hK K)|refine sT ?_))
   refine ⟨(s,r%s,y,x-r/s*y),⟨Td hB hs,by rw [← hE];exact (Qq hs).symm⟩,?_,by simp [Sub,lk]⟩
   have:=Ag r s hs
   simp only
   omega
  ·(repeat (first|((with_reducible refine rC rfl fun K hK=>?_);simp only [go_sem,seval,↓reduceIte,hs];(first|refine hK _ _ _ ?_|refine ⟨_,Dt m x hm (by omega),hK _ _ _ ?_⟩);clear hK K)|refine sT ?_))
   refine rt1 ?_
   rw [Ut hs] at hE
   rw [hE];rfl
theorem H4 (m a:Int) (hm:0<m) (hm2:m≤1099511627776):AFn Tryz.prog 120 [.int .i64 m,.int .i64 a] (.int .i64 (invL m a)):=by
 refine fO Tryz.func120 Tryz.ntmps120 (by rw [Tryz.results120]) fun C hP hM hC=>?_
 (repeat (first|((with_reducible refine rC rfl fun K hK=>?_);simp only [go_sem,seval,↓reduceIte];(first|refine hK _ _ _ ?_|refine ⟨_,Cr a m hm (by omega),hK _ _ _ ?_⟩);clear hK K)|refine sT ?_))
 refine AWP.loop (fun w:Int×Int×Int×Int=>[(7,⟨0,.val (.int .i64 w.1)⟩),(8,⟨0,.val (.int .i64 w.2.1)⟩),(5,⟨0,.val (.int .i64 w.2.2.1)⟩),(6,⟨0,.val (.int .i64 w.2.2.2)⟩),(0,⟨0,.val (.int .i64 m)⟩)]) (fun w=>EuB m w.1 w.2.1 w.2.2.1 w.2.2.2∧eu w.1 w.2.1 w.2.2.1 w.2.2.2=eu m (a%m) 0 1) (fun w=>w.2.1.toNat) (m,a%m,0,1) ⟨Ry hm,rfl⟩ (fun i=>rfl) ?_ (fun w hw=>?_)
 ·simp [Sub,lk]
 ·obtain ⟨r,s,x,y⟩:=w
  obtain ⟨hB,hE⟩:=hw
  simp only at hB hE ⊢
  by_cases hs:0<s
  ·obtain ⟨g1,g2,g3,g4,e,g5,g6,g7,g8⟩:=Mv hB hs
   have hr:=hB.1
   have td:r.tdiv s=r/s:=Int.tdiv_eq_ediv_of_nonneg (by omega)
   (repeat (first|((with_reducible refine rC rfl fun K hK=>?_);simp only [go_sem,seval,↓reduceIte,show (s != 0)=true by simp;omega,show s≠0 by omega,td,wid (r/s) (by omega) (by omega),wid (r/s*s) (by omega) (by omega),e,wid (r%s) (by have:=Ag r s hs;have:=hB.2.2.2.1;omega) (by have:=Ag r s hs;have:=hB.2.2.2.1;omega),wid (r/s*y) (by omega) (by omega),wid (x-r/s*y) (by omega) (by omega)];refine hK _ _ _ ?_;clear hK K)|refine sT ?_))
   refine ⟨(s,r%s,y,x-r/s*y),⟨Td hB hs,by rw [← hE];exact (Qq hs).symm⟩,?_,by simp [Sub,lk]⟩
   have:=Ag r s hs
   simp only
   omega
  ·have hs0:s=0:=by have:=hB.2.2.1;omega
   (repeat (first|((with_reducible refine rC rfl fun K hK=>?_);simp only [go_sem,seval,↓reduceIte,show (s != 0)=false by simp [hs0]];(first|refine hK _ _ _ ?_|refine ⟨_,Cr x m hm (by omega),hK _ _ _ ?_⟩);clear hK K)|refine sT ?_))
   refine rt1 ?_
   rw [Ut hs] at hE
   rw [hE];rfl
theorem Qf (m a:Int) (hm:0<m) (hm2:m≤1000000000):AFn Tryz.prog 120 [.int .i64 m,.int .i64 a] (.int .i64 (invL m a)):=H4 m a hm (by omega)
theorem Lc (a b:Nat) (ha:a≤4611686018427387904) (hb:b≤4611686018427387904):AFn Tryz.prog 215 [.int .i64 a,.int .i64 b] (.int .i64 (Nat.gcd a b)):=by
 refine fO Tryz.func215 Tryz.ntmps215 (by rw [Tryz.results215]) fun C hP hM hC=>?_
 (repeat (first|((with_reducible refine rC rfl fun K hK=>?_);simp only [go_sem,seval,↓reduceIte,show ¬ (a:Int)<0 by omega,show ¬ (b:Int)<0 by omega];refine hK _ _ _ ?_;clear hK K)|refine sT ?_))
 refine AWP.loop (fun w:Nat×Nat=>[(0,⟨0,.val (.int .i64 w.1)⟩),(1,⟨0,.val (.int .i64 w.2)⟩)]) (fun w=>Nat.gcd w.1 w.2=Nat.gcd a b∧w.1≤4611686018427387904∧w.2≤4611686018427387904) (fun w=>w.2) (a,b) ⟨rfl,ha,hb⟩ (fun i=>rfl) ?_ (fun w hw=>?_)
 ·simp [Sub,lk]
 ·obtain ⟨x,y⟩:=w
  simp only at hw ⊢
  by_cases hs:0<y
  ·have e:(x:Int).tmod y=((x%y:Nat):Int):=by rw [tm _ _ (by omega)];simp
   (repeat (first|((with_reducible refine rC rfl fun K hK=>?_);simp only [go_sem,seval,↓reduceIte,show (0:Int)<(y:Int) by omega,show (y:Int)≠0 by omega,e];refine hK _ _ _ ?_;clear hK K)|refine sT ?_))
   have h1:=Nat.mod_lt x hs
   exact ⟨(y,x%y),⟨by rw [← hw.1];exact Vu x y,by simp only;omega,by simp only;omega⟩,h1,by simp [Sub,lk]⟩
  ·have hy:y=0:=by omega
   subst hy
   (repeat (first|((with_reducible refine rC rfl fun K hK=>?_);simp only [go_sem,seval,↓reduceIte,show ¬ (0:Int)<((0:Nat):Int) by omega];refine hK _ _ _ ?_;clear hK K)|refine sT ?_))
   refine rt1 ?_
   rw [← hw.1,Nat.gcd_zero_right]
theorem Aai (a b:Nat) (ha:a≤4611686018427387904) (hb:b≤4611686018427387904):AFn Tryz.prog 221 [.int .i64 a,.int .i64 b] (.int .i64 (Nat.gcd a b)):=by
 refine fO Tryz.func221 Tryz.ntmps221 (by rw [Tryz.results221]) fun C hP hM hC=>?_
 (repeat (first|((with_reducible refine rC rfl fun K hK=>?_);simp only [go_sem,seval,↓reduceIte];refine hK _ _ _ ?_;clear hK K)|refine sT ?_))
 refine AWP.loop (fun w:Nat×Nat=>[(0,⟨0,.val (.int .i64 w.1)⟩),(1,⟨0,.val (.int .i64 w.2)⟩)]) (fun w=>Nat.gcd w.1 w.2=Nat.gcd a b∧w.1≤4611686018427387904∧w.2≤4611686018427387904) (fun w=>w.2) (a,b) ⟨rfl,ha,hb⟩ (fun i=>rfl) ?_ (fun w hw=>?_)
 ·simp [Sub,lk]
 ·obtain ⟨x,y⟩:=w
  simp only at hw ⊢
  by_cases hs:0<y
  ·have e:(x:Int).tmod y=((x%y:Nat):Int):=by rw [tm _ _ (by omega)];simp
   (repeat (first|((with_reducible refine rC rfl fun K hK=>?_);simp only [go_sem,seval,↓reduceIte,show ((y:Int) != 0)=true by simp;omega,show (y:Int)≠0 by omega,e];refine hK _ _ _ ?_;clear hK K)|refine sT ?_))
   have h1:=Nat.mod_lt x hs
   exact ⟨(y,x%y),⟨by rw [← hw.1];exact Vu x y,by simp only;omega,by simp only;omega⟩,h1,by simp [Sub,lk]⟩
  ·have hy:y=0:=by omega
   subst hy
   (repeat (first|((with_reducible refine rC rfl fun K hK=>?_);simp only [go_sem,seval,↓reduceIte,wid (0-(x:Int)) (by omega) (by omega),show ¬ (0-(x:Int)>(x:Int)) by omega,show ¬ ((x:Int)<0-(x:Int)) by omega];refine hK _ _ _ ?_;clear hK K)|refine sT ?_))
   refine rt1 ?_
   rw [← hw.1,Nat.gcd_zero_right]
theorem Ep (m a:Int) (k:Nat) (hm:0<m) (hm2:m≤1000000) (hk:k≤1000000000000):AFn Tryz.prog 135 [.int .i64 m,.int .i64 a,.int .i64 k] (.int .i64 (a^k%m)):=by
 refine fO Tryz.func135 Tryz.ntmps135 (by rw [Tryz.results135]) fun C hP hM hC=>?_
 have h1:=Ag 1 m hm
 have ha:=Ag a m hm
 (repeat (first|((with_reducible refine rC rfl fun K hK=>?_);simp only [go_sem,seval,↓reduceIte,show m≠0 by omega,tm 1 m (by omega)];(first|refine hK _ _ _ ?_|refine ⟨_,Dt m a hm (by omega),hK _ _ _ ?_⟩);clear hK K)|refine sT ?_))
 refine AWP.loop (fun w:Nat×Int×Int=>[(2,⟨0,.val (.int .i64 w.1)⟩),(7,⟨0,.val (.int .i64 w.2.1)⟩),(1,⟨0,.val (.int .i64 w.2.2)⟩),(0,⟨0,.val (.int .i64 m)⟩)]) (fun w=>w.1≤k∧(0≤w.2.1∧w.2.1<m)∧(0≤w.2.2∧w.2.2<m)∧w.2.1*w.2.2^w.1%m=a^k%m) (fun w=>w.1) (k,1%m,a%m) ⟨Nat.le_refl _,h1,ha,by rw [Fx,Int.one_mul,Dv]⟩ (fun i=>rfl) ?_ (fun w hw=>?_)
 ·simp [Sub,lk]
 ·obtain ⟨j,o,b⟩:=w
  simp only at hw ⊢
  obtain ⟨hj,ho,hb,hE⟩:=hw
  by_cases hs:0<j
  ·have b1:=Ee ho.1 ho.2 hb.1 hb.2 hm2
   have b2:=Ee hb.1 hb.2 hb.1 hb.2 hm2
   have hs':(0:Int)<(j:Int):=by omega
   by_cases ho2:j%2=1
   ·(repeat (first|((with_reducible refine rC rfl fun K hK=>?_);simp only [go_sem,seval,↓reduceIte,hs',Im,I2,ho2,Int.cast_ofNat_Int,wid (o*b) (by omega) (by omega),wid (b*b) (by omega) (by omega),tm _ m b1.1,tm _ m b2.1,show m≠0 by omega,show (2:Int)≠0 by omega,wid ((j/2:Nat):Int) (by omega) (by omega)];refine hK _ _ _ ?_;clear hK K)|refine sT ?_))
    exact ⟨(j/2,o*b%m,b*b%m),⟨by simp only;omega,Ag _ m hm,Ag _ m hm,by rw [← hE];exact Afa o b m j ho2⟩,by simp only;omega,by simp [Sub,lk]⟩
   ·have ho3:j%2=0:=by omega
    (repeat (first|((with_reducible refine rC rfl fun K hK=>?_);simp only [go_sem,seval,↓reduceIte,hs',Im,I2,ho3,Int.cast_ofNat_Int,Int.natCast_zero,wid (b*b) (by omega) (by omega),tm _ m b2.1,show m≠0 by omega,show (2:Int)≠0 by omega,wid ((j/2:Nat):Int) (by omega) (by omega)];refine hK _ _ _ ?_;clear hK K)|refine sT ?_))
    exact ⟨(j/2,o,b*b%m),⟨by simp only;omega,ho,Ag _ m hm,by rw [← hE];exact Y0 o b m j ho3⟩,by simp only;omega,by simp [Sub,lk]⟩
  ·have hj0:j=0:=by omega
   subst hj0
   (repeat (first|((with_reducible refine rC rfl fun K hK=>?_);simp only [go_sem,seval,↓reduceIte,show ¬ (0:Int)<((0:Nat):Int) by omega,Int.natCast_zero];refine hK _ _ _ ?_;clear hK K)|refine sT ?_))
   refine rt1 ?_
   rw [← hE,Int.pow_zero,Int.mul_one,Int.emod_eq_of_lt ho.1 ho.2]
theorem E2 (m a:Int) (k:Nat) (hm:0<m) (hm2:m≤1099511627776) (ha:0≤a) (ha2:a<m) (hk:k≤1000000000000):AFn Tryz.prog 200 [.int .i64 m,.int .i64 a,.int .i64 k] (.int .i64 (a^k%m)):=by
 refine fO Tryz.func200 Tryz.ntmps200 (by rw [Tryz.results200]) fun C hP hM hC=>?_
 have h1:=Ag 1 m hm
 (repeat (first|((with_reducible refine rC rfl fun K hK=>?_);simp only [go_sem,seval,↓reduceIte,show m≠0 by omega,tm 1 m (by omega)];refine hK _ _ _ ?_;clear hK K)|refine sT ?_))
 refine AWP.loop (fun w:Nat×Int×Int=>[(2,⟨0,.val (.int .i64 w.1)⟩),(7,⟨0,.val (.int .i64 w.2.1)⟩),(1,⟨0,.val (.int .i64 w.2.2)⟩),(0,⟨0,.val (.int .i64 m)⟩)]) (fun w=>w.1≤k∧(0≤w.2.1∧w.2.1<m)∧(0≤w.2.2∧w.2.2<m)∧w.2.1*w.2.2^w.1%m=a^k%m) (fun w=>w.1) (k,1%m,a) ⟨Nat.le_refl _,h1,⟨ha,ha2⟩,by rw [Fx,Int.one_mul]⟩ (fun i=>rfl) ?_ (fun w hw=>?_)
 ·simp [Sub,lk]
 ·obtain ⟨j,o,b⟩:=w
  simp only at hw ⊢
  obtain ⟨hj,ho,hb,hE⟩:=hw
  by_cases hs:0<j
  ·have hs':(0:Int)<(j:Int):=by omega
   by_cases ho2:j%2=1
   ·(repeat (first|((with_reducible refine rC rfl fun K hK=>?_);simp only [go_sem,seval,↓reduceIte,hs',Im,I2,ho2,Int.cast_ofNat_Int,show (2:Int)≠0 by omega,wid ((j/2:Nat):Int) (by omega) (by omega)];(first|refine hK _ _ _ ?_|refine ⟨_,Cv m o b hm (by omega) ho.1 ho.2 hb.1 hb.2,hK _ _ _ ?_⟩|refine ⟨_,Cv m b b hm (by omega) hb.1 hb.2 hb.1 hb.2,hK _ _ _ ?_⟩);clear hK K)|refine sT ?_))
    exact ⟨(j/2,o*b%m,b*b%m),⟨by simp only;omega,Ag _ m hm,Ag _ m hm,by rw [← hE];exact Afa o b m j ho2⟩,by simp only;omega,by simp [Sub,lk]⟩
   ·have ho3:j%2=0:=by omega
    (repeat (first|((with_reducible refine rC rfl fun K hK=>?_);simp only [go_sem,seval,↓reduceIte,hs',Im,I2,ho3,Int.cast_ofNat_Int,Int.natCast_zero,show (2:Int)≠0 by omega,wid ((j/2:Nat):Int) (by omega) (by omega)];(first|refine hK _ _ _ ?_|refine ⟨_,Cv m b b hm (by omega) hb.1 hb.2 hb.1 hb.2,hK _ _ _ ?_⟩);clear hK K)|refine sT ?_))
    exact ⟨(j/2,o,b*b%m),⟨by simp only;omega,ho,Ag _ m hm,by rw [← hE];exact Y0 o b m j ho3⟩,by simp only;omega,by simp [Sub,lk]⟩
  ·have hj0:j=0:=by omega
   subst hj0
   (repeat (first|((with_reducible refine rC rfl fun K hK=>?_);simp only [go_sem,seval,↓reduceIte,show ¬ (0:Int)<((0:Nat):Int) by omega,Int.natCast_zero];refine hK _ _ _ ?_;clear hK K)|refine sT ?_))
   refine rt1 ?_
   rw [← hE,Int.pow_zero,Int.mul_one,Int.emod_eq_of_lt ho.1 ho.2]
end Go.Proofs.YtapdekacpecgiaaGreat
