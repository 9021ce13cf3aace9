import Derived.Test.YtapdekacpecgiaaGreatBa
import Derived.Test.YtapdekacpecgiaaGreatBf
import Derived.Test.YtapdekacpecgiaaGreatQa
import Derived.Test.YtapdekacpecgiaaGreatQa
namespace Go.Proofs.YtapdekacpecgiaaGreat
open Go.RowKit
set_option linter.unusedSimpArgs false
set_option linter.unusedVariables false
set_option linter.unusedSectionVars false
set_option maxRecDepth 20000
set_option maxHeartbeats 1000000
theorem Y2 {m:Int} {f:List Int} {n d:Nat} (hnd:n≤d):∀ i u,u≤n→at' (pwS m f n i) u=at' (pwS m f d i) u
 | 0,u,hu=>by rw [pwS,pwS,F6 n u hu,F6 d u (by omega)]
 | i+1,u,hu=>by
  rw [pwS,pwS,timesL,timesL,Bm (by omega),Bm (by omega)]
  refine congrArg (· % m) ?_
  rw [cv,cv]
  exact Av fun j hj=>by rw [Y2 hnd i j (by omega)]
theorem Ai4 {m:Int} (hm:0<m) (a:List Int) {f:List Int} (f0:at' f 0=0) {n d:Nat} (hnd:n≤d):at' (cmpL m a f n (n+1)) n=at' (cmpL m a f d (d+1)) n:=by
 refine Agk (An (Fz hm _ _ _ _) hm _) (An (Fz hm _ _ _ _) hm _) ?_
 rw [If a f n (n+1) (Nat.le_refl _) n (Nat.le_refl _),If a f d (d+1) (Nat.le_refl _) n hnd,Nat.sub_self,Nat.sub_self]
 have e1:sm (n+1) (fun i=>at' a (0+i)*at' (pwS m f n i) n)=sm (n+1) (fun i=>at' a (0+i)*at' (pwS m f d i) n):=Av fun i _=>by rw [Y2 hnd i n (Nat.le_refl _)]
 rw [e1]
 rw [Cq (n:=d+1) (g:=fun i=>if i<n+1 then at' a (0+i)*at' (pwS m f d i) n else 0) (fun i _=>by
  show _=(if i<n+1 then at' a (0+i)*at' (pwS m f d i) n else 0)%m
  split
  ·rfl
  ·rw [Int.mul_emod,Ki f0 i n hnd (by omega)];simp)]
 refine congrArg (· % m) ?_
 rw [Dh (c:=n+1) (by omega) (fun i h1 h2=>if_neg (by omega))]
 exact (Av fun i hi=>if_pos hi).symm
def rvS (m u:Int) (a:List Int) (d:Nat):Nat→List Int
 | 0=>(tab (d+1) (fun _=>0)).set 1 u
 | k+1=>(rvS m u a d k).set (k+2) ((m-at' (cmpL m a (rvS m u a d k) (k+2) (k+3)) (k+2))*u%m)
theorem Af8 {m u:Int} (hm:0<m) (hu:0≤u∧u<m) (a:List Int) {d:Nat}:∀ k,k+1≤d→rvS m u a d k=rvN m u a d k
 | 0,_=>by
  rw [rvS,rvN]
  refine Eq fun j hj=>?_
  rfl
 | k+1,h=>by
  have ih:=Af8 hm hu a (d:=d) k (by omega)
  have hz:=F0 hm hu a (d:=d) k (by omega)
  rw [rvS,rvN,ih,Ai4 hm a hz.1 (n:=k+2) (by omega)]
  congr 1
  rw [show (m-at' (cmpL m a (rvN m u a d k) d (d+1)) (k+2))*u = -(at' (cmpL m a (rvN m u a d k) d (d+1)) (k+2))*u+u*m by grind,Int.add_mul_emod_self_right]
theorem Ajv (x m:Int):(-(x%m))%m=(-x)%m:=by
 rw [Int.emod_def x m,show -(x-m*(x/m)) = -x+m*(x/m) by omega,Int.add_mul_emod_self_left]
theorem Lw (m:Int) (la lf:List Int) (d:Nat) (hm:1<m) (hm2:m≤10000) (ha:∀ x∈la,0≤x∧x<m) (hf:∀ x∈lf,0≤x∧x<m) (hla:d+1≤la.length) (hla2:la.length≤1000000) (hlf:lf.length≤1000000) (hd:d≤999999):AFn Tryz.prog 254 [.int .i64 m,.sl false 2 (intL la),.sl false 2 (intL lf),.int .i64 d] (.sl true 2 (intL (cmpL m la lf d (d+1)))):=by
 refine fO Tryz.func254 Tryz.ntmps254 (by rw [Tryz.results254]) fun C hP hM hC=>?_
 by_cases hmin:d+1=la.length
 ·have zq1:=wid ((d:Int)+1) (by omega) (by omega);have zq2:(0:Int)≤(d:Int)+1:=(by omega);have zq3:((d:Int)+1).toNat=d+1:=(by omega);have zq4:(d:Int)+1≤1099511627776:=(by omega);have zq5:IntKind.i64.wrap (((d+1:Nat):Int)-1)=(d:Int):=(by rw [wid _ (by omega) (by omega)];omega);have zq6:¬ (d:Int)<(d:Int):=(by omega)
  (repeat (first|((with_reducible refine rC rfl fun K hK=>?_);simp only [go_sem,seval,↓reduceIte,zq1,zq2,zq3,zq4,Bd,Dd,← hmin,zq5,zq6];refine hK _ _ _ ?_;clear hK K)|refine sT ?_))
  refine AWP.loop (fun w:Nat×Nat=>[(10,⟨0,.val (.int .i64 ((d:Int)-w.1))⟩),(9,⟨w.2,.own (.sl true 2 (intL (cmpL m la lf d w.1)))⟩),(0,⟨0,.val (.int .i64 m)⟩),(1,⟨0,.val (.sl false 2 (intL la))⟩),(2,⟨0,.val (.sl false 2 (intL lf))⟩),(3,⟨0,.val (.int .i64 d)⟩)]) (fun w=>w.1≤d+1) (fun w=>d+1-w.1) (0,1) (Nat.zero_le _) (fun i=>rfl) ?_ (fun w hw=>?_)
  ·simp [Sub,lk,cmpL]
  ·obtain ⟨k,v⟩:=w
   simp only at hw ⊢
   by_cases hk:k≤d
   ·have hx:=An ha (show 0<m by omega) (d-k)
    have hT:=Da m (cmpL m la lf d k) lf d (by omega) hm2 (Fz (by omega) _ _ _ _) hf (by rw [Fm];omega) (by omega) (by omega)
    have h0:0<(timesL m (cmpL m la lf d k) lf d).length:=by rw [Ds];omega
    have g0:(timesL m (cmpL m la lf d k) lf d).getD 0 0=cv (at' (cmpL m la lf d k)) (at' lf) 0%m:=D0 (by omega)
    have hcb:=Aq (cv (at' (cmpL m la lf d k)) (at' lf) 0) m (by omega)
    have hst:(timesL m (cmpL m la lf d k) lf d).set 0 ((cv (at' (cmpL m la lf d k)) (at' lf) 0%m+at' la (d-k))%m)=cmpL m la lf d (k+1):=Eq fun j hj=>by
     by_cases e:j=0
     ·subst e
      rw [if_pos rfl,if_pos rfl,Int.emod_eq_of_lt hx.1 hx.2]
     ·rw [if_neg e,if_neg e,Int.add_zero,Int.emod_emod]
    have zq7:(0:Int)≤(d:Int)-k:=(by omega);have zq8:(0:Int)<((d+1:Nat):Int):=(by omega);have zq9:((d:Int)-k).toNat=d-k:=(by omega);have zq10:(d:Int)-k<(la.length:Int):=(by omega);have zq11:=Ac la (d-k) (by omega);have zq12:la.getD (d-k) 0=at' la (d-k):=rfl;have zq13:=wid (cv (at' (cmpL m la lf d k)) (at' lf) 0%m+at' la (d-k)) (by omega) (by omega);have zq14:=tm (cv (at' (cmpL m la lf d k)) (at' lf) 0%m+at' la (d-k)) m (by omega);have zq15:m≠0:=(by omega);have zq16:=wid ((d:Int)-k-1) (by omega) (by omega)
    (repeat (first|((with_reducible refine rC rfl fun K hK=>?_);simp only [go_sem,seval,↓reduceIte,zq7,Int.le_refl,Int.toNat_zero,Ds,zq8,Ae _ _ h0,List.take_zero,Ja,Nat.zero_mul,g0,zq9,zq10,zq11,zq12,zq13,zq14,zq15,Ax,hst,zq16];(first|refine hK _ _ _ ?_|refine ⟨_,hT,hK _ _ _ ?_⟩);clear hK K)|refine sT ?_))
    exact ⟨(k+1,v+1),by simp only;omega,by simp only;omega,by simp [Sub,lk];omega⟩
   ·have zq17:¬ (0:Int)≤(d:Int)-k:=(by omega)
    (repeat (first|((with_reducible refine rC rfl fun K hK=>?_);simp only [go_sem,seval,↓reduceIte,zq17];refine hK _ _ _ ?_;clear hK K)|refine sT ?_))
    refine rt1 ?_
    rw [show k=d+1 by omega]
 ·have zq18:=wid ((d:Int)+1) (by omega) (by omega);have zq19:(0:Int)≤(d:Int)+1:=(by omega);have zq20:((d:Int)+1).toNat=d+1:=(by omega);have zq21:(d:Int)+1≤1099511627776:=(by omega);have zq22:IntKind.i64.wrap ((la.length:Int)-1)=(la.length:Int)-1:=(by rw [wid _ (by omega) (by omega)]);have zq23:(d:Int)<(la.length:Int)-1:=(by omega)
  (repeat (first|((with_reducible refine rC rfl fun K hK=>?_);simp only [go_sem,seval,↓reduceIte,zq18,zq19,zq20,zq21,Bd,Dd,zq22,zq23];refine hK _ _ _ ?_;clear hK K)|refine sT ?_))
  refine AWP.loop (fun w:Nat×Nat=>[(10,⟨0,.val (.int .i64 ((d:Int)-w.1))⟩),(9,⟨w.2,.own (.sl true 2 (intL (cmpL m la lf d w.1)))⟩),(0,⟨0,.val (.int .i64 m)⟩),(1,⟨0,.val (.sl false 2 (intL la))⟩),(2,⟨0,.val (.sl false 2 (intL lf))⟩),(3,⟨0,.val (.int .i64 d)⟩)]) (fun w=>w.1≤d+1) (fun w=>d+1-w.1) (0,1) (Nat.zero_le _) (fun i=>rfl) ?_ (fun w hw=>?_)
  ·simp [Sub,lk,cmpL]
  ·obtain ⟨k,v⟩:=w
   simp only at hw ⊢
   by_cases hk:k≤d
   ·have hx:=An ha (show 0<m by omega) (d-k)
    have hT:=Da m (cmpL m la lf d k) lf d (by omega) hm2 (Fz (by omega) _ _ _ _) hf (by rw [Fm];omega) (by omega) (by omega)
    have h0:0<(timesL m (cmpL m la lf d k) lf d).length:=by rw [Ds];omega
    have g0:(timesL m (cmpL m la lf d k) lf d).getD 0 0=cv (at' (cmpL m la lf d k)) (at' lf) 0%m:=D0 (by omega)
    have hcb:=Aq (cv (at' (cmpL m la lf d k)) (at' lf) 0) m (by omega)
    have hst:(timesL m (cmpL m la lf d k) lf d).set 0 ((cv (at' (cmpL m la lf d k)) (at' lf) 0%m+at' la (d-k))%m)=cmpL m la lf d (k+1):=Eq fun j hj=>by
     by_cases e:j=0
     ·subst e
      rw [if_pos rfl,if_pos rfl,Int.emod_eq_of_lt hx.1 hx.2]
     ·rw [if_neg e,if_neg e,Int.add_zero,Int.emod_emod]
    have zq24:(0:Int)≤(d:Int)-k:=(by omega);have zq25:(0:Int)<((d+1:Nat):Int):=(by omega);have zq26:((d:Int)-k).toNat=d-k:=(by omega);have zq27:(d:Int)-k<(la.length:Int):=(by omega);have zq28:=Ac la (d-k) (by omega);have zq29:la.getD (d-k) 0=at' la (d-k):=rfl;have zq30:=wid (cv (at' (cmpL m la lf d k)) (at' lf) 0%m+at' la (d-k)) (by omega) (by omega);have zq31:=tm (cv (at' (cmpL m la lf d k)) (at' lf) 0%m+at' la (d-k)) m (by omega);have zq32:m≠0:=(by omega);have zq33:=wid ((d:Int)-k-1) (by omega) (by omega)
    (repeat (first|((with_reducible refine rC rfl fun K hK=>?_);simp only [go_sem,seval,↓reduceIte,zq24,Int.le_refl,Int.toNat_zero,Ds,zq25,Ae _ _ h0,List.take_zero,Ja,Nat.zero_mul,g0,zq26,zq27,zq28,zq29,zq30,zq31,zq32,Ax,hst,zq33];(first|refine hK _ _ _ ?_|refine ⟨_,hT,hK _ _ _ ?_⟩);clear hK K)|refine sT ?_))
    exact ⟨(k+1,v+1),by simp only;omega,by simp only;omega,by simp [Sub,lk];omega⟩
   ·have zq34:¬ (0:Int)≤(d:Int)-k:=(by omega)
    (repeat (first|((with_reducible refine rC rfl fun K hK=>?_);simp only [go_sem,seval,↓reduceIte,zq34];refine hK _ _ _ ?_;clear hK K)|refine sT ?_))
    refine rt1 ?_
    rw [show k=d+1 by omega]
set_option maxHeartbeats 2000000 in
theorem Np (m:Int) (a:List Int) (D:Nat) (hm:1<m) (hm2:m≤10000) (ha:∀ x∈a,0≤x∧x<m) (hal:a.length=D+1) (h1:1≤D) (hD:D≤999):AFn Tryz.prog 217 [.int .i64 m,.sl false 2 (intL a),.int .i64 D] (.sl true 2 (intL (rvL m a D))):=by
 refine fO Tryz.func217 Tryz.ntmps217 (by rw [Tryz.results217]) fun C hP hM hC=>?_
 have z:(0:Int)<m:=by omega
 have hu:=Df m (at' a 1) z
 have hI:=Hy m (at' a 1) z (by omega)
 rw [rvL]
 obtain ⟨u,eu⟩:∃ u,u=invL m (at' a 1):=⟨_,rfl⟩
 rw [← eu] at hu hI ⊢
 have hl0:(tab (D+1) (fun _=>0)).length=D+1:=Ah _ _
 have iD:IntKind.i64.wrap ((D:Int)+1)=((D+1:Nat):Int):=by rw [wid _ (by omega) (by omega)];omega
 have zq1:((D+1:Nat):Int)≤1099511627776:=(by omega);have zq2:(1:Int)<((D+1:Nat):Int):=(by omega);have zq3:(0:Int)≤1:=(by omega);have zq4:(1:Int).toNat=1:=rfl;have zq5:=Aa a 1 (by omega);have zq6:=Ac a 1 (by omega);have zq7:a.getD 1 0=at' a 1:=rfl
 (repeat (first|((with_reducible refine rC rfl fun K hK=>?_);simp only [go_sem,seval,↓reduceIte,iD,Int.natCast_nonneg,Int.toNat_natCast,zq1,Bd,Dd,hal,zq2,zq3,zq4,Nat.mul_one,zq5,zq6,zq7,hl0,Aa (tab (D+1) (fun _=>0)) 1 (by omega),Ae (tab (D+1) (fun _=>0)) 1 (by omega),Ax];(first|refine hK _ _ _ ?_|refine ⟨_,hI,hK _ _ _ ?_⟩);clear hK K)|refine sT ?_))
 refine AWP.loop (fun k:Nat=>[(9,⟨0,.val (.int .i64 (k+2:Nat))⟩),(8,⟨0,.val (.int .i64 u)⟩),(7,⟨1,.own (.sl true 2 (intL (rvS m u a D k)))⟩),(0,⟨0,.val (.int .i64 m)⟩),(1,⟨0,.val (.sl false 2 (intL a))⟩),(2,⟨0,.val (.int .i64 D)⟩)]) (fun k=>k≤D-1) (fun k=>D-1-k) 0 (Nat.zero_le _) (fun k=>rfl) ?_ (fun k hk=>?_)
 ·simp [Sub,lk,rvS]
 ·have e:=Af8 z hu a (d:=D) k (by omega)
  have f:=El z hu a D k
  rw [← e] at f
  by_cases hlt:k<D-1
  ·have hC2:=Lw m a (rvS m u a D k) (k+2) hm hm2 ha f.2 (by omega) (by omega) (by omega) (by omega)
   have hn:=Fz z a (rvS m u a D k) (k+2) (k+3)
   have hln:=Fm m a (rvS m u a D k) (k+2) (k+3)
   have hb:=An hn z (k+2)
   have hmul:0≤(m-at' (cmpL m a (rvS m u a D k) (k+2) (k+3)) (k+2))*u∧(m-at' (cmpL m a (rvS m u a D k) (k+2) (k+3)) (k+2))*u≤10000*10000:=⟨Int.mul_nonneg (by omega) hu.1,Int.mul_le_mul (by omega) (by omega) hu.1 (by omega)⟩
   have zq8:((k+2:Nat):Int)≤(D:Int):=(by omega);have zq9:((k+2:Nat):Int)<((k+2+1:Nat):Int):=(by omega);have zq10:=Aa (cmpL m a (rvS m u a D k) (k+2) (k+3)) (k+2) (by omega);have zq11:=Ae (cmpL m a (rvS m u a D k) (k+2) (k+3)) (k+2) (by omega);have zq12:(cmpL m a (rvS m u a D k) (k+2) (k+3)).getD (k+2) 0=at' (cmpL m a (rvS m u a D k) (k+2) (k+3)) (k+2):=rfl;have zq13:=wid (m-at' (cmpL m a (rvS m u a D k) (k+2) (k+3)) (k+2)) (by omega) (by omega);have zq14:=wid ((m-at' (cmpL m a (rvS m u a D k) (k+2) (k+3)) (k+2))*u) (by omega) (by omega);have zq15:=tm ((m-at' (cmpL m a (rvS m u a D k) (k+2) (k+3)) (k+2))*u) m hmul.1;have zq16:m≠0:=(by omega);have zq17:((k+2:Nat):Int)<((D+1:Nat):Int):=(by omega);have zq18:=Aa (rvS m u a D k) (k+2) (by omega);have zq19:=Ae (rvS m u a D k) (k+2) (by omega);have zq20:IntKind.i64.wrap (((k+2:Nat):Int)+1)=((k+1+2:Nat):Int):=(by rw [wid _ (by omega) (by omega)];omega)
   (repeat (first|((with_reducible refine rC rfl fun K hK=>?_);simp only [go_sem,seval,↓reduceIte,zq8,Int.natCast_nonneg,Int.toNat_natCast,Nat.mul_one,hln,zq9,zq10,zq11,zq12,zq13,zq14,zq15,zq16,f.1,zq17,zq18,zq19,Ax,zq20];(first|refine hK _ _ _ ?_|refine ⟨_,hC2,hK _ _ _ ?_⟩);clear hK K)|refine sT ?_))
   exact ⟨k+1,by omega,by omega,by simp [Sub,lk,rvS]⟩
  ·have zq21:¬ ((k+2:Nat):Int)≤(D:Int):=(by omega)
   (repeat (first|((with_reducible refine rC rfl fun K hK=>?_);simp only [go_sem,seval,↓reduceIte,zq21];refine hK _ _ _ ?_;clear hK K)|refine sT ?_))
   refine rt1 ?_
   rw [e,show k=D-1 by omega]
set_option maxHeartbeats 2000000 in
theorem J1 (m:Int) (a:List Int) (D:Nat) (hm:1<m) (hm2:m≤10000) (ha:∀ x∈a,0≤x∧x<m) (hal:a.length=D+1) (h1:1≤D) (hD:D≤999):AFn Tryz.prog 216 [.agg [.int .i64 m,.sl false 2 (intL a)]] (.agg [.int .i64 m,.sl true 2 (intL (rvL m a D))]):=by
 refine fO Tryz.func216 Tryz.ntmps216 (by rw [Tryz.results216]) fun C hP hM hC=>?_
 have z:(0:Int)<m:=by omega
 have hu:=Df m (at' a 1) z
 have hI:=Rw m (at' a 1) z (by omega)
 rw [rvL]
 obtain ⟨u,eu⟩:∃ u,u=invL m (at' a 1):=⟨_,rfl⟩
 rw [← eu] at hu hI ⊢
 have hl0:(tab (D+1) (fun _=>0)).length=D+1:=Ah _ _
 have e0:(tab (D+1) (fun _=>0)).set 1 u=rvN m u a D 0:=by
  rw [rvN]
  exact Eq fun j hj=>rfl
 have hDg:=Bb m a (by omega)
 rw [hal,show ((D+1:Nat):Int)-1=(D:Int) by omega] at hDg
 have zq1:(1:Int)<((D+1:Nat):Int):=(by omega);have zq2:(0:Int)≤1:=(by omega);have zq3:(1:Int).toNat=1:=rfl;have zq4:=Aa a 1 (by omega);have zq5:=Ac a 1 (by omega);have zq6:a.getD 1 0=at' a 1:=rfl;have zq7:=D8 m D (D+1) (by omega) (by omega)
 (repeat (first|((with_reducible refine rC rfl fun K hK=>?_);simp only [go_sem,seval,↓reduceIte,hal,zq1,zq2,zq3,Nat.mul_one,zq4,zq5,zq6,hl0,Aa (tab (D+1) (fun _=>0)) 1 (by omega),Ae (tab (D+1) (fun _=>0)) 1 (by omega),Ax,e0];(first|refine hK _ _ _ ?_|refine ⟨_,hI,hK _ _ _ ?_⟩|refine ⟨_,hDg,hK _ _ _ ?_⟩|refine ⟨_,zq7,hK _ _ _ ?_⟩);clear hK K)|refine sT ?_))
 refine AWP.loop (fun k:Nat=>[(5,⟨0,.val (.int .i64 (k+2:Nat))⟩),(4,⟨0,.val (.int .i64 u)⟩),(3,⟨2,.own (.box 29 (.agg [.int .i64 m,.sl true 2 (intL (rvN m u a D k))]))⟩),(1,⟨1,.own (.box 29 (.agg [.int .i64 m,.sl false 2 (intL a)]))⟩),(2,⟨1,.own (.box 29 (.agg [.int .i64 0,.nil]))⟩)]) (fun k=>k≤D-1) (fun k=>D-1-k) 0 (Nat.zero_le _) (fun k=>rfl) ?_ (fun k hk=>?_)
 ·simp [Sub,lk]
 ·have f:=El z hu a D k
  by_cases hlt:k<D-1
  ·have hC2:=Kc m a (rvN m u a D k) D hm hm2 ha f.2 hal f.1 (by omega)
   have hn:=Fz z a (rvN m u a D k) D (D+1)
   have hln:=Fm m a (rvN m u a D k) D (D+1)
   obtain ⟨w,ew⟩:∃ w,w=cmpL m a (rvN m u a D k) D (D+1):=⟨_,rfl⟩
   have es:(rvN m u a D k).set (k+2) ((0-at' w (k+2)*u%m)%m)=rvN m u a D (k+1):=by
    rw [rvN,← ew]
    congr 1
    rw [Int.neg_mul,Int.zero_sub,Ajv]
   rw [← ew] at hC2 hn hln
   have hb:=An hn z (k+2)
   have hMq:=Gc m (at' w (k+2)) u z (by omega) hb.1 hb.2 hu.1 hu.2
   have hmb:=Aq (at' w (k+2)*u) m z
   have zq8:((k+2:Nat):Int)≤(D:Int):=(by omega);have zq9:((k+2:Nat):Int)<((D+1:Nat):Int):=(by omega);have zq10:=Aa w (k+2) (by omega);have zq11:=Ae w (k+2) (by omega);have zq12:w.getD (k+2) 0=at' w (k+2):=rfl;have zq13:=wid (0-at' w (k+2)*u%m) (by omega) (by omega);have zq14:=Aa (rvN m u a D k) (k+2) (by omega);have zq15:=Ae (rvN m u a D k) (k+2) (by omega);have zq16:IntKind.i64.wrap (((k+2:Nat):Int)+1)=((k+1+2:Nat):Int):=(by rw [wid _ (by omega) (by omega)];omega);have zq17:=Dv (0-at' w (k+2)*u%m) m z (by omega)
   (repeat (first|((with_reducible refine rC rfl fun K hK=>?_);simp only [go_sem,seval,↓reduceIte,zq8,Int.natCast_nonneg,Int.toNat_natCast,Nat.mul_one,hln,zq9,zq10,zq11,zq12,zq13,f.1,zq14,zq15,Ax,es,zq16];(first|refine hK _ _ _ ?_|refine ⟨_,hDg,hK _ _ _ ?_⟩|refine ⟨_,hC2,hK _ _ _ ?_⟩|refine ⟨_,hMq,hK _ _ _ ?_⟩|refine ⟨_,zq17,hK _ _ _ ?_⟩);clear hK K)|refine sT ?_))
   exact ⟨k+1,by omega,by omega,by simp [Sub,lk]⟩
  ·have zq18:¬ ((k+2:Nat):Int)≤(D:Int):=(by omega)
   (repeat (first|((with_reducible refine rC rfl fun K hK=>?_);simp only [go_sem,seval,↓reduceIte,zq18];(first|refine hK _ _ _ ?_|refine ⟨_,hDg,hK _ _ _ ?_⟩);clear hK K)|refine sT ?_))
   refine rt1 ?_
   rw [show k=D-1 by omega]
end Go.Proofs.YtapdekacpecgiaaGreat
