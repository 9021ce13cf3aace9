import Derived.Test.YtapdekacpecgiaaGreatBa
import Derived.Test.YtapdekacpecgiaaGreatBf
import Derived.Test.YtapdekacpecgiaaGreatQa
import Derived.Test.YtapdekacpecgiaaGreatQa
namespace Go.Proofs.YtapdekacpecgiaaGreat
open Go.RowKit
set_option linter.unusedSimpArgs false
set_option linter.unusedVariables false
set_option linter.unusedSectionVars false
set_option maxRecDepth 20000
set_option maxHeartbeats 1000000
theorem Akg (x m:Int):(-(x%m))%m=(-x)%m:=by
 rw [Int.emod_def x m,show -(x-m*(x/m)) = -x+m*(x/m) by omega,Int.add_mul_emod_self_left]
set_option maxHeartbeats 2000000 in
theorem Ik (m:Int) (a:List Int) (D:Nat) (hm:1<m) (hm2:m≤1000000000000) (ha:∀ x∈a,0≤x∧x<m) (hal:a.length=D+1) (h1:1≤D) (hD:D≤999):AFn Tryz.prog 216 [.agg [.int .i64 m,.sl false 2 (intL a)]] (.agg [.int .i64 m,.sl true 2 (intL (rvL m a D))]):=by
 refine fO Tryz.func216 Tryz.ntmps216 (by rw [Tryz.results216]) fun C hP hM hC=>?_
 have z:(0:Int)<m:=by omega
 have hu:=E1 m (at' a 1) z
 have hI:=H4 m (at' a 1) z (by omega)
 rw [rvL]
 obtain ⟨u,eu⟩:∃ u,u=invL m (at' a 1):=⟨_,rfl⟩
 rw [← eu] at hu hI ⊢
 have hl0:(tab (D+1) (fun _=>0)).length=D+1:=Ae _ _
 have e0:(tab (D+1) (fun _=>0)).set 1 u=rvN m u a D 0:=by
  rw [rvN]
  exact H0 fun j hj=>rfl
 have hDg:=Bb m a (by omega)
 rw [hal,show ((D+1:Nat):Int)-1=(D:Int) by omega] at hDg
 have zq1:(1:Int)<((D+1:Nat):Int):=(by omega);have zq2:(0:Int)≤1:=(by omega);have zq3:(1:Int).toNat=1:=rfl;have zq4:=Ai a 1 (by omega);have zq5:=Ac a 1 (by omega);have zq6:a.getD 1 0=at' a 1:=rfl;have zq7:=El m D (D+1) (by omega) (by omega)
 (repeat (first|((with_reducible refine rC rfl fun K hK=>?_);simp only [go_sem,seval,↓reduceIte,hal,zq1,zq2,zq3,Nat.mul_one,zq4,zq5,zq6,hl0,Ai (tab (D+1) (fun _=>0)) 1 (by omega),Ao (tab (D+1) (fun _=>0)) 1 (by omega),B7,e0];(first|refine hK _ _ _ ?_|refine ⟨_,hI,hK _ _ _ ?_⟩|refine ⟨_,hDg,hK _ _ _ ?_⟩|refine ⟨_,zq7,hK _ _ _ ?_⟩);clear hK K)|refine sT ?_))
 refine AWP.loop (fun k:Nat=>[(5,⟨0,.val (.int .i64 (k+2:Nat))⟩),(4,⟨0,.val (.int .i64 u)⟩),(3,⟨2,.own (.box 29 (.agg [.int .i64 m,.sl true 2 (intL (rvN m u a D k))]))⟩),(1,⟨1,.own (.box 29 (.agg [.int .i64 m,.sl false 2 (intL a)]))⟩),(2,⟨1,.own (.box 29 (.agg [.int .i64 0,.nil]))⟩)]) (fun k=>k≤D-1) (fun k=>D-1-k) 0 (Nat.zero_le _) (fun k=>rfl) ?_ (fun k hk=>?_)
 ·simp [Sub,lk]
 ·have f:=Fq z hu a D k
  by_cases hlt:k<D-1
  ·have hC2:=Il m a (rvN m u a D k) D hm (by omega) ha f.2 hal f.1 (by omega)
   have hn:=U9 z a (rvN m u a D k) D (D+1)
   have hln:=Nx m a (rvN m u a D k) D (D+1)
   obtain ⟨w,ew⟩:∃ w,w=cmpL m a (rvN m u a D k) D (D+1):=⟨_,rfl⟩
   have es:(rvN m u a D k).set (k+2) ((0-at' w (k+2)*u%m)%m)=rvN m u a D (k+1):=by
    rw [rvN,← ew]
    congr 1
    rw [Int.neg_mul,Int.zero_sub,Akg]
   rw [← ew] at hC2 hn hln
   have hb:=A4 hn z (k+2)
   have hMq:=Cv m (at' w (k+2)) u z (by omega) hb.1 hb.2 hu.1 hu.2
   have hmb:=Ag (at' w (k+2)*u) m z
   have zq8:((k+2:Nat):Int)≤(D:Int):=(by omega);have zq9:((k+2:Nat):Int)<((D+1:Nat):Int):=(by omega);have zq10:=Ai w (k+2) (by omega);have zq11:=Ao w (k+2) (by omega);have zq12:w.getD (k+2) 0=at' w (k+2):=rfl;have zq13:=wid (0-at' w (k+2)*u%m) (by omega) (by omega);have zq14:=Ai (rvN m u a D k) (k+2) (by omega);have zq15:=Ao (rvN m u a D k) (k+2) (by omega);have zq16:IntKind.i64.wrap (((k+2:Nat):Int)+1)=((k+1+2:Nat):Int):=(by rw [wid _ (by omega) (by omega)];omega);have zq17:=Cr (0-at' w (k+2)*u%m) m z (by omega)
   (repeat (first|((with_reducible refine rC rfl fun K hK=>?_);simp only [go_sem,seval,↓reduceIte,zq8,Int.natCast_nonneg,Int.toNat_natCast,Nat.mul_one,hln,zq9,zq10,zq11,zq12,zq13,f.1,zq14,zq15,B7,es,zq16];(first|refine hK _ _ _ ?_|refine ⟨_,hDg,hK _ _ _ ?_⟩|refine ⟨_,hC2,hK _ _ _ ?_⟩|refine ⟨_,hMq,hK _ _ _ ?_⟩|refine ⟨_,zq17,hK _ _ _ ?_⟩);clear hK K)|refine sT ?_))
   exact ⟨k+1,by omega,by omega,by simp [Sub,lk]⟩
  ·have zq18:¬ ((k+2:Nat):Int)≤(D:Int):=(by omega)
   (repeat (first|((with_reducible refine rC rfl fun K hK=>?_);simp only [go_sem,seval,↓reduceIte,zq18];(first|refine hK _ _ _ ?_|refine ⟨_,hDg,hK _ _ _ ?_⟩);clear hK K)|refine sT ?_))
   refine rt1 ?_
   rw [show k=D-1 by omega]
end Go.Proofs.YtapdekacpecgiaaGreat
