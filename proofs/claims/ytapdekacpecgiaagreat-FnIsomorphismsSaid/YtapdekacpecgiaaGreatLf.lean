import Derived.Test.YtapdekacpecgiaaGreatLd
import Derived.Test.YtapdekacpecgiaaGreatLcc
import Derived.Test.YtapdekacpecgiaaGreatLc
import Derived.Test.YtapdekacpecgiaaGreatPa
namespace Go.Proofs.YtapdekacpecgiaaGreat
open Go.RowKit
set_option linter.unusedSimpArgs false
set_option linter.unusedVariables false
set_option linter.unusedSectionVars false
set_option maxRecDepth 20000
set_option maxHeartbeats 1000000
theorem No (m:Int) (la:List Int) (d:Nat) (hm:1<m) (hm2:m≤10000) (ha:∀ x∈la,0≤x∧x<m) (h0:0<la.length) (hla:la.length≤1000000) (hd:d≤999999):AFn Tryz.prog 225 [.int .i64 m,.sl false 2 (intL la),.int .i64 d] (.sl true 2 (intL (invS m la d))):=by
 refine fO Tryz.func225 Tryz.ntmps225 (by rw [Tryz.results225]) fun C hP hM hC=>?_
 have hu:=Df m (at' la 0) (by omega)
 (repeat (first|((with_reducible refine rC rfl fun K hK=>?_);simp only [go_sem,seval,↓reduceIte,Ac la 0 h0,show la.getD 0 0=at' la 0 from rfl,Int.toNat_zero,Int.le_refl,show (0:Int)<(la.length:Int) by omega];(first|refine hK _ _ _ ?_|refine ⟨_,Hy m (at' la 0) (by omega) (by omega),hK _ _ _ ?_⟩);clear hK K)|refine sT ?_))
 refine AWP.loop (fun w:Nat×Nat=>[(9,⟨0,.val (.int .i64 w.1)⟩),(8,⟨w.2,.own (.sl true 2 (intL (iL m (invL m (at' la 0)) (at' la) w.1)))⟩),(7,⟨0,.val (.int .i64 (invL m (at' la 0)))⟩),(0,⟨0,.val (.int .i64 m)⟩),(1,⟨0,.val (.sl false 2 (intL la))⟩),(2,⟨0,.val (.int .i64 d)⟩)]) (fun w=>0<w.1∧w.1≤d+1) (fun w=>d+1-w.1) (1,1) ⟨by omega,by omega⟩ (fun i=>rfl) ?_ (fun w hw=>?_)
 ·simp [Sub,lk,Ak6,intL]
 ·obtain ⟨n,v8⟩:=w
  simp only at hw ⊢
  by_cases hn:n≤d
  ·have hol:=Sr m (invL m (at' la 0)) (at' la) n
   have hon:=Aga (u:=invL m (at' la 0)) (at' la) n (show 0<m by omega) hu
   generalize ho:iL m (invL m (at' la 0)) (at' la) n=o at hol hon
   (repeat (first|((with_reducible refine rC rfl fun K hK=>?_);simp only [go_sem,seval,↓reduceIte,show (n:Int)≤(d:Int) by omega];refine hK _ _ _ ?_;clear hK K)|refine sT ?_))
   refine AWP.loop (fun c:Nat=>[(11,⟨0,.val (.int .i64 (c+1:Nat))⟩),(10,⟨0,.val (.int .i64 (sm c (fun i=>at' la (i+1)*at' o (n-1-i))%m))⟩),(9,⟨0,.val (.int .i64 n)⟩),(8,⟨v8,.own (.sl true 2 (intL o))⟩),(7,⟨0,.val (.int .i64 (invL m (at' la 0)))⟩),(0,⟨0,.val (.int .i64 m)⟩),(1,⟨0,.val (.sl false 2 (intL la))⟩),(2,⟨0,.val (.int .i64 d)⟩)]) (fun c=>c≤n) (fun c=>n-c) 0 (by omega) (fun i=>rfl) ?_ (fun c hc=>?_)
   ·simp [Sub,lk,sm]
   ·have hs:=Aq (sm c (fun i=>at' la (i+1)*at' o (n-1-i))) m (by omega)
    by_cases hc2:c+1≤n∧c+1<la.length
    ·have hx:=An ha (by omega) (c+1)
     have hy:=An hon (by omega) (n-1-c)
     have hxy:=Fc hx.1 hx.2 hy.1 hy.2 hm2
     have e1:(sm c (fun i=>at' la (i+1)*at' o (n-1-i))%m+at' la (c+1)*at' o (n-1-c))%m=sm (c+1) (fun i=>at' la (i+1)*at' o (n-1-i))%m:=by rw [Int.emod_add_emod];rfl
     (repeat (first|((with_reducible refine rC rfl fun K hK=>?_);simp only [go_sem,seval,↓reduceIte,show (((c+1:Nat):Int)≤(n:Int)) by omega,show (((c+1:Nat):Int)<(la.length:Int)) by omega,Ac la (c+1) hc2.2,show la.getD (c+1) 0=at' la (c+1) from rfl,Int.toNat_natCast,Int.natCast_nonneg,wid ((n:Int)-((c+1:Nat):Int)) (by omega) (by omega),show (0:Int)≤(n:Int)-((c+1:Nat):Int) by omega,show (n:Int)-((c+1:Nat):Int)<(o.length:Int) by omega,show ((n:Int)-((c+1:Nat):Int)).toNat=n-1-c by omega,Ae o (n-1-c) (by omega),Nat.mul_one,Aa o (n-1-c) (by omega),show o.getD (n-1-c) 0=at' o (n-1-c) from rfl,wid (at' la (c+1)*at' o (n-1-c)) (by omega) (by omega),wid (sm c (fun i=>at' la (i+1)*at' o (n-1-i))%m+at' la (c+1)*at' o (n-1-c)) (by omega) (by omega),tm (sm c (fun i=>at' la (i+1)*at' o (n-1-i))%m+at' la (c+1)*at' o (n-1-c)) m (by omega),e1,show m≠0 by omega,wid (((c+1:Nat):Int)+1) (by omega) (by omega)];refine hK _ _ _ ?_;clear hK K)|refine sT ?_))
     exact ⟨c+1,by omega,by omega,by simp [Sub,lk]⟩
    ·have hE : sm c (fun i => at' la (i + 1) * at' o (n - 1 - i)) = sm n (fun i => at' la (i + 1) * at' o (n - 1 - i)) := by
      refine (Dh hc fun i h1 h2=>?_).symm
      rw [Pu (l:=la) (i:=i+1) (by omega),Int.zero_mul]
     have e2:(m-sm c (fun i=>at' la (i+1)*at' o (n-1-i))%m)*invL m (at' la 0)%m=iC m (invL m (at' la 0)) (at' la) n o:=Ako hw.1 (by rw [hE])
     have hb1:0≤(m-sm c (fun i=>at' la (i+1)*at' o (n-1-i))%m)*invL m (at' la 0):=Int.mul_nonneg (by omega) hu.1
     have hb2:(m-sm c (fun i=>at' la (i+1)*at' o (n-1-i))%m)*invL m (at' la 0)≤10000*10000:=Int.mul_le_mul (by omega) (by omega) hu.1 (by omega)
     have e3:o++[iC m (invL m (at' la 0)) (at' la) n o]=iL m (invL m (at' la 0)) (at' la) (n+1):=by rw [← ho];rfl
     by_cases h1:c+1≤n
     ·(repeat (first|((with_reducible refine rC rfl fun K hK=>?_);simp only [go_sem,seval,↓reduceIte,show (((c+1:Nat):Int)≤(n:Int)) by omega,show ¬ (((c+1:Nat):Int)<(la.length:Int)) by omega,wid (m-sm c (fun i=>at' la (i+1)*at' o (n-1-i))%m) (by omega) (by omega),wid ((m-sm c (fun i=>at' la (i+1)*at' o (n-1-i))%m)*invL m (at' la 0)) (by omega) (by omega),tm _ m hb1,e2,show m≠0 by omega,hol,Bv,e3,show n+1≤1099511627776 by omega,show (n+1)*8≤140737488355328 by omega,wid ((n:Int)+1) (by omega) (by omega)];refine hK _ _ _ ?_;clear hK K)|refine sT ?_))
      exact ⟨(n+1,v8+1),by simp only;omega,by simp only;omega,by simp [Sub,lk]⟩
     ·(repeat (first|((with_reducible refine rC rfl fun K hK=>?_);simp only [go_sem,seval,↓reduceIte,show ¬ (((c+1:Nat):Int)≤(n:Int)) by omega,wid (m-sm c (fun i=>at' la (i+1)*at' o (n-1-i))%m) (by omega) (by omega),wid ((m-sm c (fun i=>at' la (i+1)*at' o (n-1-i))%m)*invL m (at' la 0)) (by omega) (by omega),tm _ m hb1,e2,show m≠0 by omega,hol,Bv,e3,show n+1≤1099511627776 by omega,show (n+1)*8≤140737488355328 by omega,wid ((n:Int)+1) (by omega) (by omega)];refine hK _ _ _ ?_;clear hK K)|refine sT ?_))
      exact ⟨(n+1,v8+1),by simp only;omega,by simp only;omega,by simp [Sub,lk]⟩
  ·(repeat (first|((with_reducible refine rC rfl fun K hK=>?_);simp only [go_sem,seval,↓reduceIte,show ¬ (n:Int)≤(d:Int) by omega];refine hK _ _ _ ?_;clear hK K)|refine sT ?_))
   refine rt1 ?_
   rw [show n=d+1 by omega];rfl
end Go.Proofs.YtapdekacpecgiaaGreat
