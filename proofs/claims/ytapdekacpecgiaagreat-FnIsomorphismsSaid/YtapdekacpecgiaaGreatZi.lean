import Derived.Test.YtapdekacpecgiaaGreatBa
import Derived.Test.YtapdekacpecgiaaGreatJa
namespace Go.Proofs.YtapdekacpecgiaaGreat
open Go.RowKit
set_option linter.unusedSimpArgs false
set_option linter.unusedVariables false
set_option linter.unusedSectionVars false
set_option maxRecDepth 20000
set_option maxHeartbeats 1000000
theorem Rg.frob {R : Type} (K : Rg R) {m : Int} (pr : m = 2 ∨ m = 3 ∨ m = 5 ∨ m = 7) (hc : K.c m = K.c 0) (a b : R) : K.p (K.a a b) m.toNat = K.a (K.p a m.toNat) (K.p b m.toNat) := by
  rcases pr with rfl | rfl | rfl | rfl
  · exact Zye.same0 K a b (.c 2) (.p (.a .z .y) 2) (.a (.p .z 2) (.p .y 2)) (.q [[], [0, 1]]) hc (by decide +kernel)
  · exact Zye.same0 K a b (.c 3) (.p (.a .z .y) 3) (.a (.p .z 3) (.p .y 3)) (.q [[], [0, 0, 1], [0, 1]]) hc (by decide +kernel)
  · exact Zye.same0 K a b (.c 5) (.p (.a .z .y) 5) (.a (.p .z 5) (.p .y 5)) (.q [[], [0, 0, 0, 0, 1], [0, 0, 0, 2], [0, 0, 2], [0, 1]]) hc (by decide +kernel)
  · exact Zye.same0 K a b (.c 7) (.p (.a .z .y) 7) (.a (.p .z 7) (.p .y 7)) (.q [[], [0, 0, 0, 0, 0, 0, 1], [0, 0, 0, 0, 0, 3], [0, 0, 0, 0, 5], [0, 0, 0, 5], [0, 0, 3], [0, 1]]) hc (by decide +kernel)
theorem Rg.pm {R:Type} (K:Rg R) (x y:R):∀ n,K.p (K.m x y) n=K.m (K.p x n) (K.p y n)
 | 0=>by rw [Rg.p,Rg.p,Rg.p,K.mI]
 | n+1=>by rw [Rg.p,Rg.p,Rg.p,K.pm x y n];ac_rfl
theorem Rg.pp {R:Type} (K:Rg R) (x:R) (i:Nat):∀ n,K.p (K.p x i) n=K.p (K.p x n) i
 | 0=>by
  have:∀ i,K.p (K.c 1) i=K.c 1:=fun i=>by
   induction i with
   | zero=>rfl
   | succ i ih=>rw [Rg.p,ih,K.mI]
  show K.c 1=K.p (K.c 1) i
  rw [this]
 | n+1=>by
  show K.m (K.p (K.p x i) n) (K.p x i)=K.p (K.m (K.p x n) x) i
  rw [K.pp x i n,K.pm]
theorem Rg.pc {R:Type} (K:Rg R) (z:Int):∀ n,K.p (K.c z) n=K.c (z^n)
 | 0=>by rw [Int.pow_zero];rfl
 | n+1=>by rw [Rg.p,K.pc z n,← K.cM,Int.pow_succ]
theorem fermat {m:Int} (pr:m=2∨m=3∨m=5∨m=7) (z:Int):z^m.toNat%m=z%m:=by
 have key:∀ n:Nat,z^n%m=(z%m)^n%m:=fun n=>(E9 z m n).symm
 rw [key]
 have hb:=Aq z m (by omega)
 generalize z%m=r at hb ⊢
 rcases pr with rfl|rfl|rfl|rfl
 ·have:r=0∨r=1:=by omega
  rcases this with rfl|rfl <;> decide
 ·have:r=0∨r=1∨r=2:=by omega
  rcases this with rfl|rfl|rfl <;> decide
 ·have:r=0∨r=1∨r=2∨r=3∨r=4:=by omega
  rcases this with rfl|rfl|rfl|rfl|rfl <;> decide
 ·have:r=0∨r=1∨r=2∨r=3∨r=4∨r=5∨r=6:=by omega
  rcases this with rfl|rfl|rfl|rfl|rfl|rfl|rfl <;> decide
theorem Rg.frob_s {R:Type} (K:Rg R) {m:Int} (pr:m=2∨m=3∨m=5∨m=7) (hc:K.c m=K.c 0) (f:Nat→R):∀ n,K.p (K.s n f) m.toNat=K.s n (fun i=>K.p (f i) m.toNat)
 | 0=>by
  obtain ⟨k,hk⟩:∃ k,m.toNat=k+1:=⟨m.toNat-1,by omega⟩
  rw [Rg.s,Rg.s,hk,p_z]
 | n+1=>by rw [Rg.s,Rg.s,K.frob pr hc,K.frob_s pr hc f n]
theorem Rg.frob_e2 {R:Type} (K:Rg R) {m:Int} (pr:m=2∨m=3∨m=5∨m=7) (hc:K.c m=K.c 0) (d:Nat) (t:Nat→Nat→Int) (x y:R):K.p (K.e2 d t x y) m.toNat=K.e2 d t (K.p x m.toNat) (K.p y m.toNat):=by
 rw [K.e2_sum,K.e2_sum,K.frob_s pr hc]
 refine K.s_congr fun i _=>?_
 rw [K.frob_s pr hc]
 refine K.s_congr fun j _=>?_
 rw [K.pm,K.pm,K.pc,K.c_eq hc (fermat pr (t i j)),K.pp x i,K.pp y j]
def poL (m:Int) (D:Nat):List Int:=tab (D+1) (fun i=>if (i:Int)=m then 1 else 0)
theorem Ajg {m:Int} {D:Nat} (pr:m=2∨m=3∨m=5∨m=7) (hD:1≤D) {t:Nat→Nat→Int} (h0:t 0 0=0) (out:∀ i j,D<i+j→t i j=0):hmB m (D+1) t t (poL m D)=true:=by
 have hm:1<m:=by omega
 have L:=qP D m hD hm
 have hX:=Aij D m hD hm
 have hY:=Aif D m hD hm
 refine Alj hD hm (Ah _ _) out ?_
 have vx:∀ x,(qP D m hD hm).S.O 1 x→LwR.v (qr D m) D (poL m D) x=(qr D m).p x m.toNat:=fun x hx=>by
  rw [LwR.v,Rg.ev]
  by_cases h:m≤(D:Int)
  ·rw [(qr D m).s_one (show m.toNat < D + 1 by omega) fun i hi hne => by
    rw [poL,Bm hi,if_neg (by omega),(qr D m).mZl],poL,Bm (by omega),if_pos (by omega),(qr D m).mIl]
  ·rw [(qr D m).s_zero fun i hi=>by rw [poL,Bm hi,if_neg (by omega),(qr D m).mZl],(qP D m hD hm).S.nil hx (by omega)]
 rw [vx _ ((qP D m hD hm).e2_o h0 hX hY),vx _ hX,vx _ hY]
 exact (qr D m).frob_e2 pr (qP D m hD hm).hc D t _ _
end Go.Proofs.YtapdekacpecgiaaGreat
