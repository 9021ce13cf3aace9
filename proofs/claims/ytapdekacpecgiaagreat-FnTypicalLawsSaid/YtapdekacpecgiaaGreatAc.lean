import Derived.Test.YtapdekacpecgiaaGreatAa
import Derived.Test.YtapdekacpecgiaaGreatKa
import Derived.Test.YtapdekacpecgiaaGreatQd
namespace Go.Proofs.YtapdekacpecgiaaGreat
open Go.RowKit
set_option linter.unusedSimpArgs false
set_option linter.unusedVariables false
set_option linter.unusedSectionVars false
set_option maxRecDepth 20000
set_option maxHeartbeats 1000000
theorem Rg.c_mod {R:Type} (K:Rg R) {m:Int} (hc:K.c m=K.c 0) (z:Int):K.c (z%m)=K.c z:=by
 have h:K.c (m*(z/m)+z%m)=K.c (z%m):=by rw [K.cA,K.cM,hc,K.mZl,K.aZl]
 rw [Int.mul_ediv_add_emod] at h
 exact h.symm
theorem Rg.c_eq {R:Type} (K:Rg R) {m:Int} (hc:K.c m=K.c 0) {z w:Int} (h:z%m=w%m):K.c z=K.c w:=by
 rw [← K.c_mod hc z,h,K.c_mod hc]
structure LwR {R:Type} (K:Rg R) (N d:Nat) (m:Int) (t:Nat→Nat→Int) where
 S:Fil K N
 hN:N≤d
 hd:1≤d
 hm:1<m
 hc:K.c m=K.c 0
 out:∀ i j,d<i+j→t i j=0
 hw:IsLw m (d+1) t
namespace LwR
theorem e2_one {R:Type} {K:Rg R} {N d:Nat} {m:Int} {t:Nat→Nat→Int} (L:LwR K N d m t) {x y:R} (hx:L.S.O 1 x) (hy:L.S.O 1 y):K.e2 d (pc (numP m 1 (d+1))) x y=K.c 1:=by
 have hN:=L.hN
 rw [L.S.e2_congr (Q:=fun u v=>if u=0∧v=0 then 1 else 0) hx hy (fun i j h=>by
  rw [numP,Bc (by omega)]
  split
  ·exact K.c_mod L.hc 1
  ·rfl),K.e2_sum,K.s_one (show 0<d+1 by omega) (fun i h1 h2=>K.s_zero fun j _=>by rw [if_neg (by omega),K.mZl]),K.s_one (show 0<d+1 by omega) (fun j h1 h2=>by rw [if_neg (by omega),K.mZl])]
 simp only [Rg.p,and_self,if_pos,K.mI]
theorem e2_pw {R:Type} {K:Rg R} {N d:Nat} {m:Int} {t:Nat→Nat→Int} (L:LwR K N d m t) {x y:R} (hx:L.S.O 1 x) (hy:L.S.O 1 y):∀ i,K.e2 d (pc (pwP m (d+1) t i)) x y=K.p (K.e2 d t x y) i
 | 0=>L.e2_one hx hy
 | i+1=>by
  have hN:=L.hN
  rw [Rg.p,← e2_pw L hx hy i,L.S.e2_mul L.hN hx hy]
  exact L.S.e2_congr hx hy fun u v h=>by
   rw [pwP,pmul,Bc (by omega),K.c_mod L.hc];rfl
theorem t0 {R:Type} {K:Rg R} {N d:Nat} {m:Int} {t:Nat→Nat→Int} (L:LwR K N d m t) (i:Nat):t i 0=if i=1 then 1 else 0:=by
 by_cases h:i<d+1
 ·exact L.hw.1 i h
 ·have:=L.hd
  rw [L.out i 0 (by omega),if_neg (by omega)]
theorem sym {R:Type} {K:Rg R} {N d:Nat} {m:Int} {t:Nat→Nat→Int} (L:LwR K N d m t) (i j:Nat):t i j=t j i:=by
 by_cases h:i+j<d+1
 ·rcases Nat.lt_trichotomy i j with e|e|e
  ·exact L.hw.2.1 i j e h
  ·rw [e]
  ·exact (L.hw.2.1 j i e (by omega)).symm
 ·rw [L.out i j (by omega),L.out j i (by omega)]
def F {R:Type} {K:Rg R} {N d:Nat} {m:Int} {t:Nat→Nat→Int} (L:LwR K N d m t) (x y:R):R:=K.e2 d t x y
theorem comm {R:Type} {K:Rg R} {N d:Nat} {m:Int} {t:Nat→Nat→Int} (L:LwR K N d m t) (x y:R):L.F x y=L.F y x:=by
 rw [F,F,K.e2_sum,K.e2_sum,K.s_swap]
 refine K.s_congr fun i _=>K.s_congr fun j _=>?_
 rw [L.sym j i,K.mC (K.p x j)]
theorem fz {R:Type} {K:Rg R} {N d:Nat} {m:Int} {t:Nat→Nat→Int} (L:LwR K N d m t) (x:R):L.F x (K.c 0)=x:=by
 have hd:=L.hd
 rw [F,K.e2_sum,K.s_congr (g:=fun i=>K.m (K.c (t i 0)) (K.p x i)) (fun i _=>by
  rw [K.s_one (show 0<d+1 by omega) (fun j h1 h2=>by
   obtain ⟨k,rfl⟩:=Nat.exists_eq_succ_of_ne_zero h2
   rw [Rg.p,K.mZ,K.mZ,K.mZ])]
  rw [Rg.p,K.mI]),K.s_one (show 1<d+1 by omega) (fun i h1 h2=>by rw [L.t0,if_neg h2,K.mZl])]
 rw [L.t0,if_pos rfl,Rg.p,Rg.p,K.mIl,K.mIl]
theorem fo {R:Type} {K:Rg R} {N d:Nat} {m:Int} {t:Nat→Nat→Int} (L:LwR K N d m t) {x y:R} (hx:L.S.O 1 x) (hy:L.S.O 1 y):L.S.O 1 (L.F x y):=by
 rw [F,K.e2_sum]
 refine L.S.sum fun i _=>L.S.sum fun j _=>?_
 by_cases h:i+j=0
 ·rw [show i=0 by omega,show j=0 by omega,L.t0,if_neg (by omega),K.mZl];exact L.S.zero 1
 ·have:=L.S.mul (L.S.cst (K.c (t i j))) (L.S.mul (L.S.pw1 hx i) (L.S.pw1 hy j))
  exact L.S.low (by omega) this
theorem left {R:Type} {K:Rg R} {N d:Nat} {m:Int} {t:Nat→Nat→Int} (L:LwR K N d m t) {x y z:R} (hx:L.S.O 1 x) (hy:L.S.O 1 y):L.F (L.F x y) z=K.s (d+1) (fun u=>K.s (d+1) (fun v=>K.s (d+1) (fun k=>K.m (K.c (lfS m (d+1) t u v k)) (K.m (K.p x u) (K.m (K.p y v) (K.p z k)))))):=by
 rw [show L.F (L.F x y) z=K.e2 d t (K.e2 d t x y) z from rfl,K.e2_sum,K.s_swap]
 rw [K.s_congr (n:=d+1) (g:=fun k=>K.s (d+1) (fun u=>K.s (d+1) (fun v=>K.m (K.c (lfS m (d+1) t u v k)) (K.m (K.p x u) (K.m (K.p y v) (K.p z k)))))) (fun k hk=>by
  rw [K.s_congr (g:=fun i=>K.m (K.m (K.c (t i k)) (K.e2 d (pc (pwP m (d+1) t i)) x y)) (K.p z k)) (fun i _=>by rw [L.e2_pw hx hy,K.mA]),← K.s_mulr,← K.e2_add,K.e2_sum,K.s_mulr]
  refine K.s_congr fun u _=>?_
  rw [K.s_mulr]
  refine K.s_congr fun v _=>?_
  rw [lfS,Df (show d+1-k≤d+1 by omega) (fun i h1 h2=>by rw [L.out i k (by omega),Int.zero_mul])]
  ac_rfl)]
 rw [K.s_swap]
 exact K.s_congr fun u _=>K.s_swap _ _ _
theorem right {R:Type} {K:Rg R} {N d:Nat} {m:Int} {t:Nat→Nat→Int} (L:LwR K N d m t) {x y z:R} (hy:L.S.O 1 y) (hz:L.S.O 1 z):L.F x (L.F y z)=K.s (d+1) (fun u=>K.s (d+1) (fun v=>K.s (d+1) (fun k=>K.m (K.c (rtS m (d+1) t u v k)) (K.m (K.p x u) (K.m (K.p y v) (K.p z k)))))):=by
 rw [show L.F x (L.F y z)=K.e2 d t x (K.e2 d t y z) from rfl,K.e2_sum]
 refine K.s_congr fun u hu=>?_
 rw [K.s_congr (g:=fun j=>K.m (K.m (K.c (t u j)) (K.e2 d (pc (pwP m (d+1) t j)) y z)) (K.p x u)) (fun j _=>by rw [L.e2_pw hy hz];ac_rfl),← K.s_mulr,← K.e2_add,K.e2_sum,K.s_mulr]
 refine K.s_congr fun v _=>?_
 rw [K.s_mulr]
 refine K.s_congr fun k _=>?_
 rw [rtS,Df (show d+1-u≤d+1 by omega) (fun j h1 h2=>by rw [L.out u j (by omega),Int.zero_mul])]
 ac_rfl
theorem assoc {R:Type} {K:Rg R} {N d:Nat} {m:Int} {t:Nat→Nat→Int} (L:LwR K N d m t) {x y z:R} (hx:L.S.O 1 x) (hy:L.S.O 1 y) (hz:L.S.O 1 z):L.F (L.F x y) z=L.F x (L.F y z):=by
 have hN:=L.hN
 rw [L.left hx hy,L.right hy hz]
 refine K.s_congr fun u _=>K.s_congr fun v _=>K.s_congr fun k _=>?_
 by_cases h:u+v+k≤N
 ·rw [K.c_eq L.hc (L.hw.2.2 u v k (by omega))]
 ·rw [L.S.top (show N<u+(v+k) by omega) (L.S.mul (L.S.pw1 hx u) (L.S.mul (L.S.pw1 hy v) (L.S.pw1 hz k))),K.mZ,K.mZ]
theorem f4 {R:Type} {K:Rg R} {N d:Nat} {m:Int} {t:Nat→Nat→Int} (L:LwR K N d m t) {x y z w:R} (hx:L.S.O 1 x) (hy:L.S.O 1 y) (hz:L.S.O 1 z) (hw:L.S.O 1 w):L.F (L.F x y) (L.F z w)=L.F (L.F x z) (L.F y w):=by
 rw [L.assoc hx hy (L.fo hz hw),← L.assoc hy hz hw,L.comm y z,L.assoc hz hy hw,← L.assoc hx hz (L.fo hy hw)]
def v {R:Type} (K:Rg R) (d:Nat) (l:List Int) (x:R):R:=K.ev d (fun i=>K.c (at' l i)) x
theorem v_tab {R:Type} {K:Rg R} {N d:Nat} {m:Int} {t:Nat→Nat→Int} (L:LwR K N d m t) (f:Nat→Int) (x:R):v K d (tab (d+1) f) x=K.ev d (fun i=>K.c (f i)) x:=K.ev_congr fun i hi=>by rw [Bl (by omega)]
theorem v_times {R:Type} {K:Rg R} {N d:Nat} {m:Int} {t:Nat→Nat→Int} (L:LwR K N d m t) (a b:List Int) {x:R} (hx:L.S.O 1 x):v K d (timesL m a b d) x=K.m (v K d a x) (v K d b x):=by
 have hN:=L.hN
 rw [timesL,L.v_tab,v,v,K.ev_mul fun i hi=>L.S.nil hx (by omega)]
 refine K.ev_congr fun i _=>?_
 rw [K.c_mod L.hc,cv,K.c_sm]
 exact K.s_congr fun j _=>K.cM _ _
theorem v_add {R:Type} {K:Rg R} {N d:Nat} {m:Int} {t:Nat→Nat→Int} (L:LwR K N d m t) (a b:List Int) (x:R):v K d (addL m a b d) x=K.a (v K d a x) (v K d b x):=by
 rw [addL,L.v_tab,v,v,← K.ev_add]
 exact K.ev_congr fun i _=>by rw [K.c_mod L.hc,K.cA]
theorem v_sc {R:Type} {K:Rg R} {N d:Nat} {m:Int} {t:Nat→Nat→Int} (L:LwR K N d m t) (c:Int) (a:List Int) (x:R):v K d (scL m c a d) x=K.m (K.c c) (v K d a x):=by
 rw [scL,L.v_tab,v,← K.ev_smul]
 exact K.ev_congr fun i _=>by rw [K.c_mod L.hc,K.cM]
theorem v_zero {R:Type} {K:Rg R} {N d:Nat} {m:Int} {t:Nat→Nat→Int} (L:LwR K N d m t) (x:R):v K d (tab (d+1) (fun _=>0)) x=K.c 0:=by
 rw [L.v_tab,Rg.ev];exact K.s_zero fun i _=>K.mZl _
theorem v_one {R:Type} {K:Rg R} {N d:Nat} {m:Int} {t:Nat→Nat→Int} (L:LwR K N d m t) (x:R):v K d (oneL d) x=K.c 1:=by
 rw [oneL,L.v_tab,Rg.ev,K.s_one (show 0<d+1 by omega) (fun i h1 h2=>by rw [if_neg h2,K.mZl])]
 rw [if_pos rfl,K.mIl];rfl
theorem v_pw {R:Type} {K:Rg R} {N d:Nat} {m:Int} {t:Nat→Nat→Int} (L:LwR K N d m t) (a:List Int) {x:R} (hx:L.S.O 1 x):∀ k,v K d (pwS m a d k) x=K.p (v K d a x) k
 | 0=>L.v_one x
 | k+1=>by rw [pwS,L.v_times _ _ hx,v_pw L a hx k];rfl
theorem v_putR {R:Type} {K:Rg R} {N d:Nat} {m:Int} {t:Nat→Nat→Int} (L:LwR K N d m t) (P Q:Nat→List Int) (i:Nat) (acc:List Int) {x:R} (hx:L.S.O 1 x):∀ j,v K d (putR m t P Q d i acc j) x=K.a (v K d acc x) (K.s j (fun j=>K.m (K.c (t i j)) (K.m (v K d (P i) x) (v K d (Q j) x))))
 | 0=>by rw [putR,Rg.s,K.aZ]
 | j+1=>by
  rw [putR,Rg.s]
  split
  ·next h=>rw [v_putR L P Q i acc hx j,h,K.mZl,K.aZ]
  ·rw [L.v_add,v_putR L P Q i acc hx j,L.v_sc,L.v_times _ _ hx,K.aA]
theorem v_putO {R:Type} {K:Rg R} {N d:Nat} {m:Int} {t:Nat→Nat→Int} (L:LwR K N d m t) (P Q:Nat→List Int) {x:R} (hx:L.S.O 1 x):∀ i,v K d (putO m t P Q d i) x=K.s i (fun i=>K.s (d+1-i) (fun j=>K.m (K.c (t i j)) (K.m (v K d (P i) x) (v K d (Q j) x))))
 | 0=>L.v_zero x
 | i+1=>by rw [putO,L.v_putR P Q i _ hx,v_putO L P Q hx i];rfl
theorem Am4 {R:Type} {K:Rg R} {N d:Nat} {m:Int} {t:Nat→Nat→Int} (L:LwR K N d m t) (a b:List Int) {x:R} (hx:L.S.O 1 x):v K d (putL m t a b d) x=L.F (v K d a x) (v K d b x):=by
 rw [putL,L.v_putO _ _ hx,F,K.e2_sum]
 refine K.s_congr fun i hi=>?_
 rw [K.s_tail (show d+1-i≤d+1 by omega) (fun j h1 h2=>by rw [L.out i j (by omega),K.mZl])]
 exact K.s_congr fun j _=>by rw [L.v_pw a hx,L.v_pw b hx]
end LwR
theorem Aio (n:Nat) (f:Nat→Int):rgZ.s n f=sm n f:=by
 induction n with
 | zero=>rfl
 | succ n ih=>rw [Rg.s,ih];rfl
theorem ps_s {R:Type} (K:Rg R) (n:Nat) (G:Nat→Nat→R) (v:Nat):(K.ps.s n G) v=K.s n (fun i=>G i v):=by
 induction n with
 | zero=>show (if v=0 then K.c 0 else K.c 0)=K.c 0;simp
 | succ n ih=>rw [Rg.s,Rg.s,← ih];rfl
def zz:Rg (Nat→Nat→Int):=rgZ.ps.ps
theorem Et (f g:Nat→Nat→Int) (u v:Nat):zz.m f g u v=cv2 f g u v:=by
 show (rgZ.ps.s (u+1) (fun i=>rgZ.ps.m (f i) (g (u-i)))) v=_
 rw [ps_s,Aio]
 exact As fun i _=>Aio _ _
theorem Rh (f g:Nat→Nat→Int) (u v:Nat):zz.a f g u v=f u v+g u v:=rfl
theorem Fm (i:Int) (u v:Nat):zz.c i u v=if u=0∧v=0 then i else 0:=by
 show (if u=0 then rgZ.ps.c i else rgZ.ps.c 0) v=_
 by_cases hu:u=0
 ·rw [if_pos hu]
  show (if v=0 then i else 0)=_
  simp [hu]
 ·rw [if_neg hu]
  show (if v=0 then (0:Int) else 0)=_
  simp [hu]
theorem Su (i:Int) (g:Nat→Nat→Int) (u v:Nat):zz.m (zz.c i) g u v=i*g u v:=by
 rw [Et,cv2,Cd (show 0<u+1 by omega) (fun k _ h=>Az fun j _=>by rw [Fm,if_neg (by omega),Int.zero_mul]),Cd (show 0<v+1 by omega) (fun k _ h=>by rw [Fm,if_neg (by omega),Int.zero_mul])]
 rw [Fm,if_pos ⟨rfl,rfl⟩];rfl
def pq (N:Nat) (m:Int):Setoid (Nat→Nat→Int) where
 r f g:=∀ u v,u+v≤N→f u v%m=g u v%m
 iseqv:=⟨fun _ _ _ _=>rfl,fun h u v e=>(h u v e).symm,fun h1 h2 u v e=>(h1 u v e).trans (h2 u v e)⟩
theorem pq_a {N:Nat} {m:Int} {f f' g g':Nat→Nat→Int} (h1:(pq N m).r f f') (h2:(pq N m).r g g'):(pq N m).r (zz.a f g) (zz.a f' g'):=fun u v e=>by
 rw [Rh,Rh,Int.add_emod,h1 u v e,h2 u v e,← Int.add_emod]
theorem Aik {N:Nat} {m:Int} {f f':Nat→Nat→Int} (g:Nat→Nat→Int) (h1:(pq N m).r f f'):(pq N m).r (zz.m f g) (zz.m f' g):=fun u v e=>by
 rw [Et,Et];exact Kx fun i j h2 h3=>h1 i j (by omega)
theorem pq_m {N:Nat} {m:Int} {f f' g g':Nat→Nat→Int} (h1:(pq N m).r f f') (h2:(pq N m).r g g'):(pq N m).r (zz.m f g) (zz.m f' g'):=fun u v e=>by
 rw [Aik g h1 u v e,zz.mC f' g,zz.mC f' g'];exact Aik f' h2 u v e
def qr (N:Nat) (m:Int):Rg (Quotient (pq N m)) where
 a:=Quotient.lift₂ (fun f g=>Quotient.mk (pq N m) (zz.a f g)) (fun _ _ _ _ h1 h2=>Quotient.sound (pq_a h1 h2))
 m:=Quotient.lift₂ (fun f g=>Quotient.mk (pq N m) (zz.m f g)) (fun _ _ _ _ h1 h2=>Quotient.sound (pq_m h1 h2))
 c i:=Quotient.mk (pq N m) (zz.c i)
 aC x y:=Quotient.inductionOn₂ x y fun f g=>congrArg (Quotient.mk (pq N m)) (zz.aC f g)
 aA x y z:=Quotient.inductionOn₃ x y z fun f g h=>congrArg (Quotient.mk (pq N m)) (zz.aA f g h)
 aZ x:=Quotient.inductionOn x fun f=>congrArg (Quotient.mk (pq N m)) (zz.aZ f)
 mC x y:=Quotient.inductionOn₂ x y fun f g=>congrArg (Quotient.mk (pq N m)) (zz.mC f g)
 mA x y z:=Quotient.inductionOn₃ x y z fun f g h=>congrArg (Quotient.mk (pq N m)) (zz.mA f g h)
 mI x:=Quotient.inductionOn x fun f=>congrArg (Quotient.mk (pq N m)) (zz.mI f)
 mZ x:=Quotient.inductionOn x fun f=>congrArg (Quotient.mk (pq N m)) (zz.mZ f)
 mD x y z:=Quotient.inductionOn₃ x y z fun f g h=>congrArg (Quotient.mk (pq N m)) (zz.mD f g h)
 cA i j:=congrArg (Quotient.mk (pq N m)) (zz.cA i j)
 cM i j:=congrArg (Quotient.mk (pq N m)) (zz.cM i j)
theorem Zu {N:Nat} {m:Int} (f:Nat→Nat→Int):∀ n,(qr N m).p (Quotient.mk (pq N m) f) n=Quotient.mk (pq N m) (zz.p f n)
 | 0=>rfl
 | n+1=>by rw [Rg.p,Zu f n];rfl
def qo (N:Nat) (m:Int) (k:Nat):Quotient (pq N m)→Prop:=Quotient.lift (fun f=>∀ u v,u+v<k→u+v≤N→f u v%m=0) (fun f g h=>by
 have h':∀ u v,u+v≤N→f u v%m=g u v%m:=h
 exact propext ⟨fun H u v h1 h2=>by rw [← h' u v h2];exact H u v h1 h2,fun H u v h1 h2=>by rw [h' u v h2];exact H u v h1 h2⟩)
def qf (N:Nat) (m:Int):Fil (qr N m) N where
 O:=qo N m
 zero k:=fun u v h1 h2=>by rw [Fm];simp
 add {k x y}:=Quotient.inductionOn₂ x y fun f g h1 h2=>fun u v h3 h4=>by
  have e1:f u v%m=0:=h1 u v h3 h4
  have e2:g u v%m=0:=h2 u v h3 h4
  rw [Rh,Int.add_emod,e1,e2];simp
 mul {k l x y}:=Quotient.inductionOn₂ x y fun f g h1 h2=>fun u v h3 h4=>by
  rw [Et,cv2,show (0:Int)=sm (u+1) (fun _=>0)%m by rw [Az fun _ _=>rfl];simp]
  refine Be fun i hi=>?_
  rw [show (0:Int)=sm (v+1) (fun _=>0) by rw [Az fun _ _=>rfl]]
  refine Be fun j hj=>?_
  by_cases e:i+j<k
  ·have e1:f i j%m=0:=h1 i j e (by omega)
   rw [Int.mul_emod,e1];simp
  ·have e2:g (u-i) (v-j)%m=0:=h2 (u-i) (v-j) (by omega) (by omega)
   rw [Int.mul_emod,e2];simp
 cst x:=Quotient.inductionOn x fun f=>fun u v h1 _=>absurd h1 (by omega)
 low {k l x} hl:=Quotient.inductionOn x fun f h=>fun u v h1 h2=>h u v (by omega) h2
 top {k x} hk:=Quotient.inductionOn x fun f h=>Quotient.sound (show (pq N m).r f (zz.c 0) from fun u v e=>by
  have e1:f u v%m=0:=h u v (by omega) e
  rw [e1,Fm];simp)
def bn:Nat→Nat→Nat
 | _,0=>1
 | 0,_+1=>0
 | n+1,k+1=>bn n k+bn n (k+1)
theorem Zb (n:Nat):bn n 0=1:=by cases n <;> rfl
theorem Ti:∀ (n k:Nat),n<k→bn n k=0
 | 0,_+1,_=>rfl
 | n+1,k+1,h=>by rw [bn,Ti n k (by omega),Ti n (k+1) (by omega)]
theorem Aaa (n k:Nat):bn (n+1) (k+1)=bn n k+bn n (k+1):=rfl
end Go.Proofs.YtapdekacpecgiaaGreat
