import Derived.Test.YtapdekacpecgiaaGreatAc
import Derived.Test.YtapdekacpecgiaaGreatSa
import Derived.Test.YtapdekacpecgiaaGreatWr
namespace Go.Proofs.YtapdekacpecgiaaGreat
open Go.RowKit
set_option linter.unusedSimpArgs false
set_option linter.unusedVariables false
set_option linter.unusedSectionVars false
set_option maxRecDepth 20000
set_option maxHeartbeats 1000000
structure PlR {R:Type} (K:Rg R) (N d:Nat) (m:Int) where
 S:Fil K N
 hN:N≤d
 hd:1≤d
 hm:1<m
 hc:K.c m=K.c 0
namespace PlR
theorem e2_one {R:Type} {K:Rg R} {N d:Nat} {m:Int} (L:PlR K N d m) {x y:R} (hx:L.S.O 1 x) (hy:L.S.O 1 y):K.e2 d (pc (numP m 1 (d+1))) x y=K.c 1:=by
 have hN:=L.hN
 rw [L.S.e2_congr (Q:=fun u v=>if u=0∧v=0 then 1 else 0) hx hy (fun i j h=>by
  rw [numP,Bc (by omega)]
  split
  ·exact K.c_mod L.hc 1
  ·rfl),K.e2_sum,K.s_one (show 0<d+1 by omega) (fun i h1 h2=>K.s_zero fun j _=>by rw [if_neg (by omega),K.mZl]),K.s_one (show 0<d+1 by omega) (fun j h1 h2=>by rw [if_neg (by omega),K.mZl])]
 simp only [Rg.p,and_self,if_pos,K.mI]
theorem e2_pw {R:Type} {K:Rg R} {N d:Nat} {m:Int} {t:Nat→Nat→Int} (L:PlR K N d m) {x y:R} (hx:L.S.O 1 x) (hy:L.S.O 1 y):∀ i,K.e2 d (pc (pwP m (d+1) t i)) x y=K.p (K.e2 d t x y) i
 | 0=>L.e2_one hx hy
 | i+1=>by
  have hN:=L.hN
  rw [Rg.p,← e2_pw L hx hy i,L.S.e2_mul L.hN hx hy]
  exact L.S.e2_congr hx hy fun u v h=>by
   rw [pwP,pmul,Bc (by omega),K.c_mod L.hc];rfl
theorem left {R:Type} {K:Rg R} {N d:Nat} {m:Int} {t:Nat→Nat→Int} (L:PlR K N d m) (out:∀ i j,d<i+j→t i j=0) {x y z:R} (hx:L.S.O 1 x) (hy:L.S.O 1 y):K.e2 d t (K.e2 d t x y) z=K.s (d+1) (fun u=>K.s (d+1) (fun v=>K.s (d+1) (fun k=>K.m (K.c (lfS m (d+1) t u v k)) (K.m (K.p x u) (K.m (K.p y v) (K.p z k)))))):=by
 rw [K.e2_sum,K.s_swap]
 rw [K.s_congr (n:=d+1) (g:=fun k=>K.s (d+1) (fun u=>K.s (d+1) (fun v=>K.m (K.c (lfS m (d+1) t u v k)) (K.m (K.p x u) (K.m (K.p y v) (K.p z k)))))) (fun k hk=>by
  rw [K.s_congr (g:=fun i=>K.m (K.m (K.c (t i k)) (K.e2 d (pc (pwP m (d+1) t i)) x y)) (K.p z k)) (fun i _=>by rw [L.e2_pw hx hy,K.mA]),← K.s_mulr,← K.e2_add,K.e2_sum,K.s_mulr]
  refine K.s_congr fun u _=>?_
  rw [K.s_mulr]
  refine K.s_congr fun v _=>?_
  rw [lfS,Df (show d+1-k≤d+1 by omega) (fun i h1 h2=>by rw [out i k (by omega),Int.zero_mul])]
  ac_rfl)]
 rw [K.s_swap]
 exact K.s_congr fun u _=>K.s_swap _ _ _
theorem right {R:Type} {K:Rg R} {N d:Nat} {m:Int} {t:Nat→Nat→Int} (L:PlR K N d m) (out:∀ i j,d<i+j→t i j=0) {x y z:R} (hy:L.S.O 1 y) (hz:L.S.O 1 z):K.e2 d t x (K.e2 d t y z)=K.s (d+1) (fun u=>K.s (d+1) (fun v=>K.s (d+1) (fun k=>K.m (K.c (rtS m (d+1) t u v k)) (K.m (K.p x u) (K.m (K.p y v) (K.p z k)))))):=by
 rw [K.e2_sum]
 refine K.s_congr fun u hu=>?_
 rw [K.s_congr (g:=fun j=>K.m (K.m (K.c (t u j)) (K.e2 d (pc (pwP m (d+1) t j)) y z)) (K.p x u)) (fun j _=>by rw [L.e2_pw hy hz];ac_rfl),← K.s_mulr,← K.e2_add,K.e2_sum,K.s_mulr]
 refine K.s_congr fun v _=>?_
 rw [K.s_mulr]
 refine K.s_congr fun k _=>?_
 rw [rtS,Df (show d+1-u≤d+1 by omega) (fun j h1 h2=>by rw [out u j (by omega),Int.zero_mul])]
 ac_rfl
theorem v_tab {R:Type} {K:Rg R} {N d:Nat} {m:Int} (L:PlR K N d m) (f:Nat→Int) (x:R):LwR.v K d (tab (d+1) f) x=K.ev d (fun i=>K.c (f i)) x:=K.ev_congr fun i hi=>by rw [Bl (by omega)]
theorem v_times {R:Type} {K:Rg R} {N d:Nat} {m:Int} (L:PlR K N d m) (a b:List Int) {x:R} (hx:L.S.O 1 x):LwR.v K d (timesL m a b d) x=K.m (LwR.v K d a x) (LwR.v K d b x):=by
 have hN:=L.hN
 rw [timesL,L.v_tab,LwR.v,LwR.v,K.ev_mul fun i hi=>L.S.nil hx (by omega)]
 refine K.ev_congr fun i _=>?_
 rw [K.c_mod L.hc,cv,K.c_sm]
 exact K.s_congr fun j _=>K.cM _ _
theorem v_add {R:Type} {K:Rg R} {N d:Nat} {m:Int} (L:PlR K N d m) (a b:List Int) (x:R):LwR.v K d (addL m a b d) x=K.a (LwR.v K d a x) (LwR.v K d b x):=by
 rw [addL,L.v_tab,LwR.v,LwR.v,← K.ev_add]
 exact K.ev_congr fun i _=>by rw [K.c_mod L.hc,K.cA]
theorem v_sc {R:Type} {K:Rg R} {N d:Nat} {m:Int} (L:PlR K N d m) (c:Int) (a:List Int) (x:R):LwR.v K d (scL m c a d) x=K.m (K.c c) (LwR.v K d a x):=by
 rw [scL,L.v_tab,LwR.v,← K.ev_smul]
 exact K.ev_congr fun i _=>by rw [K.c_mod L.hc,K.cM]
theorem v_zero {R:Type} {K:Rg R} {N d:Nat} {m:Int} (L:PlR K N d m) (x:R):LwR.v K d (tab (d+1) (fun _=>0)) x=K.c 0:=by
 rw [L.v_tab,Rg.ev];exact K.s_zero fun i _=>K.mZl _
theorem v_one {R:Type} {K:Rg R} {N d:Nat} {m:Int} (L:PlR K N d m) (x:R):LwR.v K d (oneL d) x=K.c 1:=by
 rw [oneL,L.v_tab,Rg.ev,K.s_one (show 0<d+1 by omega) (fun i h1 h2=>by rw [if_neg h2,K.mZl])]
 rw [if_pos rfl,K.mIl];rfl
theorem v_pw {R:Type} {K:Rg R} {N d:Nat} {m:Int} (L:PlR K N d m) (a:List Int) {x:R} (hx:L.S.O 1 x):∀ k,LwR.v K d (pwS m a d k) x=K.p (LwR.v K d a x) k
 | 0=>L.v_one x
 | k+1=>by rw [pwS,L.v_times _ _ hx,v_pw L a hx k];rfl
theorem v_putR {R:Type} {K:Rg R} {N d:Nat} {m:Int} {t:Nat→Nat→Int} (L:PlR K N d m) (P Q:Nat→List Int) (i:Nat) (acc:List Int) {x:R} (hx:L.S.O 1 x):∀ j,LwR.v K d (putR m t P Q d i acc j) x=K.a (LwR.v K d acc x) (K.s j (fun j=>K.m (K.c (t i j)) (K.m (LwR.v K d (P i) x) (LwR.v K d (Q j) x))))
 | 0=>by rw [putR,Rg.s,K.aZ]
 | j+1=>by
  rw [putR,Rg.s]
  split
  ·next h=>rw [v_putR L P Q i acc hx j,h,K.mZl,K.aZ]
  ·rw [L.v_add,v_putR L P Q i acc hx j,L.v_sc,L.v_times _ _ hx,K.aA]
theorem v_putO {R:Type} {K:Rg R} {N d:Nat} {m:Int} {t:Nat→Nat→Int} (L:PlR K N d m) (P Q:Nat→List Int) {x:R} (hx:L.S.O 1 x):∀ i,LwR.v K d (putO m t P Q d i) x=K.s i (fun i=>K.s (d+1-i) (fun j=>K.m (K.c (t i j)) (K.m (LwR.v K d (P i) x) (LwR.v K d (Q j) x))))
 | 0=>L.v_zero x
 | i+1=>by rw [putO,L.v_putR P Q i _ hx,v_putO L P Q hx i];rfl
theorem Am4 {R:Type} {K:Rg R} {N d:Nat} {m:Int} {t:Nat→Nat→Int} (L:PlR K N d m) (out:∀ i j,d<i+j→t i j=0) (a b:List Int) {x:R} (hx:L.S.O 1 x):LwR.v K d (putL m t a b d) x=K.e2 d t (LwR.v K d a x) (LwR.v K d b x):=by
 rw [putL,L.v_putO _ _ hx,K.e2_sum]
 refine K.s_congr fun i hi=>?_
 rw [K.s_tail (show d+1-i≤d+1 by omega) (fun j h1 h2=>by rw [out i j (by omega),K.mZl])]
 exact K.s_congr fun j _=>by rw [L.v_pw a hx,L.v_pw b hx]
theorem v_cmp {R:Type} {K:Rg R} {N d:Nat} {m:Int} (L:PlR K N d m) (a f:List Int) {x:R} (hx:L.S.O 1 x):∀ k,k≤d+1→LwR.v K d (cmpL m a f d k) x=K.s k (fun i=>K.m (K.c (at' a (d+1-k+i))) (K.p (LwR.v K d f x) i))
 | 0,_=>L.v_zero x
 | k+1,hk=>by
  have h1:cmpL m a f d (k+1)=addL m (timesL m (cmpL m a f d k) f d) (tab (d+1) (fun j=>if j=0 then at' a (d-k)%m else 0)) d:=by
   rw [cmpL,addL]
   refine Bn fun j hj=>?_
   rw [Bl hj,timesL,Bl hj]
  have h2:LwR.v K d (tab (d+1) (fun j=>if j=0 then at' a (d-k)%m else 0)) x=K.c (at' a (d-k)):=by
   rw [L.v_tab,Rg.ev,K.s_one (show 0<d+1 by omega) (fun i h1 h2=>by rw [if_neg h2,K.mZl])]
   rw [if_pos rfl,Rg.p,K.mI,K.c_mod L.hc]
  rw [h1,L.v_add,L.v_times _ _ hx,h2,v_cmp L a f hx k (by omega),K.s_left,K.s_mulr,K.aC,show d+1-(k+1)+0=d-k by omega,Rg.p,K.mI]
  refine congrArg (K.a _) (K.s_congr fun i hi=>?_)
  rw [show d+1-(k+1)+(i+1)=d+1-k+i by omega,K.mA]
  rfl
theorem v_cmpL {R:Type} {K:Rg R} {N d:Nat} {m:Int} (L:PlR K N d m) (a f:List Int) {x:R} (hx:L.S.O 1 x):LwR.v K d (cmpL m a f d (d+1)) x=LwR.v K d a (LwR.v K d f x):=by
 rw [L.v_cmp a f hx (d+1) (Nat.le_refl _),LwR.v,Rg.ev]
 exact K.s_congr fun i hi=>by rw [show d+1-(d+1)+i=i by omega]
theorem e2_aft {R:Type} {K:Rg R} {N d:Nat} {m:Int} (L:PlR K N d m) (t:Nat→Nat→Int) {c:List Int} (hl:c.length=d+1) {x y:R} (hx:L.S.O 1 x) (hy:L.S.O 1 y):K.e2 d (pc (aftL m (d+1) t c c.length)) x y=LwR.v K d c (K.e2 d t x y):=by
 have hN:=L.hN
 have hm:=L.hm
 rw [L.S.e2_congr (Q:=fun u v=>sm c.length (fun i=>at' c i*pc (pwP m (d+1) t i) u v)) hx hy (fun i j h=>by rw [J9 (by omega) (by omega),K.c_mod L.hc]),K.e2_add,hl]
 exact K.s_congr fun i _=>by rw [L.e2_pw hx hy]
theorem v_o {R:Type} {K:Rg R} {N d:Nat} {m:Int} (L:PlR K N d m) {a:List Int} (h0:at' a 0=0) {x:R} (hx:L.S.O 1 x):L.S.O 1 (LwR.v K d a x):=by
 rw [LwR.v,Rg.ev,K.s_left,h0,K.mZl,K.aZl]
 refine L.S.sum fun i _=>L.S.low (show 1≤0+(i+1) by omega) (L.S.mul (L.S.cst _) (L.S.pw1 hx (i+1)))
theorem e2_o {R:Type} {K:Rg R} {N d:Nat} {m:Int} (L:PlR K N d m) {t:Nat→Nat→Int} (h0:t 0 0=0) {x y:R} (hx:L.S.O 1 x) (hy:L.S.O 1 y):L.S.O 1 (K.e2 d t x y):=by
 rw [K.e2_sum]
 refine L.S.sum fun i _=>L.S.sum fun j _=>?_
 by_cases h:i=0∧j=0
 ·rw [h.1,h.2,h0,K.mZl];exact L.S.zero 1
 ·exact L.S.low (show 1≤0+(i+j) by omega) (L.S.mul (L.S.cst _) (L.S.mul (L.S.pw1 hx i) (L.S.pw1 hy j)))
end PlR
def mo2 (a b:Nat):Nat→Nat→Int:=fun u v=>if u=a∧v=b then 1 else 0
theorem Aij (a b:Nat) (g:Nat→Nat→Int) (u v:Nat):zz.m (mo2 a b) g u v=if a≤u∧b≤v then g (u-a) (v-b) else 0:=by
 rw [Et,cv2]
 by_cases h:a≤u
 ·rw [Cd (p:=a) (by omega) (fun i _ hi=>Az fun j _=>by rw [mo2,if_neg (fun e=>hi e.1),Int.zero_mul])]
  by_cases h2:b≤v
  ·rw [Cd (p:=b) (by omega) (fun j _ hj=>by rw [mo2,if_neg (fun e=>hj e.2),Int.zero_mul]),mo2,if_pos ⟨rfl,rfl⟩,Int.one_mul,if_pos ⟨h,h2⟩]
  ·rw [if_neg (fun e=>h2 e.2)]
   exact Az fun j hj=>by rw [mo2,if_neg (by omega),Int.zero_mul]
 ·rw [if_neg (fun e=>h e.1)]
  exact Az fun i hi=>Az fun j _=>by rw [mo2,if_neg (by omega),Int.zero_mul]
theorem Qr (a b a' b':Nat):zz.m (mo2 a b) (mo2 a' b')=mo2 (a+a') (b+b'):=by
 funext u v
 rw [Aij,mo2,mo2]
 by_cases h:a≤u∧b≤v
 ·rw [if_pos h]
  by_cases h2:u-a=a'∧v-b=b'
  ·rw [if_pos h2,if_pos (by omega)]
  ·rw [if_neg h2,if_neg (by omega)]
 ·rw [if_neg h,if_neg (by omega)]
theorem Alp:zz.c 1=mo2 0 0:=by funext u v;rw [Fm,mo2]
theorem Tb (a b:Nat):∀ n,zz.p (mo2 a b) n=mo2 (n*a) (n*b)
 | 0=>by rw [Rg.p,Alp,Nat.zero_mul,Nat.zero_mul]
 | n+1=>by rw [Rg.p,Tb a b n,Qr,Nat.add_mul,Nat.add_mul,Nat.one_mul,Nat.one_mul]
theorem Abn (n:Nat) (f:Nat→Nat→Nat→Int) (u v:Nat):zz.s n f u v=sm n (fun i=>f i u v):=by
 induction n with
 | zero=>rw [Rg.s,Fm];simp [sm]
 | succ n ih=>rw [Rg.s,Rh,ih];rfl
theorem Z9 {N:Nat} {m:Int} (f:Nat→Nat→Nat→Int):∀ n,(qr N m).s n (fun i=>Quotient.mk (pq N m) (f i))=Quotient.mk (pq N m) (zz.s n f)
 | 0=>rfl
 | n+1=>by rw [Rg.s,Z9 f n];rfl
def qX (N:Nat) (m:Int):Quotient (pq N m):=Quotient.mk _ (mo2 1 0)
def qY (N:Nat) (m:Int):Quotient (pq N m):=Quotient.mk _ (mo2 0 1)
def qP (d:Nat) (m:Int) (hd:1≤d) (hm:1<m):PlR (qr d m) d d m where
 S:=qf d m
 hN:=Nat.le_refl d
 hd:=hd
 hm:=hm
 hc:=Quotient.sound (show (pq d m).r (zz.c m) (zz.c 0) from fun u v e=>by
  rw [Fm,Fm]
  by_cases h:u=0∧v=0
  ·rw [if_pos h,if_pos h];simp
  ·rw [if_neg h,if_neg h])
theorem Af8 (d:Nat) (m:Int) (hd:1≤d) (hm:1<m):(qP d m hd hm).S.O 1 (qX d m):=fun u v h1 h2=>by
 rw [mo2,if_neg (by omega)];simp
theorem qY_o (d:Nat) (m:Int) (hd:1≤d) (hm:1<m):(qP d m hd hm).S.O 1 (qY d m):=fun u v h1 h2=>by
 rw [mo2,if_neg (by omega)];simp
theorem Ack (d:Nat) (m:Int) (P:Nat→Nat→Int):(qr d m).e2 d P (qX d m) (qY d m)=Quotient.mk (pq d m) (fun u v=>if u≤d∧v≤d then P u v else 0):=by
 have h1:∀ i j,(qr d m).m ((qr d m).c (P i j)) ((qr d m).m ((qr d m).p (qX d m) i) ((qr d m).p (qY d m) j))=Quotient.mk (pq d m) (fun u v=>P i j*mo2 i j u v):=fun i j=>by
  rw [qX,qY,Zu,Zu,Tb,Tb]
  show Quotient.mk (pq d m) (zz.m (zz.c (P i j)) (zz.m (mo2 (i*1) (i*0)) (mo2 (j*0) (j*1))))=_
  rw [Qr]
  simp only [Nat.mul_one,Nat.mul_zero,Nat.add_zero,Nat.zero_add]
  exact congrArg _ (by funext u v;rw [Su])
 rw [(qr d m).e2_sum]
 have h2:∀ i,(qr d m).s (d+1) (fun j=>(qr d m).m ((qr d m).c (P i j)) ((qr d m).m ((qr d m).p (qX d m) i) ((qr d m).p (qY d m) j)))=Quotient.mk (pq d m) (zz.s (d+1) (fun j u v=>P i j*mo2 i j u v)):=fun i=>by
  rw [← Z9];exact (qr d m).s_congr fun j _=>h1 i j
 rw [(qr d m).s_congr (fun i _=>h2 i),Z9]
 refine congrArg _ ?_
 funext u v
 rw [Abn]
 rw [As (fun i _=>Abn _ _ _ _)]
 by_cases h:u≤d
 ·rw [Cd (p:=u) (by omega) (fun i _ hi=>Az fun j _=>by rw [mo2,if_neg (fun e=>hi e.1.symm),Int.mul_zero])]
  by_cases h3:v≤d
  ·rw [Cd (p:=v) (by omega) (fun j _ hj=>by rw [mo2,if_neg (fun e=>hj e.2.symm),Int.mul_zero]),mo2,if_pos ⟨rfl,rfl⟩,Int.mul_one,if_pos ⟨h,h3⟩]
  ·rw [if_neg (fun e=>h3 e.2)]
   exact Az fun j hj=>by rw [mo2,if_neg (by omega),Int.mul_zero]
 ·rw [if_neg (fun e=>h e.1)]
  exact Az fun i hi=>Az fun j _=>by rw [mo2,if_neg (by omega),Int.mul_zero]
theorem T4 {d:Nat} {m:Int} {P Q:Nat→Nat→Int} (h:(qr d m).e2 d P (qX d m) (qY d m)=(qr d m).e2 d Q (qX d m) (qY d m)) {u v:Nat} (huv:u+v≤d):P u v%m=Q u v%m:=by
 rw [Ack,Ack] at h
 have h1:(pq d m).r (fun u v=>if u≤d∧v≤d then P u v else 0) (fun u v=>if u≤d∧v≤d then Q u v else 0):=Quotient.exact h
 have h2:=h1 u v huv
 simpa only [if_pos (show u≤d∧v≤d by omega)] using h2
theorem Am1 {d:Nat} {m:Int} {a b:List Int} (h:LwR.v (qr d m) d a (qX d m)=LwR.v (qr d m) d b (qX d m)) {u:Nat} (hu:u≤d):at' a u%m=at' b u%m:=by
 have h1:∀ l:List Int,(qr d m).e2 d (fun i j=>if j=0 then at' l i else 0) (qX d m) (qY d m)=LwR.v (qr d m) d l (qX d m):=fun l=>by
  rw [(qr d m).e2_sum,LwR.v,Rg.ev]
  refine (qr d m).s_congr fun i _=>?_
  rw [(qr d m).s_one (show 0<d+1 by omega) (fun j _ hj=>by rw [if_neg hj,(qr d m).mZl]),if_pos rfl,Rg.p,(qr d m).mI]
 have h2:=T4 (P:=fun i j=>if j=0 then at' a i else 0) (Q:=fun i j=>if j=0 then at' b i else 0) ((h1 a).trans (h.trans (h1 b).symm)) (u:=u) (v:=0) (by omega)
 simpa using h2
def zt:Rg (Nat→Nat→Nat→Int):=zz.ps
theorem Aah (f g:Nat→Nat→Nat→Int) (k u v:Nat):zt.a f g k u v=f k u v+g k u v:=rfl
theorem U7 (f g:Nat→Nat→Nat→Int) (k u v:Nat):zt.m f g k u v=sm (k+1) (fun i=>cv2 (f i) (g (k-i)) u v):=by
 show (zz.s (k+1) (fun i=>zz.m (f i) (g (k-i)))) u v=_
 rw [Abn]
 exact As fun i _=>Et _ _ _ _
theorem Jb (i:Int) (k u v:Nat):zt.c i k u v=if k=0∧u=0∧v=0 then i else 0:=by
 show (if k=0 then zz.c i else zz.c 0) u v=_
 by_cases h:k=0
 ·rw [if_pos h,Fm]
  by_cases h2:u=0∧v=0
  ·rw [if_pos h2,if_pos ⟨h,h2⟩]
  ·rw [if_neg h2,if_neg (fun e=>h2 e.2)]
 ·rw [if_neg h,Fm];simp [h]
def pt3 (N:Nat) (m:Int):Setoid (Nat→Nat→Nat→Int) where
 r f g:=∀ k u v,k+u+v≤N→f k u v%m=g k u v%m
 iseqv:=⟨fun _ _ _ _ _=>rfl,fun h k u v e=>(h k u v e).symm,fun h1 h2 k u v e=>(h1 k u v e).trans (h2 k u v e)⟩
theorem pt_a {N:Nat} {m:Int} {f f' g g':Nat→Nat→Nat→Int} (h1:(pt3 N m).r f f') (h2:(pt3 N m).r g g'):(pt3 N m).r (zt.a f g) (zt.a f' g'):=fun k u v e=>by
 rw [Aah,Aah,Int.add_emod,h1 k u v e,h2 k u v e,← Int.add_emod]
theorem Aim {N:Nat} {m:Int} {f f':Nat→Nat→Nat→Int} (g:Nat→Nat→Nat→Int) (h1:(pt3 N m).r f f'):(pt3 N m).r (zt.m f g) (zt.m f' g):=fun k u v e=>by
 rw [U7,U7]
 exact Be fun i hi=>Kx fun a b h2 h3=>h1 i a b (by omega)
theorem pt_m {N:Nat} {m:Int} {f f' g g':Nat→Nat→Nat→Int} (h1:(pt3 N m).r f f') (h2:(pt3 N m).r g g'):(pt3 N m).r (zt.m f g) (zt.m f' g'):=fun k u v e=>by
 rw [Aim g h1 k u v e,zt.mC f' g,zt.mC f' g'];exact Aim f' h2 k u v e
def qt (N:Nat) (m:Int):Rg (Quotient (pt3 N m)) where
 a:=Quotient.lift₂ (fun f g=>Quotient.mk (pt3 N m) (zt.a f g)) (fun _ _ _ _ h1 h2=>Quotient.sound (pt_a h1 h2))
 m:=Quotient.lift₂ (fun f g=>Quotient.mk (pt3 N m) (zt.m f g)) (fun _ _ _ _ h1 h2=>Quotient.sound (pt_m h1 h2))
 c i:=Quotient.mk (pt3 N m) (zt.c i)
 aC x y:=Quotient.inductionOn₂ x y fun f g=>congrArg (Quotient.mk (pt3 N m)) (zt.aC f g)
 aA x y z:=Quotient.inductionOn₃ x y z fun f g h=>congrArg (Quotient.mk (pt3 N m)) (zt.aA f g h)
 aZ x:=Quotient.inductionOn x fun f=>congrArg (Quotient.mk (pt3 N m)) (zt.aZ f)
 mC x y:=Quotient.inductionOn₂ x y fun f g=>congrArg (Quotient.mk (pt3 N m)) (zt.mC f g)
 mA x y z:=Quotient.inductionOn₃ x y z fun f g h=>congrArg (Quotient.mk (pt3 N m)) (zt.mA f g h)
 mI x:=Quotient.inductionOn x fun f=>congrArg (Quotient.mk (pt3 N m)) (zt.mI f)
 mZ x:=Quotient.inductionOn x fun f=>congrArg (Quotient.mk (pt3 N m)) (zt.mZ f)
 mD x y z:=Quotient.inductionOn₃ x y z fun f g h=>congrArg (Quotient.mk (pt3 N m)) (zt.mD f g h)
 cA i j:=congrArg (Quotient.mk (pt3 N m)) (zt.cA i j)
 cM i j:=congrArg (Quotient.mk (pt3 N m)) (zt.cM i j)
theorem Ab3 {N:Nat} {m:Int} (f:Nat→Nat→Nat→Int):∀ n,(qt N m).p (Quotient.mk (pt3 N m) f) n=Quotient.mk (pt3 N m) (zt.p f n)
 | 0=>rfl
 | n+1=>by rw [Rg.p,Ab3 f n];rfl
theorem Aa3 {N:Nat} {m:Int} (f:Nat→Nat→Nat→Nat→Int):∀ n,(qt N m).s n (fun i=>Quotient.mk (pt3 N m) (f i))=Quotient.mk (pt3 N m) (zt.s n f)
 | 0=>rfl
 | n+1=>by rw [Rg.s,Aa3 f n];rfl
def qo3 (N:Nat) (m:Int) (j:Nat):Quotient (pt3 N m)→Prop:=Quotient.lift (fun f=>∀ k u v,k+u+v<j→k+u+v≤N→f k u v%m=0) (fun f g h=>by
 have h':∀ k u v,k+u+v≤N→f k u v%m=g k u v%m:=h
 exact propext ⟨fun H k u v h1 h2=>by rw [← h' k u v h2];exact H k u v h1 h2,fun H k u v h1 h2=>by rw [h' k u v h2];exact H k u v h1 h2⟩)
def qf3 (N:Nat) (m:Int):Fil (qt N m) N where
 O:=qo3 N m
 zero j:=fun k u v h1 h2=>by rw [Jb];simp
 add {j x y}:=Quotient.inductionOn₂ x y fun f g h1 h2=>fun k u v h3 h4=>by
  have e1:f k u v%m=0:=h1 k u v h3 h4
  have e2:g k u v%m=0:=h2 k u v h3 h4
  rw [Aah,Int.add_emod,e1,e2];simp
 mul {j l x y}:=Quotient.inductionOn₂ x y fun f g h1 h2=>fun k u v h3 h4=>by
  rw [U7,show (0:Int)=sm (k+1) (fun _=>0)%m by rw [Az fun _ _=>rfl];simp]
  refine Be fun i hi=>?_
  rw [cv2,show (0:Int)=sm (u+1) (fun _=>0) by rw [Az fun _ _=>rfl]]
  refine Be fun a ha=>?_
  rw [show (0:Int)=sm (v+1) (fun _=>0) by rw [Az fun _ _=>rfl]]
  refine Be fun b hb=>?_
  by_cases e:i+a+b<j
  ·have e1:f i a b%m=0:=h1 i a b e (by omega)
   rw [Int.mul_emod,e1];simp
  ·have e2:g (k-i) (u-a) (v-b)%m=0:=h2 (k-i) (u-a) (v-b) (by omega) (by omega)
   rw [Int.mul_emod,e2];simp
 cst x:=Quotient.inductionOn x fun f=>fun k u v h1 _=>absurd h1 (by omega)
 low {j l x} hl:=Quotient.inductionOn x fun f h=>fun k u v h1 h2=>h k u v (by omega) h2
 top {j x} hk:=Quotient.inductionOn x fun f h=>Quotient.sound (show (pt3 N m).r f (zt.c 0) from fun k u v e=>by
  have e1:f k u v%m=0:=h k u v (by omega) e
  rw [e1,Jb];simp)
def mo3 (c a b:Nat):Nat→Nat→Nat→Int:=fun k u v=>if k=c∧u=a∧v=b then 1 else 0
theorem Pt (c a b i:Nat):mo3 c a b i=if i=c then mo2 a b else fun _ _=>0:=by
 funext u v
 by_cases h:i=c
 ·rw [if_pos h,mo3,mo2]
  by_cases h2:u=a∧v=b
  ·rw [if_pos ⟨h,h2⟩,if_pos h2]
  ·rw [if_neg (fun e=>h2 e.2),if_neg h2]
 ·rw [if_neg h,mo3,if_neg (fun e=>h e.1)]
theorem Q7 (c a b c' a' b':Nat):zt.m (mo3 c a b) (mo3 c' a' b')=mo3 (c+c') (a+a') (b+b'):=by
 funext k u v
 rw [U7]
 by_cases h:c≤k
 ·rw [Cd (p := c) (by omega) (fun i _ hi => by
   rw [Pt,if_neg hi,cv2]
   exact Az fun _ _=>Az fun _ _=>Int.zero_mul _),Pt,if_pos rfl,← Et,Pt]
  by_cases h2:k-c=c'
  ·rw [if_pos h2,Qr,mo3,mo2]
   by_cases h3:u=a+a'∧v=b+b'
   ·rw [if_pos h3,if_pos (by omega)]
   ·rw [if_neg h3,if_neg (by omega)]
  ·rw [if_neg h2,Aij,show mo3 (c+c') (a+a') (b+b') k u v=0 from if_neg (by omega)]
   split <;> rfl
 ·rw [mo3,if_neg (by omega)]
  exact Az fun i hi=>by
   rw [Pt,if_neg (by omega),cv2]
   exact Az fun _ _=>Az fun _ _=>Int.zero_mul _
theorem Amq:zt.c 1=mo3 0 0 0:=by funext k u v;rw [Jb,mo3]
theorem P5 (c a b:Nat):∀ n,zt.p (mo3 c a b) n=mo3 (n*c) (n*a) (n*b)
 | 0=>by rw [Rg.p,Amq,Nat.zero_mul,Nat.zero_mul,Nat.zero_mul]
 | n+1=>by rw [Rg.p,P5 c a b n,Q7,Nat.add_mul,Nat.add_mul,Nat.add_mul,Nat.one_mul,Nat.one_mul,Nat.one_mul]
theorem Agx (n:Nat) (f:Nat→Nat→Nat→Nat→Int) (k u v:Nat):zt.s n f k u v=sm n (fun i=>f i k u v):=by
 induction n with
 | zero=>rw [Rg.s,Jb];simp [sm]
 | succ n ih=>rw [Rg.s,Aah,ih];rfl
theorem Anb (i:Int) (g:Nat→Nat→Nat→Int) (k u v:Nat):zt.m (zt.c i) g k u v=i*g k u v:=by
 rw [U7,Cd (p:=0) (by omega) (fun j _ hj=>by
  rw [cv2]
  refine Az fun a _=>Az fun b _=>?_
  rw [Jb,if_neg (fun e=>hj e.1),Int.zero_mul])]
 rw [cv2,Cd (p:=0) (by omega) (fun a _ ha=>Az fun b _=>by rw [Jb,if_neg (fun e=>ha e.2.1),Int.zero_mul]),Cd (p:=0) (by omega) (fun b _ hb=>by rw [Jb,if_neg (fun e=>hb e.2.2),Int.zero_mul]),Jb,if_pos ⟨rfl,rfl,rfl⟩]
 rfl
def triX (N:Nat) (m:Int):Quotient (pt3 N m):=Quotient.mk _ (mo3 0 1 0)
def triY (N:Nat) (m:Int):Quotient (pt3 N m):=Quotient.mk _ (mo3 0 0 1)
def triZ (N:Nat) (m:Int):Quotient (pt3 N m):=Quotient.mk _ (mo3 1 0 0)
def qP3 (d:Nat) (m:Int) (hd:1≤d) (hm:1<m):PlR (qt d m) d d m where
 S:=qf3 d m
 hN:=Nat.le_refl d
 hd:=hd
 hm:=hm
 hc:=Quotient.sound (show (pt3 d m).r (zt.c m) (zt.c 0) from fun k u v e=>by
  rw [Jb,Jb]
  by_cases h:k=0∧u=0∧v=0
  ·rw [if_pos h,if_pos h];simp
  ·rw [if_neg h,if_neg h])
theorem Akt (d:Nat) (m:Int) (hd:1≤d) (hm:1<m):(qP3 d m hd hm).S.O 1 (triX d m):=fun k u v h1 h2=>by
 rw [mo3,if_neg (by omega)];simp
theorem Amc (d:Nat) (m:Int) (hd:1≤d) (hm:1<m):(qP3 d m hd hm).S.O 1 (triY d m):=fun k u v h1 h2=>by
 rw [mo3,if_neg (by omega)];simp
theorem Amf (d:Nat) (m:Int) (hd:1≤d) (hm:1<m):(qP3 d m hd hm).S.O 1 (triZ d m):=fun k u v h1 h2=>by
 rw [mo3,if_neg (by omega)];simp
def e3 {R:Type} (K:Rg R) (d:Nat) (P:Nat→Nat→Nat→Int) (x y z:R):R:=K.s (d+1) (fun u=>K.s (d+1) (fun v=>K.s (d+1) (fun k=>K.m (K.c (P u v k)) (K.m (K.p x u) (K.m (K.p y v) (K.p z k))))))
theorem Aip (d:Nat) (m:Int) (P:Nat→Nat→Nat→Int):e3 (qt d m) d P (triX d m) (triY d m) (triZ d m)=Quotient.mk (pt3 d m) (fun k u v=>if k≤d∧u≤d∧v≤d then P u v k else 0):=by
 have h1:∀ a b c,(qt d m).m ((qt d m).c (P a b c)) ((qt d m).m ((qt d m).p (triX d m) a) ((qt d m).m ((qt d m).p (triY d m) b) ((qt d m).p (triZ d m) c)))=Quotient.mk (pt3 d m) (fun k u v=>P a b c*mo3 c a b k u v):=fun a b c=>by
  rw [triX,triY,triZ,Ab3,Ab3,Ab3,P5,P5,P5]
  show Quotient.mk (pt3 d m) (zt.m (zt.c (P a b c)) (zt.m (mo3 (a*0) (a*1) (a*0)) (zt.m (mo3 (b*0) (b*0) (b*1)) (mo3 (c*1) (c*0) (c*0)))))=_
  rw [Q7,Q7]
  simp only [Nat.mul_one,Nat.mul_zero,Nat.add_zero,Nat.zero_add]
  exact congrArg _ (by funext k u v;rw [Anb])
 have h2:∀ a b,(qt d m).s (d+1) (fun c=>(qt d m).m ((qt d m).c (P a b c)) ((qt d m).m ((qt d m).p (triX d m) a) ((qt d m).m ((qt d m).p (triY d m) b) ((qt d m).p (triZ d m) c))))=Quotient.mk (pt3 d m) (zt.s (d+1) (fun c k u v=>P a b c*mo3 c a b k u v)):=fun a b=>by
  rw [← Aa3];exact (qt d m).s_congr fun c _=>h1 a b c
 have h3:∀ a,(qt d m).s (d+1) (fun b=>(qt d m).s (d+1) (fun c=>(qt d m).m ((qt d m).c (P a b c)) ((qt d m).m ((qt d m).p (triX d m) a) ((qt d m).m ((qt d m).p (triY d m) b) ((qt d m).p (triZ d m) c)))))=Quotient.mk (pt3 d m) (zt.s (d+1) (fun b=>zt.s (d+1) (fun c k u v=>P a b c*mo3 c a b k u v))):=fun a=>by
  rw [← Aa3];exact (qt d m).s_congr fun b _=>h2 a b
 rw [e3,(qt d m).s_congr (fun a _=>h3 a),Aa3]
 refine congrArg _ ?_
 funext k u v
 rw [Agx,As (fun a _=>Agx _ _ _ _ _),As (fun a _=>As (fun b _=>Agx _ _ _ _ _))]
 by_cases h:k≤d∧u≤d∧v≤d
 ·rw [if_pos h,Cd (p:=u) (by omega) (fun a _ ha=>Az fun b _=>Az fun c _=>by rw [mo3,if_neg (fun e=>ha e.2.1.symm),Int.mul_zero]),Cd (p:=v) (by omega) (fun b _ hb=>Az fun c _=>by rw [mo3,if_neg (fun e=>hb e.2.2.symm),Int.mul_zero]),Cd (p:=k) (by omega) (fun c _ hc=>by rw [mo3,if_neg (fun e=>hc e.1.symm),Int.mul_zero]),mo3,if_pos ⟨rfl,rfl,rfl⟩,Int.mul_one]
 ·rw [if_neg h]
  exact Az fun a ha=>Az fun b hb=>Az fun c hc=>by rw [mo3,if_neg (by omega),Int.mul_zero]
theorem Amj {d:Nat} {m:Int} {P Q:Nat→Nat→Nat→Int} (h:e3 (qt d m) d P (triX d m) (triY d m) (triZ d m)=e3 (qt d m) d Q (triX d m) (triY d m) (triZ d m)) {u v k:Nat} (huv:u+v+k≤d):P u v k%m=Q u v k%m:=by
 rw [Aip,Aip] at h
 have h1:(pt3 d m).r (fun k u v=>if k≤d∧u≤d∧v≤d then P u v k else 0) (fun k u v=>if k≤d∧u≤d∧v≤d then Q u v k else 0):=Quotient.exact h
 have h2:=h1 k u v (by omega)
 simpa only [if_pos (show k≤d∧u≤d∧v≤d by omega)] using h2
theorem dvdC {m a b:Int}:m∣a-b↔a%m=b%m:=
 ⟨fun h=>Int.emod_eq_emod_iff_emod_sub_eq_zero.2 (Int.emod_eq_zero_of_dvd h),fun h=>Int.dvd_of_emod_eq_zero (Int.emod_eq_emod_iff_emod_sub_eq_zero.1 h)⟩
theorem eucC (m a:Int):∀ (n:Nat) (r s x y:Int),s.toNat=n→0≤r→0≤s→m∣r-x*a→m∣s-y*a→m∣((Nat.gcd r.toNat s.toNat:Nat):Int)-eu r s x y*a:=by
 intro n
 induction n using Nat.strongRecOn with
 | _ n ih=>
  intro r s x y hn hr hs h1 h2
  by_cases h:0<s
  ·rw [Qq h]
   have e1:=Ag r s h
   have hq:r%s=r-r/s*s:=by have:=Int.emod_add_mul_ediv r s;grind
   have h3:m∣r%s-(x-r/s*y)*a:=by
    obtain ⟨k1,g1⟩:=h1
    obtain ⟨k2,g2⟩:=h2
    exact ⟨k1-r/s*k2,by rw [hq];grind⟩
   have:=ih (r%s).toNat (by omega) s (r%s) y (x-r/s*y) rfl hs e1.1 h2 h3
   have hg:Nat.gcd s.toNat (r%s).toNat=Nat.gcd r.toNat s.toNat:=by
    rw [show (r%s).toNat=r.toNat%s.toNat by rw [Int.toNat_emod hr hs],Nat.gcd_comm s.toNat,← Nat.gcd_rec,Nat.gcd_comm]
   rwa [hg] at this
  ·have hs0:s=0:=by omega
   subst hs0
   rw [Ut (by omega)]
   simp only [Int.toNat_zero,Nat.gcd_zero_right]
   rwa [Int.toNat_of_nonneg hr]
theorem invC {m a:Int} (hm:1<m) (ha:0≤a∧a<m) (h:Nat.gcd a.toNat m.toNat=1):(invL m a*a)%m=1%m:=by
 have e:=Ag a m (by omega)
 have h1:=eucC m a _ m (a%m) 0 1 rfl (by omega) e.1 ⟨1,by omega⟩ ⟨-(a/m),by have:=Int.emod_add_mul_ediv a m;grind⟩
 rw [Int.emod_eq_of_lt ha.1 ha.2,Nat.gcd_comm,h] at h1
 unfold invL
 rw [Int.emod_eq_of_lt ha.1 ha.2,Int.mul_emod,Int.emod_emod,← Int.mul_emod]
 exact (dvdC.1 h1).symm
def rvN (m u:Int) (a:List Int) (d:Nat):Nat→List Int
 | 0=>tab (d+1) (fun j=>if j=1 then u else 0)
 | k+1=>(rvN m u a d k).set (k+2) ((-(at' (cmpL m a (rvN m u a d k) d (d+1)) (k+2))*u)%m)
def rvL (m:Int) (a:List Int) (d:Nat):List Int:=rvN m (invL m (at' a 1)) a d (d-1)
theorem Fq {m u:Int} (hm:0<m) (hu:0≤u∧u<m) (a:List Int) (d:Nat):∀ k,(rvN m u a d k).length=d+1∧∀ x∈rvN m u a d k,0≤x∧x<m
 | 0=>⟨Ae _ _,fun x hx=>by
  obtain ⟨i,_,rfl⟩:=D8.1 hx
  split
  ·exact hu
  ·omega⟩
 | k+1=>by
  have ih:=Fq hm hu a d k
  refine ⟨by rw [rvN,List.length_set];exact ih.1,fun x hx=>?_⟩
  rcases List.mem_or_eq_of_mem_set hx with h|h
  ·exact ih.2 x h
  ·rw [h];exact Ag _ m hm
theorem Fb {l:List Int} {i j:Nat} {x:Int} (hi:i<l.length):at' (l.set i x) j=if j=i then x else at' l j:=by
 rw [at',List.getD_eq_getElem?_getD,List.getElem?_set]
 by_cases h:i=j
 ·subst h;rw [if_pos rfl,if_pos rfl,if_pos hi];rfl
 ·rw [if_neg h,if_neg (fun e=>h e.symm)];rfl
theorem Gg {m u:Int} (hm:0<m) (hu:0≤u∧u<m) (a:List Int) {d:Nat}:∀ k,k+1≤d→at' (rvN m u a d k) 0=0∧at' (rvN m u a d k) 1=u
 | 0,h=>by rw [rvN,Bl (by omega),Bl (by omega)];simp
 | k+1,h=>by
  have ih:=Gg hm hu a (d:=d) k (by omega)
  have hl:=(Fq hm hu a d k).1
  have hk:k+2<(rvN m u a d k).length:=by omega
  rw [rvN,Fb hk,Fb hk,if_neg (by omega),if_neg (by omega)]
  exact ih
theorem Ai9 {m u:Int} {a:List Int} {d:Nat}:∀ k,k+2≤d→at' (rvN m u a d k) (k+2)=0:=by
 have key:∀ k j,k+2≤j→j≤d→at' (rvN m u a d k) j=0:=by
  intro k
  induction k with
  | zero=>intro j h1 h2;rw [rvN,Bl (by omega),if_neg (by omega)]
  | succ k ih=>
   intro j h1 h2
   have hl:(rvN m u a d k).length=d+1:=by
    clear ih
    induction k with
    | zero=>exact Ae _ _
    | succ k ih=>rw [rvN,List.length_set];exact ih (by omega)
   have hk:k+2<(rvN m u a d k).length:=by omega
   rw [rvN,Fb hk,if_neg (by omega)]
   exact ih j (by omega) h2
 exact fun k h=>key k (k+2) (Nat.le_refl _) h
theorem M5 {m:Int} {f:List Int} {d:Nat} (f0:at' f 0=0):∀ i u,u≤d→u<i→at' (pwS m f d i) u%m=0
 | 0,u,_,h=>by omega
 | i+1,u,hu,h=>by
  rw [pwS,Gp hu,show (0:Int)=sm (u+1) (fun _=>0)%m by rw [Az fun _ _=>rfl];simp]
  refine Be fun j hj=>?_
  by_cases e:u-j=0
  ·rw [e,f0,Int.mul_zero]
  ·rw [Int.mul_emod,M5 f0 i j (by omega) (by omega)];simp
theorem Ve {m:Int} {f g:List Int} {d n:Nat} (f0:at' f 0=0) (g0:at' g 0=0) (h:∀ j,j<n→at' f j%m=at' g j%m):∀ i u,u≤d→(u+1<n+i∨i=0)→at' (pwS m f d i) u%m=at' (pwS m g d i) u%m
 | 0,u,hu,_=>by rw [pwS,pwS]
 | i+1,u,hu,h1=>by
  rw [pwS,pwS,Gp hu,Gp hu]
  refine Be fun j hj=>?_
  by_cases e:u-j=0
  ·rw [e,f0,g0,Int.mul_zero,Int.mul_zero]
  ·by_cases e2:j<i
   ·rw [Int.mul_emod,M5 f0 i j (by omega) e2,Int.mul_emod (at' (pwS m g d i) j),M5 g0 i j (by omega) e2];simp
   ·refine Af (Ve f0 g0 h i j (by omega) ?_) (h (u-j) (by omega))
    rcases Nat.eq_zero_or_pos i with h2|h2
    ·exact .inr h2
    ·exact .inl (by omega)
theorem Ai1 {m:Int} {a f g:List Int} {d n:Nat} (hn:n+2≤d) (f0:at' f 0=0) (g0:at' g 0=0) (h:∀ j,j<n+2→at' f j%m=at' g j%m) {u:Nat} (hu:u≤n+2):at' (cmpL m a f d (d+1)) u%m=(at' (cmpL m a g d (d+1)) u+at' a 1*(at' f u-at' g u))%m:=by
 rw [M0 a f d (d+1) (Nat.le_refl _) u (by omega),Int.add_emod,M0 a g d (d+1) (Nat.le_refl _) u (by omega),← Int.add_emod,Nat.sub_self]
 have hp1:∀ l:List Int,at' (pwS m l d 1) u%m=at' l u%m:=fun l=>by
  rw [pwS,pwS,Gp (by omega)]
  refine congrArg (· % m) ?_
  rw [cv,Cd (p:=0) (by omega) (fun j hj hne=>by rw [Hp d j (by omega),oneF,if_neg hne,Int.zero_mul]),Hp d 0 (by omega),oneF,if_pos rfl,Int.one_mul,Nat.sub_zero]
 have hd1:d+1=(d-1)+1+1:=by omega
 rw [hd1,Bq,Bq,Bq,Bq]
 simp only [Nat.zero_add]
 have h0:at' (pwS m f d 0) u=at' (pwS m g d 0) u:=by rw [pwS,pwS]
 have hrest:sm (d-1) (fun i=>at' a (i+1+1)*at' (pwS m f d (i+1+1)) u)%m=sm (d-1) (fun i=>at' a (i+1+1)*at' (pwS m g d (i+1+1)) u)%m:=Be fun i hi=>Af rfl (Ve f0 g0 h (i+1+1) u (by omega) (.inl (by omega)))
 have h1:(at' a 1*at' (pwS m f d 1) u)%m=(at' a 1*at' (pwS m g d 1) u+at' a 1*(at' f u-at' g u))%m:=by
  rw [Af rfl (hp1 f),Int.add_emod,Af (a:=at' a 1) rfl (hp1 g),← Int.add_emod,← Int.mul_add]
  congr 2;omega
 rw [h0,Int.add_assoc,Int.add_assoc]
 refine Bh rfl ?_
 have e2:sm (d-1) (fun i=>at' a (i+1+1)*at' (pwS m g d (i+1+1)) u)+at' a 1*(at' f u-at' g u)=at' a 1*(at' f u-at' g u)+sm (d-1) (fun i=>at' a (i+1+1)*at' (pwS m g d (i+1+1)) u):=Int.add_comm _ _
 rw [e2,← Int.add_assoc]
 exact Bh h1 hrest
theorem Af4 {m u:Int} (hm:1<m) (hu:0≤u∧u<m) {a:List Int} (a0:at' a 0=0) (h1:(u*at' a 1)%m=1%m) {d:Nat} (hd:1≤d):∀ k,k+1≤d→∀ v,v≤k+1→at' (cmpL m a (rvN m u a d k) d (d+1)) v%m=(if v=1 then 1 else 0)%m
 | 0,_,v,hv=>by
  have hz:=Gg (show 0<m by omega) hu a (d:=d) 0 (by omega)
  rw [M0 a _ d (d+1) (Nat.le_refl _) v (by omega),Nat.sub_self]
  have hd1:d+1=(d-1)+1+1:=by omega
  rw [hd1,Bq,Bq]
  simp only [Nat.zero_add]
  have hrest:sm (d-1) (fun i=>at' a (i+1+1)*at' (pwS m (rvN m u a d 0) d (i+1+1)) v)%m=0:=by
   rw [show (0:Int)=sm (d-1) (fun _=>0)%m by rw [Az fun _ _=>rfl];simp]
   exact Be fun i _=>by rw [Int.mul_emod,M5 hz.1 _ v (by omega) (by omega)];simp
  have hp1:at' (pwS m (rvN m u a d 0) d 1) v%m=at' (rvN m u a d 0) v%m:=by
   rw [pwS,pwS,Gp (by omega)]
   refine congrArg (· % m) ?_
   rw [cv,Cd (p:=0) (by omega) (fun j hj hne=>by rw [Hp d j (by omega),oneF,if_neg hne,Int.zero_mul]),Hp d 0 (by omega),oneF,if_pos rfl,Int.one_mul,Nat.sub_zero]
  rw [a0,Int.zero_mul,Int.zero_add,Int.add_emod,hrest,Int.add_zero,Int.emod_emod,Af rfl hp1]
  rcases (show v=0∨v=1 by omega) with rfl|rfl
  ·rw [hz.1,Int.mul_zero];simp
  ·rw [hz.2,Int.mul_comm,h1];simp
 | k+1,hk,v,hv=>by
  have hz:=Gg (show 0<m by omega) hu a (d:=d) k (by omega)
  have hz2:=Gg (show 0<m by omega) hu a (d:=d) (k+1) (by omega)
  have hl:=(Fq (show 0<m by omega) hu a d k).1
  have hk2:k+2<(rvN m u a d k).length:=by omega
  have hs:∀ j,at' (rvN m u a d (k+1)) j=if j=k+2 then (-(at' (cmpL m a (rvN m u a d k) d (d+1)) (k+2))*u)%m else at' (rvN m u a d k) j:=fun j=>by rw [rvN,Fb hk2]
  rw [Ai1 (n:=k) (by omega) hz2.1 hz.1 (fun j hj=>by rw [hs,if_neg (by omega)]) (u:=v) (by omega),hs]
  by_cases e:v=k+2
  ·subst e
   rw [if_pos rfl,if_neg (by omega)]
   have hp0:at' (rvN m u a d k) (k+2)=0:=Ai9 k (by omega)
   rw [hp0,Int.sub_zero]
   have h2:(at' a 1*((-(at' (cmpL m a (rvN m u a d k) d (d+1)) (k+2))*u)%m))%m=(-(at' (cmpL m a (rvN m u a d k) d (d+1)) (k+2)))%m:=by
    rw [Int.mul_emod,Int.emod_emod,← Int.mul_emod,show at' a 1*(-(at' (cmpL m a (rvN m u a d k) d (d+1)) (k+2))*u) = -(at' (cmpL m a (rvN m u a d k) d (d+1)) (k+2))*(u*at' a 1) by grind,Int.mul_emod,h1,← Int.mul_emod,Int.mul_one]
   rw [Int.add_emod,h2,← Int.add_emod,Int.add_right_neg]
  ·rw [if_neg e,Int.sub_self,Int.mul_zero,Int.add_zero]
   exact Af4 hm hu a0 h1 hd k (by omega) v (by omega)
structure Crd (m:Int) (d:Nat) (a:List Int):Prop where
 hm:1<m
 hd:1≤d
 len:a.length=d+1
 num:∀ x∈a,0≤x∧x<m
 a0:at' a 0=0
 a1:(invL m (at' a 1)*at' a 1)%m=1%m
theorem Crd.b1 {m:Int} {d:Nat} {a:List Int} (h:Crd m d a):0≤at' a 1∧at' a 1<m:=A4 h.num (by have:=h.hm;omega) 1
theorem L5 {m:Int} {d:Nat} {a:List Int} (h:Crd m d a):(rvL m a d).length=d+1∧(∀ x∈rvL m a d,0≤x∧x<m)∧at' (rvL m a d) 0=0∧at' (rvL m a d) 1=invL m (at' a 1):=by
 have hm:=h.hm
 have hd:=h.hd
 have hu:=E1 m (at' a 1) (by omega)
 have f:=Fq (show 0<m by omega) hu a d (d-1)
 have z:=Gg (show 0<m by omega) hu a (d:=d) (d-1) (by omega)
 exact ⟨f.1,f.2,z.1,z.2⟩
section
variable {R:Type} {K:Rg R} {N d:Nat} {m:Int}
theorem v_id (L:PlR K N d m) {l:List Int} (h:∀ i,i≤d→at' l i%m=(if i=1 then 1 else 0)%m) (x:R):LwR.v K d l x=x:=by
 have hd:=L.hd
 rw [LwR.v,Rg.ev,K.s_congr (g:=fun i=>K.m (K.c (if i=1 then 1 else 0)) (K.p x i)) (fun i hi=>by rw [K.c_eq L.hc (h i (by omega))]),K.s_one (show 1<d+1 by omega) (fun i _ hi=>by rw [if_neg hi,K.mZl]),if_pos rfl,K.mIl,Rg.p,Rg.p,K.mIl]
theorem Ail (L:PlR K N d m) {u:Int} {a:List Int} (hu:0≤u∧u<m) (a0:at' a 0=0) (h1:(u*at' a 1)%m=1%m) {x:R} (hx:L.S.O 1 x):LwR.v K d a (LwR.v K d (rvN m u a d (d-1)) x)=x:=by
 have hd:=L.hd
 rw [← L.v_cmpL a _ hx]
 exact v_id L (fun i hi=>Af4 L.hm hu a0 h1 hd (d-1) (by omega) i (by omega)) x
theorem Agc (L:PlR K N d m) {a:List Int} (h:Crd m d a) {x:R} (hx:L.S.O 1 x):LwR.v K d a (LwR.v K d (rvL m a d) x)=x:=
 Ail L (E1 m _ (by have:=h.hm;omega)) h.a0 h.a1 hx
theorem v_vr (L:PlR K N d m) {a:List Int} (h:Crd m d a) {x:R} (hx:L.S.O 1 x):LwR.v K d (rvL m a d) (LwR.v K d a x)=x:=by
 have f:=L5 h
 have hd:=h.hd
 have e1:(at' a 1*at' (rvL m a d) 1)%m=1%m:=by rw [f.2.2.2,Int.mul_comm];exact h.a1
 have hc:=Ail L h.b1 f.2.2.1 e1 hx
 have hz:=Gg (show 0<m by have:=h.hm;omega) h.b1 (rvL m a d) (d:=d) (d-1) (by omega)
 have hco:=L.v_o hz.1 hx
 have h2:=Agc L h hco
 rw [hc] at h2
 rw [h2,hc]
theorem Ai6 (P Q:Nat→Nat→Int) (x y:R):K.e2 d (fun u v=>P u v+Q u v) x y=K.a (K.e2 d P x y) (K.e2 d Q x y):=by
 rw [K.e2_sum,K.e2_sum,K.e2_sum,← K.s_add]
 refine K.s_congr fun i _=>?_
 rw [← K.s_add]
 exact K.s_congr fun j _=>by rw [K.cA,K.mDr]
theorem Am2 (a:List Int) (x y:R):K.e2 d (fun u v=>if v=0 then at' a u else 0) x y=LwR.v K d a x:=by
 rw [K.e2_sum,LwR.v,Rg.ev]
 refine K.s_congr fun i _=>?_
 rw [K.s_one (show 0<d+1 by omega) (fun j _ hj=>by rw [if_neg hj,K.mZl]),if_pos rfl,Rg.p,K.mI]
theorem Am8 (a:List Int) (x y:R):K.e2 d (fun u v=>if u=0 then at' a v else 0) x y=LwR.v K d a y:=by
 rw [K.e2_sum,K.s_one (show 0<d+1 by omega) (fun i _ hi=>K.s_zero fun j _=>by rw [if_neg hi,K.mZl]),LwR.v,Rg.ev]
 refine K.s_congr fun j _=>?_
 rw [if_pos rfl,Rg.p,K.mIl]
def sumF (a:List Int) (u v:Nat):Int:=(if v=0 then at' a u else 0)+(if u=0 then at' a v else 0)
theorem Ys (L:PlR K N d m) {a:List Int} {S:Nat→Nat→Int} (hS:∀ u v,u+v≤d→S u v%m=sumF a u v%m) {x y:R} (hx:L.S.O 1 x) (hy:L.S.O 1 y):K.e2 d S x y=K.a (LwR.v K d a x) (LwR.v K d a y):=by
 have hN:=L.hN
 rw [L.S.e2_congr (Q:=sumF a) hx hy (fun i j h=>K.c_eq L.hc (hS i j (by omega)))]
 unfold sumF
 rw [Ai6,Am2,Am8]
end
theorem p_z {R:Type} (K:Rg R) (n:Nat):K.p (K.c 0) (n+1)=K.c 0:=by rw [Rg.p,K.mZ]
theorem Ais {m:Int} {n:Nat} {s t:List (List Int)} (hs:Pl m n s) (ht:Pl m n t) (h:∀ u v,u+v<n→pc s u v%m=pc t u v%m):s=t:=by
 rw [hs.eq,ht.eq]
 refine A5 fun u v huv=>?_
 have h1:=hs.num u v
 have h2:=ht.num u v
 have:=h u v huv
 rwa [Int.emod_eq_of_lt h1.1 h1.2,Int.emod_eq_of_lt h2.1 h2.2] at this
theorem Aky {m:Int} {d:Nat} {t:List (List Int)} (h:Pl m (d+1) t) (i j:Nat) (hij:d<i+j):pc t i j=0:=by
 rw [h.eq];exact Af2 (by omega)
theorem Oh {m x y:Int} (hx:0≤x∧x<m) (hy:0≤y∧y<m) (h:x%m=y%m):x=y:=by
 rwa [Int.emod_eq_of_lt hx.1 hx.2,Int.emod_eq_of_lt hy.1 hy.2] at h
theorem Ajj {m : Int} {d : Nat} {a : List Int} (h : Crd m d a) {T : List (List Int)} (hT : Pl m (d + 1) T)
  (hF:∀ (R:Type) (K:Rg R) (L:PlR K d d m) (x y:R),L.S.O 1 x→L.S.O 1 y→K.e2 d (pc T) x y=LwR.v K d (rvL m a d) (K.a (LwR.v K d a x) (LwR.v K d a y))):IsLw m (d+1) (pc T):=by
 have hm:=h.hm
 have hd:=h.hd
 have f:=L5 h
 refine ⟨fun i hi=>?_,fun i j h1 h2=>?_,fun u v k huv=>?_⟩
 ·let L:=qP d m hd hm
  have hx:=Af8 d m hd hm
  have h1:=hF _ _ L (qX d m) ((qr d m).c 0) hx (L.S.zero 1)
  have h2:LwR.v (qr d m) d a ((qr d m).c 0)=(qr d m).c 0:=by
   rw [LwR.v,Rg.ev]
   refine (qr d m).s_zero fun i _=>?_
   cases i with
   | zero=>rw [h.a0,(qr d m).mZl]
   | succ i=>rw [Rg.p,(qr d m).mZ,(qr d m).mZ]
  rw [h2,(qr d m).aZ,v_vr L h hx] at h1
  have h3:(qr d m).e2 d (pc T) (qX d m) ((qr d m).c 0)=LwR.v (qr d m) d (tab (d+1) (fun i=>pc T i 0)) (qX d m):=by
   rw [(qr d m).e2_sum,LwR.v,Rg.ev]
   refine (qr d m).s_congr fun i hi=>?_
   rw [(qr d m).s_one (show 0<d+1 by omega) (fun j _ hj=>by
    cases j with
    | zero=>exact absurd rfl hj
    | succ j=>rw [p_z,(qr d m).mZ,(qr d m).mZ]),Bl hi,Rg.p,(qr d m).mI]
  have h4:LwR.v (qr d m) d (tab (d+1) (fun i=>if i=1 then 1 else 0)) (qX d m)=qX d m:=v_id L (fun i hi=>by rw [Bl (by omega)]) _
  rw [h3] at h1
  have h5:=Am1 (h1.trans h4.symm) (u:=i) (by omega)
  rw [Bl hi,Bl hi] at h5
  unfold ok1
  refine Oh (hT.num i 0) (by split <;> omega) h5
 ·let L:=qP d m hd hm
  have hx:=Af8 d m hd hm
  have hy:=qY_o d m hd hm
  have h3:=hF _ _ L (qX d m) (qY d m) hx hy
  have h4:=hF _ _ L (qY d m) (qX d m) hy hx
  have h5:(qr d m).e2 d (pc T) (qY d m) (qX d m)=(qr d m).e2 d (fun u v=>pc T v u) (qX d m) (qY d m):=by
   rw [(qr d m).e2_sum,(qr d m).e2_sum,(qr d m).s_swap]
   exact (qr d m).s_congr fun i _=>(qr d m).s_congr fun j _=>by rw [(qr d m).mC ((qr d m).p (qY d m) j)]
  have h6:=T4 (P:=pc T) (Q:=fun u v=>pc T v u) (by rw [h3,← h5,h4,(qr d m).aC]) (u:=i) (v:=j) (by omega)
  exact Oh (hT.num i j) (hT.num j i) h6
 ·let L:=qP3 d m hd hm
  have hx:=Akt d m hd hm
  have hy:=Amc d m hd hm
  have hz:=Amf d m hd hm
  have out:=Aky hT
  have h00:pc T 0 0=0:=by
   have e:=hF _ _ (qP d m hd hm) ((qr d m).c 0) ((qr d m).c 0) ((qf d m).zero 1) ((qf d m).zero 1)
   have h2:LwR.v (qr d m) d a ((qr d m).c 0)=(qr d m).c 0:=by
    rw [LwR.v,Rg.ev]
    refine (qr d m).s_zero fun i _=>?_
    cases i with
    | zero=>rw [h.a0,(qr d m).mZl]
    | succ i=>rw [Rg.p,(qr d m).mZ,(qr d m).mZ]
   have h3:LwR.v (qr d m) d (rvL m a d) ((qr d m).c 0)=(qr d m).c 0:=by
    rw [LwR.v,Rg.ev]
    refine (qr d m).s_zero fun i _=>?_
    cases i with
    | zero=>rw [f.2.2.1,(qr d m).mZl]
    | succ i=>rw [Rg.p,(qr d m).mZ,(qr d m).mZ]
   rw [h2,(qr d m).aZ,h3,(qr d m).e2_sum,(qr d m).s_one (show 0<d+1 by omega) (fun i _ hi=>(qr d m).s_zero fun j _=>by
    cases i with
    | zero=>exact absurd rfl hi
    | succ i=>rw [p_z,(qr d m).mZl,(qr d m).mZ]),(qr d m).s_one (show 0<d+1 by omega) (fun j _ hj=>by
    cases j with
    | zero=>exact absurd rfl hj
    | succ j=>rw [p_z,(qr d m).mZ,(qr d m).mZ]),Rg.p,(qr d m).mI,(qr d m).mI] at e
   have e2:(pq d m).r (zz.c (pc T 0 0)) (zz.c 0):=Quotient.exact e
   have e3:=e2 0 0 (by omega)
   rw [Fm,Fm,if_pos ⟨rfl,rfl⟩,if_pos ⟨rfl,rfl⟩] at e3
   exact Oh (hT.num 0 0) (by omega) e3
  have hxy:=L.e2_o (t:=pc T) h00 hx hy
  have hyz:=L.e2_o (t:=pc T) h00 hy hz
  have hl:=L.left out (z:=triZ d m) hx hy
  have hr:=L.right out (x:=triX d m) hy hz
  have ax:=L.v_o h.a0 hx
  have ay:=L.v_o h.a0 hy
  have az:=L.v_o h.a0 hz
  rw [hF _ _ L _ _ hxy hz,hF _ _ L _ _ hx hy,Agc L h (L.S.add ax ay)] at hl
  rw [hF _ _ L _ _ hx hyz,hF _ _ L _ _ hy hz,Agc L h (L.S.add ay az),← (qt d m).aA] at hr
  exact Amj (P:=lfS m (d+1) (pc T)) (Q:=rtS m (d+1) (pc T)) (hl.symm.trans hr) (by omega)
def lawT (m:Int) (a:List Int) (d:Nat) (S:Nat→Nat→Int):List (List Int):=aftL m (d+1) S (rvL m a d) (d+1)
theorem Re {m:Int} (hm:0<m) (a:List Int) (d:Nat) (S:Nat→Nat→Int):Pl m (d+1) (lawT m a d S):=Gj hm _ _ _ _
theorem Rv {R:Type} {K:Rg R} {N d:Nat} {m:Int} (L:PlR K N d m) {a:List Int} (h:Crd m d a) {S:Nat→Nat→Int} (hS:∀ u v,u+v≤d→S u v%m=sumF a u v%m) {x y:R} (hx:L.S.O 1 x) (hy:L.S.O 1 y):K.e2 d (pc (lawT m a d S)) x y=LwR.v K d (rvL m a d) (K.a (LwR.v K d a x) (LwR.v K d a y)):=by
 have hl:=(L5 h).1
 have e:=L.e2_aft S hl hx hy
 rw [hl] at e
 rw [lawT,e,Ys L hS hx hy]
theorem Ahi {d:Nat} {m:Int} {a:List Int} (h:Crd m d a) {S:Nat→Nat→Int} (hS:∀ u v,u+v≤d→S u v%m=sumF a u v%m):IsLw m (d+1) (pc (lawT m a d S)):=
 Ajj h (Re (by have:=h.hm;omega) _ _ _) fun R K L x y hx hy=>Rv L h hS hx hy
end Go.Proofs.YtapdekacpecgiaaGreat
