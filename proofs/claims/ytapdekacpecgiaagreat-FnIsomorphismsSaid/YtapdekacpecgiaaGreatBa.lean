import Derived.Test.YtapdekacpecgiaaGreatAc
import Derived.Test.YtapdekacpecgiaaGreatSa
import Derived.Test.YtapdekacpecgiaaGreatWr
namespace Go.Proofs.YtapdekacpecgiaaGreat
open Go.RowKit
set_option linter.unusedSimpArgs false
set_option linter.unusedVariables false
set_option linter.unusedSectionVars false
set_option maxRecDepth 20000
set_option maxHeartbeats 1000000
structure PlR {R:Type} (K:Rg R) (N d:Nat) (m:Int) where
 S:Fil K N
 hN:N≤d
 hd:1≤d
 hm:1<m
 hc:K.c m=K.c 0
namespace PlR
theorem e2_one {R:Type} {K:Rg R} {N d:Nat} {m:Int} (L:PlR K N d m) {x y:R} (hx:L.S.O 1 x) (hy:L.S.O 1 y):K.e2 d (pc (numP m 1 (d+1))) x y=K.c 1:=by
 have hN:=L.hN
 rw [L.S.e2_congr (Q:=fun u v=>if u=0∧v=0 then 1 else 0) hx hy (fun i j h=>by
  rw [numP,Bi (by omega)]
  split
  ·exact K.c_mod L.hc 1
  ·rfl),K.e2_sum,K.s_one (show 0<d+1 by omega) (fun i h1 h2=>K.s_zero fun j _=>by rw [if_neg (by omega),K.mZl]),K.s_one (show 0<d+1 by omega) (fun j h1 h2=>by rw [if_neg (by omega),K.mZl])]
 simp only [Rg.p,and_self,if_pos,K.mI]
theorem e2_pw {R:Type} {K:Rg R} {N d:Nat} {m:Int} {t:Nat→Nat→Int} (L:PlR K N d m) {x y:R} (hx:L.S.O 1 x) (hy:L.S.O 1 y):∀ i,K.e2 d (pc (pwP m (d+1) t i)) x y=K.p (K.e2 d t x y) i
 | 0=>L.e2_one hx hy
 | i+1=>by
  have hN:=L.hN
  rw [Rg.p,← e2_pw L hx hy i,L.S.e2_mul L.hN hx hy]
  exact L.S.e2_congr hx hy fun u v h=>by
   rw [pwP,pmul,Bi (by omega),K.c_mod L.hc];rfl
theorem left {R:Type} {K:Rg R} {N d:Nat} {m:Int} {t:Nat→Nat→Int} (L:PlR K N d m) (out:∀ i j,d<i+j→t i j=0) {x y z:R} (hx:L.S.O 1 x) (hy:L.S.O 1 y):K.e2 d t (K.e2 d t x y) z=K.s (d+1) (fun u=>K.s (d+1) (fun v=>K.s (d+1) (fun k=>K.m (K.c (lfS m (d+1) t u v k)) (K.m (K.p x u) (K.m (K.p y v) (K.p z k)))))):=by
 rw [K.e2_sum,K.s_swap]
 rw [K.s_congr (n:=d+1) (g:=fun k=>K.s (d+1) (fun u=>K.s (d+1) (fun v=>K.m (K.c (lfS m (d+1) t u v k)) (K.m (K.p x u) (K.m (K.p y v) (K.p z k)))))) (fun k hk=>by
  rw [K.s_congr (g:=fun i=>K.m (K.m (K.c (t i k)) (K.e2 d (pc (pwP m (d+1) t i)) x y)) (K.p z k)) (fun i _=>by rw [L.e2_pw hx hy,K.mA]),← K.s_mulr,← K.e2_add,K.e2_sum,K.s_mulr]
  refine K.s_congr fun u _=>?_
  rw [K.s_mulr]
  refine K.s_congr fun v _=>?_
  rw [lfS,Dh (show d+1-k≤d+1 by omega) (fun i h1 h2=>by rw [out i k (by omega),Int.zero_mul])]
  ac_rfl)]
 rw [K.s_swap]
 exact K.s_congr fun u _=>K.s_swap _ _ _
theorem right {R:Type} {K:Rg R} {N d:Nat} {m:Int} {t:Nat→Nat→Int} (L:PlR K N d m) (out:∀ i j,d<i+j→t i j=0) {x y z:R} (hy:L.S.O 1 y) (hz:L.S.O 1 z):K.e2 d t x (K.e2 d t y z)=K.s (d+1) (fun u=>K.s (d+1) (fun v=>K.s (d+1) (fun k=>K.m (K.c (rtS m (d+1) t u v k)) (K.m (K.p x u) (K.m (K.p y v) (K.p z k)))))):=by
 rw [K.e2_sum]
 refine K.s_congr fun u hu=>?_
 rw [K.s_congr (g:=fun j=>K.m (K.m (K.c (t u j)) (K.e2 d (pc (pwP m (d+1) t j)) y z)) (K.p x u)) (fun j _=>by rw [L.e2_pw hy hz];ac_rfl),← K.s_mulr,← K.e2_add,K.e2_sum,K.s_mulr]
 refine K.s_congr fun v _=>?_
 rw [K.s_mulr]
 refine K.s_congr fun k _=>?_
 rw [rtS,Dh (show d+1-u≤d+1 by omega) (fun j h1 h2=>by rw [out u j (by omega),Int.zero_mul])]
 ac_rfl
theorem v_tab {R:Type} {K:Rg R} {N d:Nat} {m:Int} (L:PlR K N d m) (f:Nat→Int) (x:R):LwR.v K d (tab (d+1) f) x=K.ev d (fun i=>K.c (f i)) x:=K.ev_congr fun i hi=>by rw [Bm (by omega)]
theorem v_times {R:Type} {K:Rg R} {N d:Nat} {m:Int} (L:PlR K N d m) (a b:List Int) {x:R} (hx:L.S.O 1 x):LwR.v K d (timesL m a b d) x=K.m (LwR.v K d a x) (LwR.v K d b x):=by
 have hN:=L.hN
 rw [timesL,L.v_tab,LwR.v,LwR.v,K.ev_mul fun i hi=>L.S.nil hx (by omega)]
 refine K.ev_congr fun i _=>?_
 rw [K.c_mod L.hc,cv,K.c_sm]
 exact K.s_congr fun j _=>K.cM _ _
theorem v_add {R:Type} {K:Rg R} {N d:Nat} {m:Int} (L:PlR K N d m) (a b:List Int) (x:R):LwR.v K d (addL m a b d) x=K.a (LwR.v K d a x) (LwR.v K d b x):=by
 rw [addL,L.v_tab,LwR.v,LwR.v,← K.ev_add]
 exact K.ev_congr fun i _=>by rw [K.c_mod L.hc,K.cA]
theorem v_sc {R:Type} {K:Rg R} {N d:Nat} {m:Int} (L:PlR K N d m) (c:Int) (a:List Int) (x:R):LwR.v K d (scL m c a d) x=K.m (K.c c) (LwR.v K d a x):=by
 rw [scL,L.v_tab,LwR.v,← K.ev_smul]
 exact K.ev_congr fun i _=>by rw [K.c_mod L.hc,K.cM]
theorem v_zero {R:Type} {K:Rg R} {N d:Nat} {m:Int} (L:PlR K N d m) (x:R):LwR.v K d (tab (d+1) (fun _=>0)) x=K.c 0:=by
 rw [L.v_tab,Rg.ev];exact K.s_zero fun i _=>K.mZl _
theorem v_one {R:Type} {K:Rg R} {N d:Nat} {m:Int} (L:PlR K N d m) (x:R):LwR.v K d (oneL d) x=K.c 1:=by
 rw [oneL,L.v_tab,Rg.ev,K.s_one (show 0<d+1 by omega) (fun i h1 h2=>by rw [if_neg h2,K.mZl])]
 rw [if_pos rfl,K.mIl];rfl
theorem v_pw {R:Type} {K:Rg R} {N d:Nat} {m:Int} (L:PlR K N d m) (a:List Int) {x:R} (hx:L.S.O 1 x):∀ k,LwR.v K d (pwS m a d k) x=K.p (LwR.v K d a x) k
 | 0=>L.v_one x
 | k+1=>by rw [pwS,L.v_times _ _ hx,v_pw L a hx k];rfl
theorem v_putR {R:Type} {K:Rg R} {N d:Nat} {m:Int} {t:Nat→Nat→Int} (L:PlR K N d m) (P Q:Nat→List Int) (i:Nat) (acc:List Int) {x:R} (hx:L.S.O 1 x):∀ j,LwR.v K d (putR m t P Q d i acc j) x=K.a (LwR.v K d acc x) (K.s j (fun j=>K.m (K.c (t i j)) (K.m (LwR.v K d (P i) x) (LwR.v K d (Q j) x))))
 | 0=>by rw [putR,Rg.s,K.aZ]
 | j+1=>by
  rw [putR,Rg.s]
  split
  ·next h=>rw [v_putR L P Q i acc hx j,h,K.mZl,K.aZ]
  ·rw [L.v_add,v_putR L P Q i acc hx j,L.v_sc,L.v_times _ _ hx,K.aA]
theorem v_putO {R:Type} {K:Rg R} {N d:Nat} {m:Int} {t:Nat→Nat→Int} (L:PlR K N d m) (P Q:Nat→List Int) {x:R} (hx:L.S.O 1 x):∀ i,LwR.v K d (putO m t P Q d i) x=K.s i (fun i=>K.s (d+1-i) (fun j=>K.m (K.c (t i j)) (K.m (LwR.v K d (P i) x) (LwR.v K d (Q j) x))))
 | 0=>L.v_zero x
 | i+1=>by rw [putO,L.v_putR P Q i _ hx,v_putO L P Q hx i];rfl
theorem Alo {R:Type} {K:Rg R} {N d:Nat} {m:Int} {t:Nat→Nat→Int} (L:PlR K N d m) (out:∀ i j,d<i+j→t i j=0) (a b:List Int) {x:R} (hx:L.S.O 1 x):LwR.v K d (putL m t a b d) x=K.e2 d t (LwR.v K d a x) (LwR.v K d b x):=by
 rw [putL,L.v_putO _ _ hx,K.e2_sum]
 refine K.s_congr fun i hi=>?_
 rw [K.s_tail (show d+1-i≤d+1 by omega) (fun j h1 h2=>by rw [out i j (by omega),K.mZl])]
 exact K.s_congr fun j _=>by rw [L.v_pw a hx,L.v_pw b hx]
theorem v_cmp {R:Type} {K:Rg R} {N d:Nat} {m:Int} (L:PlR K N d m) (a f:List Int) {x:R} (hx:L.S.O 1 x):∀ k,k≤d+1→LwR.v K d (cmpL m a f d k) x=K.s k (fun i=>K.m (K.c (at' a (d+1-k+i))) (K.p (LwR.v K d f x) i))
 | 0,_=>L.v_zero x
 | k+1,hk=>by
  have h1:cmpL m a f d (k+1)=addL m (timesL m (cmpL m a f d k) f d) (tab (d+1) (fun j=>if j=0 then at' a (d-k)%m else 0)) d:=by
   rw [cmpL,addL]
   refine Bl fun j hj=>?_
   rw [Bm hj,timesL,Bm hj]
  have h2:LwR.v K d (tab (d+1) (fun j=>if j=0 then at' a (d-k)%m else 0)) x=K.c (at' a (d-k)):=by
   rw [L.v_tab,Rg.ev,K.s_one (show 0<d+1 by omega) (fun i h1 h2=>by rw [if_neg h2,K.mZl])]
   rw [if_pos rfl,Rg.p,K.mI,K.c_mod L.hc]
  rw [h1,L.v_add,L.v_times _ _ hx,h2,v_cmp L a f hx k (by omega),K.s_left,K.s_mulr,K.aC,show d+1-(k+1)+0=d-k by omega,Rg.p,K.mI]
  refine congrArg (K.a _) (K.s_congr fun i hi=>?_)
  rw [show d+1-(k+1)+(i+1)=d+1-k+i by omega,K.mA]
  rfl
theorem v_cmpL {R:Type} {K:Rg R} {N d:Nat} {m:Int} (L:PlR K N d m) (a f:List Int) {x:R} (hx:L.S.O 1 x):LwR.v K d (cmpL m a f d (d+1)) x=LwR.v K d a (LwR.v K d f x):=by
 rw [L.v_cmp a f hx (d+1) (Nat.le_refl _),LwR.v,Rg.ev]
 exact K.s_congr fun i hi=>by rw [show d+1-(d+1)+i=i by omega]
theorem Ajo {R:Type} (K:Rg R) (d:Nat) (f g:Nat→Int) (x y:R):K.e2 d (fun u v=>f u*g v) x y=K.m (K.ev d (fun u=>K.c (f u)) x) (K.ev d (fun v=>K.c (g v)) y):=by
 rw [K.e2_sum,Rg.ev,Rg.ev,K.s_mulr]
 refine K.s_congr fun i _=>?_
 rw [K.s_mul]
 refine K.s_congr fun j _=>?_
 rw [K.cM];ac_rfl
theorem e2_aft {R:Type} {K:Rg R} {N d:Nat} {m:Int} (L:PlR K N d m) (t:Nat→Nat→Int) {c:List Int} (hl:c.length=d+1) {x y:R} (hx:L.S.O 1 x) (hy:L.S.O 1 y):K.e2 d (pc (aftL m (d+1) t c c.length)) x y=LwR.v K d c (K.e2 d t x y):=by
 have hN:=L.hN
 have hm:=L.hm
 rw [L.S.e2_congr (Q:=fun u v=>sm c.length (fun i=>at' c i*pc (pwP m (d+1) t i) u v)) hx hy (fun i j h=>by rw [Ir (by omega) (by omega),K.c_mod L.hc]),K.e2_add,hl]
 exact K.s_congr fun i _=>by rw [L.e2_pw hx hy]
theorem e2_both {R:Type} {K:Rg R} {N d:Nat} {m:Int} (L:PlR K N d m) {t:Nat→Nat→Int} (out:∀ i j,d<i+j→t i j=0) (a b:List Int) {x y:R} (hx:L.S.O 1 x) (hy:L.S.O 1 y):K.e2 d (pc (bthT m (d+1) t (pwC m a d) (pwC m b d))) x y=K.e2 d t (LwR.v K d a x) (LwR.v K d b y):=by
 have hN:=L.hN
 rw [L.S.e2_congr (Q:=fun u v=>sm (d+1) (fun i=>1*sm (d+1-i) (fun j=>t i j*(pwC m a d i u*pwC m b d j v)))) hx hy (fun i j h=>by
  rw [bthT,Bi (by omega),K.c_mod L.hc]
  refine congrArg K.c ?_
  show sm (d+1) _+0=_
  rw [Int.add_zero]
  exact Av fun _ _=>(Int.one_mul _).symm),K.e2_add,K.e2_sum]
 refine K.s_congr fun i hi=>?_
 rw [K.mIl,K.e2_add,K.s_tail (show d+1-i≤d+1 by omega) (fun j h1 h2=>by rw [out i j (by omega),K.mZl])]
 refine K.s_congr fun j _=>?_
 rw [Ajo]
 show K.m _ (K.m (LwR.v K d (pwS m a d i) x) (LwR.v K d (pwS m b d j) y))=_
 rw [L.v_pw a hx,L.v_pw b hy]
theorem v_o {R:Type} {K:Rg R} {N d:Nat} {m:Int} (L:PlR K N d m) {a:List Int} (h0:at' a 0=0) {x:R} (hx:L.S.O 1 x):L.S.O 1 (LwR.v K d a x):=by
 rw [LwR.v,Rg.ev,K.s_left,h0,K.mZl,K.aZl]
 refine L.S.sum fun i _=>L.S.low (show 1≤0+(i+1) by omega) (L.S.mul (L.S.cst _) (L.S.pw1 hx (i+1)))
theorem e2_o {R:Type} {K:Rg R} {N d:Nat} {m:Int} (L:PlR K N d m) {t:Nat→Nat→Int} (h0:t 0 0=0) {x y:R} (hx:L.S.O 1 x) (hy:L.S.O 1 y):L.S.O 1 (K.e2 d t x y):=by
 rw [K.e2_sum]
 refine L.S.sum fun i _=>L.S.sum fun j _=>?_
 by_cases h:i=0∧j=0
 ·rw [h.1,h.2,h0,K.mZl];exact L.S.zero 1
 ·exact L.S.low (show 1≤0+(i+j) by omega) (L.S.mul (L.S.cst _) (L.S.mul (L.S.pw1 hx i) (L.S.pw1 hy j)))
end PlR
def mo2 (a b:Nat):Nat→Nat→Int:=fun u v=>if u=a∧v=b then 1 else 0
theorem Alm (a b:Nat) (g:Nat→Nat→Int) (u v:Nat):zz.m (mo2 a b) g u v=if a≤u∧b≤v then g (u-a) (v-b) else 0:=by
 rw [To,cv2]
 by_cases h:a≤u
 ·rw [Et (p:=a) (by omega) (fun i _ hi=>Bo fun j _=>by rw [mo2,if_neg (fun e=>hi e.1),Int.zero_mul])]
  by_cases h2:b≤v
  ·rw [Et (p:=b) (by omega) (fun j _ hj=>by rw [mo2,if_neg (fun e=>hj e.2),Int.zero_mul]),mo2,if_pos ⟨rfl,rfl⟩,Int.one_mul,if_pos ⟨h,h2⟩]
  ·rw [if_neg (fun e=>h2 e.2)]
   exact Bo fun j hj=>by rw [mo2,if_neg (by omega),Int.zero_mul]
 ·rw [if_neg (fun e=>h e.1)]
  exact Bo fun i hi=>Bo fun j _=>by rw [mo2,if_neg (by omega),Int.zero_mul]
theorem Zf (a b a' b':Nat):zz.m (mo2 a b) (mo2 a' b')=mo2 (a+a') (b+b'):=by
 funext u v
 rw [Alm,mo2,mo2]
 by_cases h:a≤u∧b≤v
 ·rw [if_pos h]
  by_cases h2:u-a=a'∧v-b=b'
  ·rw [if_pos h2,if_pos (by omega)]
  ·rw [if_neg h2,if_neg (by omega)]
 ·rw [if_neg h,if_neg (by omega)]
theorem Akn:zz.c 1=mo2 0 0:=by funext u v;rw [K2,mo2]
theorem Uv (a b:Nat):∀ n,zz.p (mo2 a b) n=mo2 (n*a) (n*b)
 | 0=>by rw [Rg.p,Akn,Nat.zero_mul,Nat.zero_mul]
 | n+1=>by rw [Rg.p,Uv a b n,Zf,Nat.add_mul,Nat.add_mul,Nat.one_mul,Nat.one_mul]
theorem zz_s (n:Nat) (f:Nat→Nat→Nat→Int) (u v:Nat):zz.s n f u v=sm n (fun i=>f i u v):=by
 induction n with
 | zero=>rw [Rg.s,K2];simp [sm]
 | succ n ih=>rw [Rg.s,Ab2,ih];rfl
theorem Ag6 {N:Nat} {m:Int} (f:Nat→Nat→Nat→Int):∀ n,(qr N m).s n (fun i=>Quotient.mk (pq N m) (f i))=Quotient.mk (pq N m) (zz.s n f)
 | 0=>rfl
 | n+1=>by rw [Rg.s,Ag6 f n];rfl
def qX (N:Nat) (m:Int):Quotient (pq N m):=Quotient.mk _ (mo2 1 0)
def qY (N:Nat) (m:Int):Quotient (pq N m):=Quotient.mk _ (mo2 0 1)
def qP (d:Nat) (m:Int) (hd:1≤d) (hm:1<m):PlR (qr d m) d d m where
 S:=qf d m
 hN:=Nat.le_refl d
 hd:=hd
 hm:=hm
 hc:=Quotient.sound (show (pq d m).r (zz.c m) (zz.c 0) from fun u v e=>by
  rw [K2,K2]
  by_cases h:u=0∧v=0
  ·rw [if_pos h,if_pos h];simp
  ·rw [if_neg h,if_neg h])
theorem Aij (d:Nat) (m:Int) (hd:1≤d) (hm:1<m):(qP d m hd hm).S.O 1 (qX d m):=fun u v h1 h2=>by
 rw [mo2,if_neg (by omega)];simp
theorem Aif (d:Nat) (m:Int) (hd:1≤d) (hm:1<m):(qP d m hd hm).S.O 1 (qY d m):=fun u v h1 h2=>by
 rw [mo2,if_neg (by omega)];simp
theorem Aiu (d:Nat) (m:Int) (P:Nat→Nat→Int):(qr d m).e2 d P (qX d m) (qY d m)=Quotient.mk (pq d m) (fun u v=>if u≤d∧v≤d then P u v else 0):=by
 have h1:∀ i j,(qr d m).m ((qr d m).c (P i j)) ((qr d m).m ((qr d m).p (qX d m) i) ((qr d m).p (qY d m) j))=Quotient.mk (pq d m) (fun u v=>P i j*mo2 i j u v):=fun i j=>by
  rw [qX,qY,Ags,Ags,Uv,Uv]
  show Quotient.mk (pq d m) (zz.m (zz.c (P i j)) (zz.m (mo2 (i*1) (i*0)) (mo2 (j*0) (j*1))))=_
  rw [Zf]
  simp only [Nat.mul_one,Nat.mul_zero,Nat.add_zero,Nat.zero_add]
  exact congrArg _ (by funext u v;rw [All])
 rw [(qr d m).e2_sum]
 have h2:∀ i,(qr d m).s (d+1) (fun j=>(qr d m).m ((qr d m).c (P i j)) ((qr d m).m ((qr d m).p (qX d m) i) ((qr d m).p (qY d m) j)))=Quotient.mk (pq d m) (zz.s (d+1) (fun j u v=>P i j*mo2 i j u v)):=fun i=>by
  rw [← Ag6];exact (qr d m).s_congr fun j _=>h1 i j
 rw [(qr d m).s_congr (fun i _=>h2 i),Ag6]
 refine congrArg _ ?_
 funext u v
 rw [zz_s]
 rw [Av (fun i _=>zz_s _ _ _ _)]
 by_cases h:u≤d
 ·rw [Et (p:=u) (by omega) (fun i _ hi=>Bo fun j _=>by rw [mo2,if_neg (fun e=>hi e.1.symm),Int.mul_zero])]
  by_cases h3:v≤d
  ·rw [Et (p:=v) (by omega) (fun j _ hj=>by rw [mo2,if_neg (fun e=>hj e.2.symm),Int.mul_zero]),mo2,if_pos ⟨rfl,rfl⟩,Int.mul_one,if_pos ⟨h,h3⟩]
  ·rw [if_neg (fun e=>h3 e.2)]
   exact Bo fun j hj=>by rw [mo2,if_neg (by omega),Int.mul_zero]
 ·rw [if_neg (fun e=>h e.1)]
  exact Bo fun i hi=>Bo fun j _=>by rw [mo2,if_neg (by omega),Int.mul_zero]
theorem Aej {d:Nat} {m:Int} {P Q:Nat→Nat→Int} (h:(qr d m).e2 d P (qX d m) (qY d m)=(qr d m).e2 d Q (qX d m) (qY d m)) {u v:Nat} (huv:u+v≤d):P u v%m=Q u v%m:=by
 rw [Aiu,Aiu] at h
 have h1:(pq d m).r (fun u v=>if u≤d∧v≤d then P u v else 0) (fun u v=>if u≤d∧v≤d then Q u v else 0):=Quotient.exact h
 have h2:=h1 u v huv
 simpa only [if_pos (show u≤d∧v≤d by omega)] using h2
def e3 {R:Type} (K:Rg R) (d:Nat) (P:Nat→Nat→Nat→Int) (x y z:R):R:=K.s (d+1) (fun u=>K.s (d+1) (fun v=>K.s (d+1) (fun k=>K.m (K.c (P u v k)) (K.m (K.p x u) (K.m (K.p y v) (K.p z k))))))
theorem dvdC {m a b:Int}:m∣a-b↔a%m=b%m:=
 ⟨fun h=>Int.emod_eq_emod_iff_emod_sub_eq_zero.2 (Int.emod_eq_zero_of_dvd h),fun h=>Int.dvd_of_emod_eq_zero (Int.emod_eq_emod_iff_emod_sub_eq_zero.1 h)⟩
theorem eucC (m a:Int):∀ (n:Nat) (r s x y:Int),s.toNat=n→0≤r→0≤s→m∣r-x*a→m∣s-y*a→m∣((Nat.gcd r.toNat s.toNat:Nat):Int)-eu r s x y*a:=by
 intro n
 induction n using Nat.strongRecOn with
 | _ n ih=>
  intro r s x y hn hr hs h1 h2
  by_cases h:0<s
  ·rw [Ri h]
   have e1:=Aq r s h
   have hq:r%s=r-r/s*s:=by have:=Int.emod_add_mul_ediv r s;grind
   have h3:m∣r%s-(x-r/s*y)*a:=by
    obtain ⟨k1,g1⟩:=h1
    obtain ⟨k2,g2⟩:=h2
    exact ⟨k1-r/s*k2,by rw [hq];grind⟩
   have:=ih (r%s).toNat (by omega) s (r%s) y (x-r/s*y) rfl hs e1.1 h2 h3
   have hg:Nat.gcd s.toNat (r%s).toNat=Nat.gcd r.toNat s.toNat:=by
    rw [show (r%s).toNat=r.toNat%s.toNat by rw [Int.toNat_emod hr hs],Nat.gcd_comm s.toNat,← Nat.gcd_rec,Nat.gcd_comm]
   rwa [hg] at this
  ·have hs0:s=0:=by omega
   subst hs0
   rw [V3 (by omega)]
   simp only [Int.toNat_zero,Nat.gcd_zero_right]
   rwa [Int.toNat_of_nonneg hr]
theorem invC {m a:Int} (hm:1<m) (ha:0≤a∧a<m) (h:Nat.gcd a.toNat m.toNat=1):(invL m a*a)%m=1%m:=by
 have e:=Aq a m (by omega)
 have h1:=eucC m a _ m (a%m) 0 1 rfl (by omega) e.1 ⟨1,by omega⟩ ⟨-(a/m),by have:=Int.emod_add_mul_ediv a m;grind⟩
 rw [Int.emod_eq_of_lt ha.1 ha.2,Nat.gcd_comm,h] at h1
 unfold invL
 rw [Int.emod_eq_of_lt ha.1 ha.2,Int.mul_emod,Int.emod_emod,← Int.mul_emod]
 exact (dvdC.1 h1).symm
def rvN (m u:Int) (a:List Int) (d:Nat):Nat→List Int
 | 0=>tab (d+1) (fun j=>if j=1 then u else 0)
 | k+1=>(rvN m u a d k).set (k+2) ((-(at' (cmpL m a (rvN m u a d k) d (d+1)) (k+2))*u)%m)
def rvL (m:Int) (a:List Int) (d:Nat):List Int:=rvN m (invL m (at' a 1)) a d (d-1)
theorem El {m u:Int} (hm:0<m) (hu:0≤u∧u<m) (a:List Int) (d:Nat):∀ k,(rvN m u a d k).length=d+1∧∀ x∈rvN m u a d k,0≤x∧x<m
 | 0=>⟨Ah _ _,fun x hx=>by
  obtain ⟨i,_,rfl⟩:=Cr.1 hx
  split
  ·exact hu
  ·omega⟩
 | k+1=>by
  have ih:=El hm hu a d k
  refine ⟨by rw [rvN,List.length_set];exact ih.1,fun x hx=>?_⟩
  rcases List.mem_or_eq_of_mem_set hx with h|h
  ·exact ih.2 x h
  ·rw [h];exact Aq _ m hm
theorem Qd {l:List Int} {i j:Nat} {x:Int} (hi:i<l.length):at' (l.set i x) j=if j=i then x else at' l j:=by
 rw [at',List.getD_eq_getElem?_getD,List.getElem?_set]
 by_cases h:i=j
 ·subst h;rw [if_pos rfl,if_pos rfl,if_pos hi];rfl
 ·rw [if_neg h,if_neg (fun e=>h e.symm)];rfl
theorem F0 {m u:Int} (hm:0<m) (hu:0≤u∧u<m) (a:List Int) {d:Nat}:∀ k,k+1≤d→at' (rvN m u a d k) 0=0∧at' (rvN m u a d k) 1=u
 | 0,h=>by rw [rvN,Bm (by omega),Bm (by omega)];simp
 | k+1,h=>by
  have ih:=F0 hm hu a (d:=d) k (by omega)
  have hl:=(El hm hu a d k).1
  have hk:k+2<(rvN m u a d k).length:=by omega
  rw [rvN,Qd hk,Qd hk,if_neg (by omega),if_neg (by omega)]
  exact ih
theorem Ai6 {m u:Int} {a:List Int} {d:Nat}:∀ k,k+2≤d→at' (rvN m u a d k) (k+2)=0:=by
 have key:∀ k j,k+2≤j→j≤d→at' (rvN m u a d k) j=0:=by
  intro k
  induction k with
  | zero=>intro j h1 h2;rw [rvN,Bm (by omega),if_neg (by omega)]
  | succ k ih=>
   intro j h1 h2
   have hl:(rvN m u a d k).length=d+1:=by
    clear ih
    induction k with
    | zero=>exact Ah _ _
    | succ k ih=>rw [rvN,List.length_set];exact ih (by omega)
   have hk:k+2<(rvN m u a d k).length:=by omega
   rw [rvN,Qd hk,if_neg (by omega)]
   exact ih j (by omega) h2
 exact fun k h=>key k (k+2) (Nat.le_refl _) h
theorem Ki {m:Int} {f:List Int} {d:Nat} (f0:at' f 0=0):∀ i u,u≤d→u<i→at' (pwS m f d i) u%m=0
 | 0,u,_,h=>by omega
 | i+1,u,hu,h=>by
  rw [pwS,G3 hu,show (0:Int)=sm (u+1) (fun _=>0)%m by rw [Bo fun _ _=>rfl];simp]
  refine Cq fun j hj=>?_
  by_cases e:u-j=0
  ·rw [e,f0,Int.mul_zero]
  ·rw [Int.mul_emod,Ki f0 i j (by omega) (by omega)];simp
theorem Uq {m:Int} {f g:List Int} {d n:Nat} (f0:at' f 0=0) (g0:at' g 0=0) (h:∀ j,j<n→at' f j%m=at' g j%m):∀ i u,u≤d→(u+1<n+i∨i=0)→at' (pwS m f d i) u%m=at' (pwS m g d i) u%m
 | 0,u,hu,_=>by rw [pwS,pwS]
 | i+1,u,hu,h1=>by
  rw [pwS,pwS,G3 hu,G3 hu]
  refine Cq fun j hj=>?_
  by_cases e:u-j=0
  ·rw [e,f0,g0,Int.mul_zero,Int.mul_zero]
  ·by_cases e2:j<i
   ·rw [Int.mul_emod,Ki f0 i j (by omega) e2,Int.mul_emod (at' (pwS m g d i) j),Ki g0 i j (by omega) e2];simp
   ·refine By (Uq f0 g0 h i j (by omega) ?_) (h (u-j) (by omega))
    rcases Nat.eq_zero_or_pos i with h2|h2
    ·exact .inr h2
    ·exact .inl (by omega)
theorem Aje {m:Int} {a f g:List Int} {d n:Nat} (hn:n+2≤d) (f0:at' f 0=0) (g0:at' g 0=0) (h:∀ j,j<n+2→at' f j%m=at' g j%m) {u:Nat} (hu:u≤n+2):at' (cmpL m a f d (d+1)) u%m=(at' (cmpL m a g d (d+1)) u+at' a 1*(at' f u-at' g u))%m:=by
 rw [If a f d (d+1) (Nat.le_refl _) u (by omega),Int.add_emod,If a g d (d+1) (Nat.le_refl _) u (by omega),← Int.add_emod,Nat.sub_self]
 have hp1:∀ l:List Int,at' (pwS m l d 1) u%m=at' l u%m:=fun l=>by
  rw [pwS,pwS,G3 (by omega)]
  refine congrArg (· % m) ?_
  rw [cv,Et (p:=0) (by omega) (fun j hj hne=>by rw [F6 d j (by omega),oneF,if_neg hne,Int.zero_mul]),F6 d 0 (by omega),oneF,if_pos rfl,Int.one_mul,Nat.sub_zero]
 have hd1:d+1=(d-1)+1+1:=by omega
 rw [hd1,Ca,Ca,Ca,Ca]
 simp only [Nat.zero_add]
 have h0:at' (pwS m f d 0) u=at' (pwS m g d 0) u:=by rw [pwS,pwS]
 have hrest:sm (d-1) (fun i=>at' a (i+1+1)*at' (pwS m f d (i+1+1)) u)%m=sm (d-1) (fun i=>at' a (i+1+1)*at' (pwS m g d (i+1+1)) u)%m:=Cq fun i hi=>By rfl (Uq f0 g0 h (i+1+1) u (by omega) (.inl (by omega)))
 have h1:(at' a 1*at' (pwS m f d 1) u)%m=(at' a 1*at' (pwS m g d 1) u+at' a 1*(at' f u-at' g u))%m:=by
  rw [By rfl (hp1 f),Int.add_emod,By (a:=at' a 1) rfl (hp1 g),← Int.add_emod,← Int.mul_add]
  congr 2;omega
 rw [h0,Int.add_assoc,Int.add_assoc]
 refine Ei rfl ?_
 have e2:sm (d-1) (fun i=>at' a (i+1+1)*at' (pwS m g d (i+1+1)) u)+at' a 1*(at' f u-at' g u)=at' a 1*(at' f u-at' g u)+sm (d-1) (fun i=>at' a (i+1+1)*at' (pwS m g d (i+1+1)) u):=Int.add_comm _ _
 rw [e2,← Int.add_assoc]
 exact Ei h1 hrest
theorem Ae8 {m u:Int} (hm:1<m) (hu:0≤u∧u<m) {a:List Int} (a0:at' a 0=0) (h1:(u*at' a 1)%m=1%m) {d:Nat} (hd:1≤d):∀ k,k+1≤d→∀ v,v≤k+1→at' (cmpL m a (rvN m u a d k) d (d+1)) v%m=(if v=1 then 1 else 0)%m
 | 0,_,v,hv=>by
  have hz:=F0 (show 0<m by omega) hu a (d:=d) 0 (by omega)
  rw [If a _ d (d+1) (Nat.le_refl _) v (by omega),Nat.sub_self]
  have hd1:d+1=(d-1)+1+1:=by omega
  rw [hd1,Ca,Ca]
  simp only [Nat.zero_add]
  have hrest:sm (d-1) (fun i=>at' a (i+1+1)*at' (pwS m (rvN m u a d 0) d (i+1+1)) v)%m=0:=by
   rw [show (0:Int)=sm (d-1) (fun _=>0)%m by rw [Bo fun _ _=>rfl];simp]
   exact Cq fun i _=>by rw [Int.mul_emod,Ki hz.1 _ v (by omega) (by omega)];simp
  have hp1:at' (pwS m (rvN m u a d 0) d 1) v%m=at' (rvN m u a d 0) v%m:=by
   rw [pwS,pwS,G3 (by omega)]
   refine congrArg (· % m) ?_
   rw [cv,Et (p:=0) (by omega) (fun j hj hne=>by rw [F6 d j (by omega),oneF,if_neg hne,Int.zero_mul]),F6 d 0 (by omega),oneF,if_pos rfl,Int.one_mul,Nat.sub_zero]
  rw [a0,Int.zero_mul,Int.zero_add,Int.add_emod,hrest,Int.add_zero,Int.emod_emod,By rfl hp1]
  rcases (show v=0∨v=1 by omega) with rfl|rfl
  ·rw [hz.1,Int.mul_zero];simp
  ·rw [hz.2,Int.mul_comm,h1];simp
 | k+1,hk,v,hv=>by
  have hz:=F0 (show 0<m by omega) hu a (d:=d) k (by omega)
  have hz2:=F0 (show 0<m by omega) hu a (d:=d) (k+1) (by omega)
  have hl:=(El (show 0<m by omega) hu a d k).1
  have hk2:k+2<(rvN m u a d k).length:=by omega
  have hs:∀ j,at' (rvN m u a d (k+1)) j=if j=k+2 then (-(at' (cmpL m a (rvN m u a d k) d (d+1)) (k+2))*u)%m else at' (rvN m u a d k) j:=fun j=>by rw [rvN,Qd hk2]
  rw [Aje (n:=k) (by omega) hz2.1 hz.1 (fun j hj=>by rw [hs,if_neg (by omega)]) (u:=v) (by omega),hs]
  by_cases e:v=k+2
  ·subst e
   rw [if_pos rfl,if_neg (by omega)]
   have hp0:at' (rvN m u a d k) (k+2)=0:=Ai6 k (by omega)
   rw [hp0,Int.sub_zero]
   have h2:(at' a 1*((-(at' (cmpL m a (rvN m u a d k) d (d+1)) (k+2))*u)%m))%m=(-(at' (cmpL m a (rvN m u a d k) d (d+1)) (k+2)))%m:=by
    rw [Int.mul_emod,Int.emod_emod,← Int.mul_emod,show at' a 1*(-(at' (cmpL m a (rvN m u a d k) d (d+1)) (k+2))*u) = -(at' (cmpL m a (rvN m u a d k) d (d+1)) (k+2))*(u*at' a 1) by grind,Int.mul_emod,h1,← Int.mul_emod,Int.mul_one]
   rw [Int.add_emod,h2,← Int.add_emod,Int.add_right_neg]
  ·rw [if_neg e,Int.sub_self,Int.mul_zero,Int.add_zero]
   exact Ae8 hm hu a0 h1 hd k (by omega) v (by omega)
structure Crd (m:Int) (d:Nat) (a:List Int):Prop where
 hm:1<m
 hd:1≤d
 len:a.length=d+1
 num:∀ x∈a,0≤x∧x<m
 a0:at' a 0=0
 a1:(invL m (at' a 1)*at' a 1)%m=1%m
theorem Crd.b1 {m:Int} {d:Nat} {a:List Int} (h:Crd m d a):0≤at' a 1∧at' a 1<m:=An h.num (by have:=h.hm;omega) 1
theorem Afs {m:Int} {d:Nat} {a:List Int} (h:Crd m d a):(rvL m a d).length=d+1∧(∀ x∈rvL m a d,0≤x∧x<m)∧at' (rvL m a d) 0=0∧at' (rvL m a d) 1=invL m (at' a 1):=by
 have hm:=h.hm
 have hd:=h.hd
 have hu:=Df m (at' a 1) (by omega)
 have f:=El (show 0<m by omega) hu a d (d-1)
 have z:=F0 (show 0<m by omega) hu a (d:=d) (d-1) (by omega)
 exact ⟨f.1,f.2,z.1,z.2⟩
section
variable {R:Type} {K:Rg R} {N d:Nat} {m:Int}
theorem v_id (L:PlR K N d m) {l:List Int} (h:∀ i,i≤d→at' l i%m=(if i=1 then 1 else 0)%m) (x:R):LwR.v K d l x=x:=by
 have hd:=L.hd
 rw [LwR.v,Rg.ev,K.s_congr (g:=fun i=>K.m (K.c (if i=1 then 1 else 0)) (K.p x i)) (fun i hi=>by rw [K.c_eq L.hc (h i (by omega))]),K.s_one (show 1<d+1 by omega) (fun i _ hi=>by rw [if_neg hi,K.mZl]),if_pos rfl,K.mIl,Rg.p,Rg.p,K.mIl]
theorem Als (L:PlR K N d m) {u:Int} {a:List Int} (hu:0≤u∧u<m) (a0:at' a 0=0) (h1:(u*at' a 1)%m=1%m) {x:R} (hx:L.S.O 1 x):LwR.v K d a (LwR.v K d (rvN m u a d (d-1)) x)=x:=by
 have hd:=L.hd
 rw [← L.v_cmpL a _ hx]
 exact v_id L (fun i hi=>Ae8 L.hm hu a0 h1 hd (d-1) (by omega) i (by omega)) x
theorem v_rv (L:PlR K N d m) {a:List Int} (h:Crd m d a) {x:R} (hx:L.S.O 1 x):LwR.v K d a (LwR.v K d (rvL m a d) x)=x:=
 Als L (Df m _ (by have:=h.hm;omega)) h.a0 h.a1 hx
end
theorem p_z {R:Type} (K:Rg R) (n:Nat):K.p (K.c 0) (n+1)=K.c 0:=by rw [Rg.p,K.mZ]
theorem Aip {m:Int} {n:Nat} {s t:List (List Int)} (hs:Pl m n s) (ht:Pl m n t) (h:∀ u v,u+v<n→pc s u v%m=pc t u v%m):s=t:=by
 rw [hs.eq,ht.eq]
 refine Aw fun u v huv=>?_
 have h1:=hs.num u v
 have h2:=ht.num u v
 have:=h u v huv
 rwa [Int.emod_eq_of_lt h1.1 h1.2,Int.emod_eq_of_lt h2.1 h2.2] at this
theorem U0 {m:Int} {d:Nat} {t:List (List Int)} (h:Pl m (d+1) t) (i j:Nat) (hij:d<i+j):pc t i j=0:=by
 rw [h.eq];exact Tr (by omega)
theorem Agk {m x y:Int} (hx:0≤x∧x<m) (hy:0≤y∧y<m) (h:x%m=y%m):x=y:=by
 rwa [Int.emod_eq_of_lt hx.1 hx.2,Int.emod_eq_of_lt hy.1 hy.2] at h
theorem Ai9 {R:Type} {K:Rg R} {N d:Nat} {m:Int} (L:PlR K N d m) {tf tg:Nat→Nat→Int} {a:List Int} (hl:a.length=d+1) (out:∀ i j,d<i+j→tg i j=0) (h:hmB m (d+1) tf tg a=true) {x y:R} (hx:L.S.O 1 x) (hy:L.S.O 1 y):LwR.v K d a (K.e2 d tf x y)=K.e2 d tg (LwR.v K d a x) (LwR.v K d a y):=by
 unfold hmB at h
 rw [decide_eq_true_eq] at h
 rw [← L.e2_aft tf hl hx hy,h,Nat.add_sub_cancel,L.e2_both out a a hx hy]
theorem Alj {d:Nat} {m:Int} (hd:1≤d) (hm:1<m) {tf tg:Nat→Nat→Int} {a:List Int} (hl:a.length=d+1) (out:∀ i j,d<i+j→tg i j=0) (h:LwR.v (qr d m) d a ((qr d m).e2 d tf (qX d m) (qY d m))=(qr d m).e2 d tg (LwR.v (qr d m) d a (qX d m)) (LwR.v (qr d m) d a (qY d m))):hmB m (d+1) tf tg a=true:=by
 have L:=qP d m hd hm
 have hx:=Aij d m hd hm
 have hy:=Aif d m hd hm
 unfold hmB
 rw [decide_eq_true_eq,Nat.add_sub_cancel]
 refine Aip (Fb (by omega) _ _ _ _) (Rl (by omega) _ _ _ _) fun u v huv=>?_
 refine Aej (d:=d) ?_ (by omega)
 rw [(qP d m hd hm).e2_aft tf hl hx hy,(qP d m hd hm).e2_both out a a hx hy,h]
def inC (m:Int) (t:Nat→Nat→Int) (a:List Int) (d:Nat):List (List Int):=aftL m (d+1) (pc (bthT m (d+1) t (pwC m (rvL m a d) d) (pwC m (rvL m a d) d))) a (d+1)
theorem Qi {m:Int} (hm:0<m) (t:Nat→Nat→Int) (a:List Int) (d:Nat):Pl m (d+1) (inC m t a d):=Fb hm _ _ _ _
theorem Ag1 {R:Type} {K:Rg R} {N d:Nat} {m:Int} (L:PlR K N d m) {a:List Int} (h:Crd m d a) {t:Nat→Nat→Int} (out:∀ i j,d<i+j→t i j=0) {x y:R} (hx:L.S.O 1 x) (hy:L.S.O 1 y):K.e2 d (pc (inC m t a d)) x y=LwR.v K d a (K.e2 d t (LwR.v K d (rvL m a d) x) (LwR.v K d (rvL m a d) y)):=by
 have e:=L.e2_aft (pc (bthT m (d+1) t (pwC m (rvL m a d) d) (pwC m (rvL m a d) d))) h.len hx hy
 rw [h.len] at e
 rw [inC,e,L.e2_both out _ _ hx hy]
theorem Aki {d:Nat} {m:Int} {a:List Int} (h:Crd m d a) {s t:List (List Int)} (hs:Pl m (d+1) s) (ht:Pl m (d+1) t) (hh:hmB m (d+1) (pc s) (pc t) a=true):inC m (pc s) a d=t:=by
 have hm:=h.hm
 have hd:=h.hd
 let L:=qP d m hd hm
 have hx:=Aij d m hd hm
 have hy:=Aif d m hd hm
 have f:=Afs h
 have bx:=L.v_o f.2.2.1 hx
 have bY:=L.v_o f.2.2.1 hy
 refine Aip (Qi (by omega) _ _ _) ht fun u v huv=>Aej (d:=d) ?_ (by omega)
 rw [Ag1 L h (U0 hs) hx hy,Ai9 L h.len (U0 ht) hh bx bY,v_rv L h hx,v_rv L h hy]
end Go.Proofs.YtapdekacpecgiaaGreat
