import Derived.Test.YtapdekacpecgiaaGreatAa
import Derived.Test.YtapdekacpecgiaaGreatWr
import Derived.Test.YtapdekacpecgiaaGreatWr
namespace Go.Proofs.YtapdekacpecgiaaGreat
open Go.RowKit
set_option linter.unusedSimpArgs false
set_option linter.unusedVariables false
set_option linter.unusedSectionVars false
set_option maxRecDepth 20000
set_option maxHeartbeats 1000000
@[reducible] def Rg.ring {R:Type} (K:Rg R):Lean.Grind.CommRing R where
 add:=K.a
 mul:=K.m
 natCast:=⟨fun n=>K.c (n:Int)⟩
 ofNat n:=⟨K.c (n:Int)⟩
 nsmul:=⟨fun n x=>K.m (K.c (n:Int)) x⟩
 npow:=⟨fun x n=>K.p x n⟩
 neg x:=K.m (K.c (-1)) x
 sub x y:=K.a x (K.m (K.c (-1)) y)
 intCast:=⟨fun i=>K.c i⟩
 zsmul:=⟨fun i x=>K.m (K.c i) x⟩
 add_zero:=K.aZ
 add_comm:=K.aC
 add_assoc:=K.aA
 mul_assoc:=K.mA
 mul_one:=K.mI
 left_distrib:=K.mD
 zero_mul:=K.mZl
 one_mul:=K.mIl
 mul_zero:=K.mZ
 right_distrib:=K.mDr
 pow_zero x:=rfl
 pow_succ x n:=rfl
 ofNat_succ n:=(congrArg K.c (Int.natCast_add n 1)).trans (K.cA _ _)
 ofNat_eq_natCast n:=rfl
 nsmul_eq_natCast_mul n x:=rfl
 neg_add_cancel x:=by
  show K.a (K.m (K.c (-1)) x) x=K.c 0
  have h:K.a (K.m (K.c (-1)) x) (K.m (K.c 1) x)=K.m (K.c (-1+1)) x:=by rw [K.cA,K.mDr]
  rw [K.mIl] at h
  rw [h,show (-1+1:Int)=0 from rfl,K.mZl]
 sub_eq_add_neg x y:=rfl
 neg_zsmul i x:=by
  show K.m (K.c (-i)) x=K.m (K.c (-1)) (K.m (K.c i) x)
  rw [← K.mA,← K.cM,show -1*i = -i by omega]
 zsmul_natCast_eq_nsmul n x:=rfl
 intCast_ofNat n:=rfl
 intCast_neg i:=by
  show K.c (-i)=K.m (K.c (-1)) (K.c i)
  rw [← K.cM,show -1*i = -i by omega]
 mul_comm:=K.mC
def PS {R:Type} (K:Rg R):=Nat→R
@[reducible] instance psRing {R:Type} (K:Rg R):Lean.Grind.CommRing (PS K):=K.ps.ring
theorem PS.ext {R:Type} {K:Rg R} {f g:PS K} (h:∀ n,f n=g n):f=g:=funext h
theorem PS.mul_at {R:Type} {K:Rg R} (f g:PS K) (n:Nat):(f*g) n=K.s (n+1) (fun i=>K.m (f i) (g (n-i))):=rfl
theorem PS.one_at {R:Type} {K:Rg R} (n:Nat):(1:PS K) n=if n=0 then K.c 1 else K.c 0:=rfl
def PS.mo {R:Type} (K:Rg R) (k:Nat) (x:R):PS K:=fun n=>if n=k then x else K.c 0
theorem PS.mo_mul {R:Type} {K:Rg R} (k:Nat) (x:R) (f:PS K) (n:Nat):(PS.mo K k x*f) n=if k≤n then K.m x (f (n-k)) else K.c 0:=by
 rw [PS.mul_at]
 by_cases h:k≤n
 ·rw [if_pos h,K.s_one (show k<n+1 by omega) fun i _ hi=>by rw [PS.mo,if_neg hi,K.mZl],PS.mo,if_pos rfl]
 ·rw [if_neg h]
  exact K.s_zero fun i hi=>by rw [PS.mo,if_neg (by omega),K.mZl]
theorem PS.sub_at {R:Type} {K:Rg R} (f g:PS K) (n:Nat):(f-g) n=K.a (f n) (K.m (K.c (-1)) (g n)):=by
 have h:(f-g) n=K.a (f n) ((PS.mo K 0 (K.c (-1))*g) n):=rfl
 rw [h,PS.mo_mul,if_pos (Nat.zero_le _),Nat.sub_zero]
theorem PS.mo_mo {R:Type} {K:Rg R} (k l:Nat) (x y:R):PS.mo K k x*PS.mo K l y=PS.mo K (k+l) (K.m x y):=PS.ext fun n=>by
 rw [PS.mo_mul]
 unfold PS.mo
 by_cases h:k≤n
 ·rw [if_pos h]
  by_cases h2:n-k=l
  ·rw [if_pos h2,if_pos (by omega)]
  ·rw [if_neg h2,if_neg (by omega),K.mZ]
 ·rw [if_neg h,if_neg (by omega)]
theorem PS.mo_pow {R:Type} {K:Rg R} (k:Nat) (x:R) (e:Nat):(PS.mo K k x)^e=PS.mo K (k*e) (K.p x e):=by
 induction e with
 | zero=>rfl
 | succ e ih=>
  rw [Lean.Grind.Semiring.pow_succ,ih,PS.mo_mo,Nat.mul_succ];rfl
def PS.li {R:Type} (K:Rg R) (f:Nat→Int):PS K:=fun n=>K.c (f n)
theorem PS.li_mul {R:Type} {K:Rg R} (f g:Nat→Int):PS.li K (cv f g)=PS.li K f*PS.li K g:=PS.ext fun n=>by
 rw [PS.mul_at]
 show K.c (sm (n+1) fun i=>f i*g (n-i))=_
 rw [K.c_sm]
 exact K.s_congr fun i _=>K.cM _ _
theorem PS.li_one {R:Type} {K:Rg R}:PS.li K oneF=1:=PS.ext fun n=>by
 rw [PS.one_at]
 show K.c (oneF n)=_
 unfold oneF
 split <;> rfl
theorem PS.li_pow {R:Type} {K:Rg R} (f:Nat→Int) (e:Nat):PS.li K (pwF f e)=(PS.li K f)^e:=by
 induction e with
 | zero=>exact PS.li_one
 | succ e ih=>rw [pwF,PS.li_mul,ih];rfl
def PS.tw {R:Type} {K:Rg R} (w:R) (f:PS K):PS K:=fun n=>K.m (K.p w n) (f n)
theorem PS.tw_mul {R:Type} {K:Rg R} (w:R) (f g:PS K):PS.tw w (f*g)=PS.tw w f*PS.tw w g:=PS.ext fun n=>by
 rw [PS.mul_at]
 show K.m (K.p w n) ((f*g) n)=_
 rw [PS.mul_at,K.s_mul]
 refine K.s_congr fun i hi=>?_
 show _=K.m (K.m (K.p w i) (f i)) (K.m (K.p w (n-i)) (g (n-i)))
 rw [show K.p w n=K.m (K.p w i) (K.p w (n-i)) by rw [← K.p_add,show i+(n-i)=n by omega]]
 ac_rfl
theorem PS.tw_one {R:Type} {K:Rg R} (w:R):PS.tw w (1:PS K)=1:=PS.ext fun n=>by
 show K.m (K.p w n) ((1:PS K) n)=(1:PS K) n
 rw [PS.one_at]
 split
 ·rename_i h;subst h;exact K.mI _
 ·exact K.mZ _
def PS.sp {R:Type} {K:Rg R} (n:Nat) (f:PS K):PS K:=fun k=>if k%n=0 then f (k/n) else K.c 0
theorem Rg.s_mult {R:Type} (K:Rg R) {n:Nat} (hn:0<n) (F:Nat→R) (q:Nat):K.s (n*q+1) (fun i=>if i%n=0 then F (i/n) else K.c 0)=K.s (q+1) F:=by
 induction q with
 | zero=>rw [Nat.mul_zero,s,s,s,s,Nat.zero_mod,if_pos rfl,Nat.zero_div]
 | succ q ih=>
  obtain ⟨p,hp⟩:∃ p,n=p+1:=⟨n-1,by omega⟩
  have e1:n*(q+1)=n*q+p+1:=by rw [Nat.mul_succ];omega
  rw [s,show n*(q+1)%n=0 from Nat.mul_mod_right _ _,if_pos rfl,Nat.mul_div_cancel_left _ hn,s]
  congr 1
  rw [← ih,e1]
  refine K.s_tail (by omega) fun i h1 h2=>?_
  rw [if_neg]
  intro h0
  obtain ⟨c,hc⟩:=Nat.dvd_of_mod_eq_zero h0
  have h5:n*q<n*c:=by omega
  have h6:n*c<n*(q+1):=by omega
  have:=Nat.lt_of_mul_lt_mul_left h5
  have:=Nat.lt_of_mul_lt_mul_left h6
  omega
theorem PS.sp_mul {R:Type} {K:Rg R} {n:Nat} (hn:0<n) (f g:PS K):PS.sp n (f*g)=PS.sp n f*PS.sp n g:=PS.ext fun k=>by
 rw [PS.mul_at]
 show (if k%n=0 then (f*g) (k/n) else K.c 0)=_
 by_cases h:k%n=0
 ·rw [if_pos h]
  obtain ⟨q,rfl⟩:=Nat.dvd_of_mod_eq_zero h
  rw [Nat.mul_div_cancel_left _ hn,PS.mul_at,← K.s_mult hn]
  refine K.s_congr fun i hi=>?_
  show _=K.m (if i%n=0 then f (i/n) else K.c 0) (if (n*q-i)%n=0 then g ((n*q-i)/n) else K.c 0)
  by_cases h1:i%n=0
  ·obtain ⟨j,rfl⟩:=Nat.dvd_of_mod_eq_zero h1
   have e1:n*q-n*j=n*(q-j):=(Nat.mul_sub ..).symm
   rw [if_pos h1,if_pos h1,e1,Nat.mul_mod_right,if_pos rfl,Nat.mul_div_cancel_left _ hn,Nat.mul_div_cancel_left _ hn]
  ·rw [if_neg h1,if_neg h1,K.mZl]
 ·rw [if_neg h]
  refine (K.s_zero fun i hi=>?_).symm
  show K.m (if i%n=0 then f (i/n) else K.c 0) (if (k-i)%n=0 then g ((k-i)/n) else K.c 0)=_
  by_cases h1:i%n=0
  ·rw [if_neg (show ¬ (k - i) % n = 0 from fun h2 => h (by
    have:k=i+(k-i):=by omega
    rw [this,Nat.add_mod,h1,h2];simp)),K.mZ]
  ·rw [if_neg h1,K.mZl]
theorem PS.sp_one {R:Type} {K:Rg R} {n:Nat} (hn:0<n):PS.sp n (1:PS K)=1:=PS.ext fun k=>by
 show (if k%n=0 then (1:PS K) (k/n) else K.c 0)=(1:PS K) k
 rw [PS.one_at,PS.one_at]
 by_cases h:k%n=0
 ·obtain ⟨q,rfl⟩:=Nat.dvd_of_mod_eq_zero h
  rw [if_pos h,Nat.mul_div_cancel_left _ hn]
  by_cases hq:q=0
  ·subst hq;rfl
  ·rw [if_neg hq,if_neg (by intro h0;rcases Nat.mul_eq_zero.1 h0 with h|h <;> omega)]
 ·rw [if_neg h,if_neg (by intro h0;subst h0;exact h (Nat.zero_mod n))]
theorem PS.sp_pow {R:Type} {K:Rg R} {n:Nat} (hn:0<n) (f:PS K) (e:Nat):PS.sp n (f^e)=(PS.sp n f)^e:=by
 induction e with
 | zero=>exact PS.sp_one hn
 | succ e ih=>rw [Lean.Grind.Semiring.pow_succ,Lean.Grind.Semiring.pow_succ,PS.sp_mul hn,ih]
theorem PS.sp_mo {R:Type} {K:Rg R} {n:Nat} (hn:0<n) (k:Nat) (x:R):PS.sp n (PS.mo K k x)=PS.mo K (n*k) x:=PS.ext fun i=>by
 show (if i%n=0 then PS.mo K k x (i/n) else K.c 0)=PS.mo K (n*k) x i
 unfold PS.mo
 by_cases h:i%n=0
 ·obtain ⟨q,rfl⟩:=Nat.dvd_of_mod_eq_zero h
  rw [if_pos h,Nat.mul_div_cancel_left _ hn]
  by_cases hq:q=k
  ·subst hq;rw [if_pos rfl,if_pos rfl]
  ·rw [if_neg hq,if_neg (fun h0=>hq (Nat.eq_of_mul_eq_mul_left hn h0))]
 ·rw [if_neg h,if_neg (by intro h0;subst h0;exact h (Nat.mul_mod_right n k))]
theorem PS.sp_sub {R:Type} {K:Rg R} {n:Nat} (f g:PS K):PS.sp n (f-g)=PS.sp n f-PS.sp n g:=PS.ext fun i=>by
 rw [PS.sub_at]
 show (if i%n=0 then (f-g) (i/n) else K.c 0)=K.a (if i%n=0 then f (i/n) else K.c 0) (K.m (K.c (-1)) (if i%n=0 then g (i/n) else K.c 0))
 split
 ·exact PS.sub_at f g _
 ·rw [K.mZ,K.aZ]
theorem PS.tw_sub {R:Type} {K:Rg R} (w:R) (f g:PS K):PS.tw w (f-g)=PS.tw w f-PS.tw w g:=PS.ext fun i=>by
 rw [PS.sub_at]
 show K.m (K.p w i) ((f-g) i)=K.a (K.m (K.p w i) (f i)) (K.m (K.c (-1)) (K.m (K.p w i) (g i)))
 rw [PS.sub_at,K.mD]
 congr 1
 ac_rfl
theorem PS.tw_mo {R:Type} {K:Rg R} (w:R) (k:Nat) (x:R):PS.tw w (PS.mo K k x)=PS.mo K 0 (K.p w k)*PS.mo K k x:=by
 rw [PS.mo_mo,Nat.zero_add]
 refine PS.ext fun i=>?_
 show K.m (K.p w i) (if i=k then x else K.c 0)=if i=k then K.m (K.p w k) x else K.c 0
 split
 ·rename_i h;subst h;rfl
 ·exact K.mZ _
def PS.nrm {R:Type} {K:Rg R} (z:R) (f:PS K):Nat→PS K
 | 0=>1
 | n+1=>PS.nrm z f n*PS.tw (K.p z n) f
theorem PS.nrm_mul {R:Type} {K:Rg R} (z:R) (f g:PS K):∀ n,PS.nrm z (f*g) n=PS.nrm z f n*PS.nrm z g n
 | 0=>(Lean.Grind.Semiring.mul_one (1:PS K)).symm
 | n+1=>by
  rw [PS.nrm,PS.nrm,PS.nrm,PS.nrm_mul z f g n,PS.tw_mul]
  grind
theorem PS.nrm_one {R:Type} {K:Rg R} (z:R):∀ n,PS.nrm z (1:PS K) n=1
 | 0=>rfl
 | n+1=>by
  rw [PS.nrm,PS.nrm_one z n,PS.tw_one]
  exact Lean.Grind.Semiring.mul_one (1:PS K)
def nB {S:Type} [Lean.Grind.CommRing S] (Z Y:S):Nat→S
 | 0=>1
 | n+1=>nB Z Y n*(1-Z^n*Y)
theorem Rg.p_mul {R:Type} (K:Rg R) (x:R) (i j:Nat):K.p (K.p x i) j=K.p x (i*j):=by
 induction j with
 | zero=>rfl
 | succ j ih=>rw [p,ih,Nat.mul_succ,p_add]
theorem Rg.p_one {R:Type} (K:Rg R) (j:Nat):K.p (K.c 1) j=K.c 1:=by
 induction j with
 | zero=>rfl
 | succ j ih=>rw [p,ih,K.mI]
theorem Rg.p_period {R:Type} (K:Rg R) {z:R} {n:Nat} (h:K.p z n=K.c 1) (k j:Nat):K.p (K.p z j) k=K.p (K.p z (k%n)) j:=by
 rw [p_mul,p_mul]
 have e:j*k=n*(k/n*j)+k%n*j:=by
  have:=Nat.div_add_mod k n
  calc j*k=k*j:=Nat.mul_comm _ _
   _=(n*(k/n)+k%n)*j:=by rw [this]
   _=_:=by rw [Nat.add_mul,Nat.mul_assoc]
 rw [e,p_add,← p_mul,h,p_one,mIl]
theorem Rg.c_pow {R:Type} (K:Rg R) (x:Int) (e:Nat):K.p (K.c x) e=K.c (x^e):=by
 induction e with
 | zero=>rw [Int.pow_zero];rfl
 | succ e ih=>rw [p,ih,← K.cM,Int.pow_succ]
theorem Oh {S:Type} [Lean.Grind.CommRing S] (u v:S):∀ e:Nat,u^e*v^e=(u*v)^e
 | 0=>by grind
 | e+1=>by
  have:=Oh u v e
  rw [Lean.Grind.Semiring.pow_succ,Lean.Grind.Semiring.pow_succ,Lean.Grind.Semiring.pow_succ,← this]
  grind
theorem T4 {S:Type} [Lean.Grind.CommRing S]:∀ e:Nat,(1:S)^e=1
 | 0=>by grind
 | e+1=>by rw [Lean.Grind.Semiring.pow_succ,T4 e];grind
structure Root {R:Type} (K:Rg R) (z:R) (n:Nat):Prop where
 pos:0<n
 pw:K.p z n=K.c 1
 hB:∀ (Y:PS K) (r:Nat),r<n→nB ((PS.mo K 0 z)^r) Y n=(1-Y^(n/Nat.gcd n r))^Nat.gcd n r
theorem Aiz {R:Type} {K:Rg R} {z:R} {n:Nat} (h:Root K z n) (k:Nat) (x:R):∀ j,PS.nrm z (1-PS.mo K k x) j=nB ((PS.mo K 0 z)^(k%n)) (PS.mo K k x) j
 | 0=>rfl
 | j+1=>by
  rw [PS.nrm,nB,Aiz h k x j,PS.tw_sub,PS.tw_one,PS.tw_mo,K.p_period h.pw,PS.mo_pow,PS.mo_pow,Nat.zero_mul,Nat.zero_mul]
theorem Ais {R:Type} {K:Rg R} (x:Int) {k:Nat} (hk:0<k):PS.li K (gS x k)*(1-PS.mo K k (K.c x))=1:=by
 have e:PS.li K (gS x k)*(1-PS.mo K k (K.c x))=PS.li K (gS x k)-PS.mo K k (K.c x)*PS.li K (gS x k):=by grind
 rw [e]
 refine PS.ext fun i=>?_
 rw [PS.sub_at,PS.mo_mul,PS.one_at]
 show K.a (K.c (gS x k i)) (K.m (K.c (-1)) (if k≤i then K.m (K.c x) (K.c (gS x k (i-k))) else K.c 0))=_
 by_cases h:k≤i
 ·rw [if_pos h,if_neg (by omega),← K.cM,← K.cM,← K.cA]
  congr 1
  have h1:(i-k)%k=i%k:=by rw [← Nat.mod_eq_sub_mod h]
  have h2:i/k=(i-k)/k+1:=by rw [Nat.div_eq_sub_div hk h]
  unfold gS
  rw [h1]
  split
  ·rw [h2,Int.pow_succ];grind
  ·omega
 ·rw [if_neg h,K.mZ,K.aZ]
  by_cases h0:i=0
  ·subst h0;rw [if_pos rfl,Na]
  ·rw [if_neg h0,Pt x (by omega) (by omega)]
theorem nrm_gS {R : Type} {K : Rg R} {z : R} {n : Nat} (h : Root K z n) (x : Int) {k : Nat} (hk : 0 < k) :
  PS.nrm z (PS.li K (gS x k)) n=PS.sp n (PS.li K (pwF (gS (x^(n/Nat.gcd n k)) (k/Nat.gcd n k)) (Nat.gcd n k))):=by
 have hn:=h.pos
 have hA:PS.nrm z (PS.li K (gS x k)) n*PS.nrm z (1-PS.mo K k (K.c x)) n=1:=by rw [← PS.nrm_mul,Ais x hk,PS.nrm_one]
 have hg:Nat.gcd n (k%n)=Nat.gcd n k:=by rw [Nat.gcd_comm,← Nat.gcd_rec]
 obtain ⟨g1,g2,g3,g4,_⟩:=Mx n k hn hk
 have hB:PS.nrm z (1-PS.mo K k (K.c x)) n=(1-PS.mo K (n*(k/Nat.gcd n k)) (K.c (x^(n/Nat.gcd n k))))^Nat.gcd n k:=by
  rw [Aiz h,h.hB _ _ (Nat.mod_lt _ hn),hg,PS.mo_pow,K.c_pow]
  congr 3
  have e1:k*(n/Nat.gcd n k)*Nat.gcd n k=n*(k/Nat.gcd n k)*Nat.gcd n k:=by
   rw [Nat.mul_assoc,g4,Nat.mul_assoc,g3,Nat.mul_comm]
  exact Nat.eq_of_mul_eq_mul_right g1 e1
 have hC:PS.sp n (PS.li K (gS (x^(n/Nat.gcd n k)) (k/Nat.gcd n k)))*(1-PS.mo K (n*(k/Nat.gcd n k)) (K.c (x^(n/Nat.gcd n k))))=1:=by
  rw [← PS.sp_mo hn,← PS.sp_one (K:=K) hn,← PS.sp_sub,PS.sp_one (K:=K) hn,← PS.sp_mul hn,Ais _ g2,PS.sp_one hn]
 rw [PS.li_pow,PS.sp_pow hn]
 have hD:PS.sp n (PS.li K (gS (x^(n/Nat.gcd n k)) (k/Nat.gcd n k)))^Nat.gcd n k*PS.nrm z (1-PS.mo K k (K.c x)) n=1:=by
  rw [hB,Oh,hC,T4]
 generalize PS.nrm z (PS.li K (gS x k)) n=A at *
 generalize PS.nrm z (1-PS.mo K k (K.c x)) n=B at *
 generalize PS.sp n (PS.li K (gS (x^(n/Nat.gcd n k)) (k/Nat.gcd n k)))^Nat.gcd n k=C at *
 have e1:A=A*(C*B):=by rw [hD];exact (Lean.Grind.Semiring.mul_one A).symm
 have e2:A*(C*B)=C*(A*B):=by grind
 rw [e1,e2,hA]
 exact Lean.Grind.Semiring.mul_one C
def PS.eqd {R:Type} {K:Rg R} (d:Nat) (f g:PS K):Prop:=∀ i,i≤d→f i=g i
theorem PS.eqd.mul {R:Type} {K:Rg R} {d:Nat} {f f' g g':PS K} (h1:PS.eqd d f f') (h2:PS.eqd d g g'):PS.eqd d (f*g) (f'*g'):=fun n hn=>by
 rw [PS.mul_at,PS.mul_at]
 exact K.s_congr fun i hi=>by rw [h1 i (by omega),h2 (n-i) (by omega)]
theorem PS.eqd.tw {R:Type} {K:Rg R} {d:Nat} {f f':PS K} (h:PS.eqd d f f') (w:R):PS.eqd d (PS.tw w f) (PS.tw w f'):=fun n hn=>by
 show K.m _ (f n)=K.m _ (f' n)
 rw [h n hn]
theorem PS.eqd.nrm {R:Type} {K:Rg R} {d:Nat} {f f':PS K} (h:PS.eqd d f f') (z:R):∀ n,PS.eqd d (PS.nrm z f n) (PS.nrm z f' n)
 | 0=>fun _ _=>rfl
 | n+1=>(PS.eqd.nrm h z n).mul (h.tw _)
theorem PS.eqd.rfl' {R:Type} {K:Rg R} {d:Nat} {f:PS K}:PS.eqd d f f:=fun _ _=>rfl
theorem Rg.c_mod {R:Type} (K:Rg R) {m:Int} (h:K.c m=K.c 0) (x:Int):K.c (x%m)=K.c x:=by
 have e:=Int.emod_add_mul_ediv x m
 rw [← e,K.cA,K.cM,h,K.mZl,K.aZ]
 rw [e]
def Rg.md {R:Type} (K:Rg R) (m:Int):Setoid R where
 r x y:=∃ w,x=K.a y (K.m (K.c m) w)
 iseqv:={
  refl:=fun x=>⟨K.c 0,by rw [K.mZ,K.aZ]⟩
  symm:=fun {x y} ⟨w,h⟩=>⟨K.m (K.c (-1)) w,by
   letI:=K.ring
   have e:K.a (K.a y (K.m (K.c m) w)) (K.m (K.c m) (K.m (K.c (-1)) w))=y:=by
    rw [K.aA,← K.mD,show K.a w (K.m (K.c (-1)) w)=K.c 0 by
     have:K.a (K.m (K.c 1) w) (K.m (K.c (-1)) w)=K.m (K.c (1 + -1)) w:=by rw [K.cA,K.mDr]
     rw [K.mIl] at this
     rw [this,show (1 + -1:Int)=0 from rfl,K.mZl],K.mZ,K.aZ]
   rw [h,e]⟩
  trans:=fun {x y z} ⟨w,h⟩ ⟨v,h2⟩=>⟨K.a v w,by rw [h,h2,K.aA,← K.mD]⟩ }
def Rg.quo {R:Type} (K:Rg R) (m:Int):Rg (Quotient (K.md m)) where
 a:=Quotient.lift₂ (fun x y=>Quotient.mk (K.md m) (K.a x y)) (fun x y x' y' h1 h3=>by
  obtain ⟨w,h⟩:=h1
  obtain ⟨v,h2⟩:=h3
  exact Quotient.sound (show (K.md m).r _ _ from ⟨K.a w v,by rw [h,h2,K.a4,← K.mD]⟩))
 m:=Quotient.lift₂ (fun x y=>Quotient.mk (K.md m) (K.m x y)) (fun x y x' y' h1 h3=>by
  obtain ⟨w,h⟩:=h1
  obtain ⟨v,h2⟩:=h3
  refine Quotient.sound (show (K.md m).r _ _ from ⟨K.a (K.m x' v) (K.a (K.m w y') (K.m (K.m (K.c m) w) v)),?_⟩)
  rw [h,h2,K.mD,K.mDr,K.mDr,K.mD,K.mD,K.aA]
  rw [show K.m (K.m (K.c m) w) y'=K.m (K.c m) (K.m w y') by ac_rfl,show K.m x' (K.m (K.c m) v)=K.m (K.c m) (K.m x' v) by ac_rfl,show K.m (K.m (K.c m) w) (K.m (K.c m) v)=K.m (K.c m) (K.m (K.m (K.c m) w) v) by ac_rfl]
  congr 1
  ac_rfl)
 c i:=Quotient.mk _ (K.c i)
 aC:=by rintro ⟨x⟩ ⟨y⟩;exact congrArg (Quotient.mk _) (K.aC x y)
 aA:=by rintro ⟨x⟩ ⟨y⟩ ⟨z⟩;exact congrArg (Quotient.mk _) (K.aA x y z)
 aZ:=by rintro ⟨x⟩;exact congrArg (Quotient.mk _) (K.aZ x)
 mC:=by rintro ⟨x⟩ ⟨y⟩;exact congrArg (Quotient.mk _) (K.mC x y)
 mA:=by rintro ⟨x⟩ ⟨y⟩ ⟨z⟩;exact congrArg (Quotient.mk _) (K.mA x y z)
 mI:=by rintro ⟨x⟩;exact congrArg (Quotient.mk _) (K.mI x)
 mZ:=by rintro ⟨x⟩;exact congrArg (Quotient.mk _) (K.mZ x)
 mD:=by rintro ⟨x⟩ ⟨y⟩ ⟨z⟩;exact congrArg (Quotient.mk _) (K.mD x y z)
 cA i j:=congrArg (Quotient.mk _) (K.cA i j)
 cM i j:=congrArg (Quotient.mk _) (K.cM i j)
@[ext] structure Q4 where
 a:Int
 b:Int
 c:Int
 d:Int
def okW (m:Int) (k:Nat) (l:List Int):Prop:=l.length=k∧∀ x∈l,0≤x∧x<m
section
variable {R:Type} {K:Rg R} {z:R} {m:Int} {k:Nat}
end
def tabL (n:Nat) (f:Nat→List Int):List (List Int):=(List.range n).map f
theorem Yb (n:Nat) (f:Nat→List Int):(tabL n f).length=n:=by simp [tabL]
theorem Ah3 {n:Nat} {f:Nat→List Int} {x:List Int} (h:x∈tabL n f):∃ i,i<n∧x=f i:=by
 obtain ⟨i,hi,rfl⟩:=List.mem_map.1 h
 exact ⟨i,List.mem_range.1 hi,rfl⟩
def okR (m:Int) (k n:Nat) (A:List (List Int)):Prop:=A.length=n∧∀ x∈A,okW m k x
theorem okR.tabL {m:Int} {k n:Nat} {f:Nat→List Int} (h:∀ i,i<n→okW m k (f i)):okR m k n (tabL n f):=⟨Yb _ _,fun x hx=>by
 obtain ⟨i,hi,rfl⟩:=Ah3 hx
 exact h i hi⟩
theorem okR.at {m:Int} {k n:Nat} {A:List (List Int)} (h:okR m k n A) {i:Nat} (hi:i<n):okW m k (A.getD i []):=by
 rw [List.getD_eq_getElem?_getD,List.getElem?_eq_getElem (by rw [h.1];exact hi)]
 exact h.2 _ (List.getElem_mem _)
section
variable {R:Type} {K:Rg R} {z:R} {m:Int} {k:Nat}
end
end Go.Proofs.YtapdekacpecgiaaGreat
