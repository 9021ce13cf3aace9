import Derived.Test.YtapdekacpecgiaaGreatNa
import Derived.Test.YtapdekacpecgiaaGreatBa
import Derived.Test.YtapdekacpecgiaaGreatZa
namespace Go.Proofs.YtapdekacpecgiaaGreat
open Go.RowKit
set_option linter.unusedSimpArgs false
set_option linter.unusedVariables false
set_option linter.unusedSectionVars false
set_option maxRecDepth 20000
set_option maxHeartbeats 1000000
theorem Hu (T:Nat→Nat→Int):zz.p T 1=T:=by rw [Rg.p,Rg.p,zz.mIl]
theorem Jp {T:Nat→Nat→Int} (h0:T 0 0=0):∀ n u v,u+v<n→zz.p T n u v=0
 | 0,u,v,h=>by omega
 | n+1,u,v,h=>by
  rw [Rg.p,Et,cv2]
  refine Az fun i hi=>Az fun j hj=>?_
  by_cases e:i+j<n
  ·rw [Jp h0 n i j e,Int.zero_mul]
  ·rw [show u-i=0 by omega,show v-j=0 by omega,h0,Int.mul_zero]
theorem Acq {N:Nat} {f f' g g':Nat→Nat→Int} (h1:∀ u v,u+v≤N→f u v=f' u v) (h2:∀ u v,u+v≤N→g u v=g' u v) (u v:Nat) (h:u+v≤N):cv2 f g u v=cv2 f' g' u v:=
 As fun i hi=>As fun j hj=>by rw [h1 i j (by omega),h2 (u-i) (v-j) (by omega)]
theorem chn {N:Nat} {T F G H:Nat→Nat→Int} {i j:Nat} (hF:∀ u v,u+v≤N→zz.p T i u v=F u v) (hG:∀ u v,u+v≤N→zz.p T j u v=G u v) (hH:∀ u v,u+v≤N→cv2 F G u v=H u v) (u v:Nat) (h:u+v≤N):zz.p T (i+j) u v=H u v:=by
 rw [zz.p_add,Et,Acq hF hG u v h,hH u v h]
def tyT (p:Nat) (v:Nat→Int) (i j:Nat):Int:=
 if p=2 then pc (Dr (v 0) (v 1) (v 2)) i j else if p=3 then pc (Dw (v 0) (v 1) (v 2)) i j else if p=5 then pc (Er (v 0) (v 1) (v 2)) i j else pc (Eq (v 0) (v 1) (v 2)) i j
structure TyZ (p:Nat) (A:Nat→Int) (T:Nat→Nat→Int):Prop where
 ax:∀ u,u≤10→T u 0=(if u=1 then 1 else 0)∧T 0 u=(if u=1 then 1 else 0)
 log:∀ u v,u+v≤10→sm 4 (fun k=>(p:Int)^(3-k)*A k*zz.p T (p^k) u v)=sm 4 (fun k=>(p:Int)^(3-k)*A k*tyX (p^k) u v)
theorem sm4 (f:Nat→Int):sm 4 f=f 0+f 1+f 2+f 3:=by
 show 0+f 0+f 1+f 2+f 3=_
 rw [Int.zero_add]
theorem Ej {q u v:Nat} (h:u+v≠q):tyX q u v=0:=by
 rw [tyX,if_neg (by omega),if_neg (by omega)];rfl
theorem Pn {p:Nat} (hp:p=2∨p=3∨p=5∨p=7) (v:Nat→Int):TyZ p (tyA p (v 0) (v 1) (v 2)) (tyT p v):=by
 have h1:∀ T:Nat→Nat→Int,∀ i j,i+j≤10→zz.p T 1 i j=T i j:=fun T i j _=>by rw [Hu]
 have ax:∀ u,u≤10→tyT p v u 0=(if u=1 then 1 else 0)∧tyT p v 0 u=(if u=1 then 1 else 0):=by
  rcases hp with rfl|rfl|rfl|rfl
  ·exact Alf _ _ _
  ·exact Alq _ _ _
  ·exact Alr _ _ _
  ·exact Ams _ _ _
 have low:=Jp (ax 0 (by omega)).1
 refine ⟨ax,fun i j h=>?_⟩
 rw [sm4,sm4]
 rcases hp with rfl|rfl|rfl|rfl
 ·have e1:∀ i j,i+j≤10→zz.p (tyT 2 v) 1 i j=pc (Dr (v 0) (v 1) (v 2)) i j:=h1 _
  have e2:=chn e1 e1 (Amk _ _ _)
  have e4:=chn e2 e2 (Amm _ _ _)
  have e8:=chn e4 e4 (Aks _ _ _)
  have:=Ajl (v 0) (v 1) (v 2) i j h
  rw [show (2:Nat)^0=1 from rfl,show (2:Nat)^1=1+1 from rfl,show (2:Nat)^2=1+1+(1+1) from rfl,show (2:Nat)^3=1+1+(1+1)+(1+1+(1+1)) from rfl,e1 i j h,e2 i j h,e4 i j h,e8 i j h]
  exact this
 ·have e1:∀ i j,i+j≤10→zz.p (tyT 3 v) 1 i j=pc (Dw (v 0) (v 1) (v 2)) i j:=h1 _
  have e2:=chn e1 e1 (Amo _ _ _)
  have e3:=chn e2 e1 (Ak1 _ _ _)
  have e6:=chn e3 e3 (Amn _ _ _)
  have e9:=chn e6 e3 (Akw _ _ _)
  have:=Ajf (v 0) (v 1) (v 2) i j h
  rw [low (3^3) i j (by omega),Ej (q:=3^3) (by omega),show (3:Nat)^0=1 from rfl,show (3:Nat)^1=1+1+1 from rfl,show (3:Nat)^2=1+1+1+(1+1+1)+(1+1+1) from rfl,e1 i j h,e3 i j h,e9 i j h,Int.mul_zero,Int.add_zero,Int.add_zero]
  exact this
 ·have e1:∀ i j,i+j≤10→zz.p (tyT 5 v) 1 i j=pc (Er (v 0) (v 1) (v 2)) i j:=h1 _
  have e2:=chn e1 e1 (Al2 _ _ _)
  have e4:=chn e2 e2 (Akv _ _ _)
  have e5:=chn e4 e1 (Amw _ _ _)
  have:=Ai2 (v 0) (v 1) (v 2) i j h
  rw [low (5^3) i j (by omega),Ej (q:=5^3) (by omega),low (5^2) i j (by omega),Ej (q:=5^2) (by omega),show (5:Nat)^0=1 from rfl,show (5:Nat)^1=1+1+(1+1)+1 from rfl,e1 i j h,e5 i j h,Int.mul_zero,Int.mul_zero,Int.add_zero,Int.add_zero,Int.add_zero,Int.add_zero]
  exact this
 ·have e1:∀ i j,i+j≤10→zz.p (tyT 7 v) 1 i j=pc (Eq (v 0) (v 1) (v 2)) i j:=h1 _
  have e2:=chn e1 e1 (Ama _ _ _)
  have e4:=chn e2 e2 (Akq _ _ _)
  have e6:=chn e4 e2 (Amr _ _ _)
  have e7:=chn e6 e1 (Ak6 _ _ _)
  have:=Aj9 (v 0) (v 1) (v 2) i j h
  rw [low (7^3) i j (by omega),Ej (q:=7^3) (by omega),low (7^2) i j (by omega),Ej (q:=7^2) (by omega),show (7:Nat)^0=1 from rfl,show (7:Nat)^1=1+1+(1+1)+(1+1)+1 from rfl,e1 i j h,e7 i j h,Int.mul_zero,Int.mul_zero,Int.add_zero,Int.add_zero,Int.add_zero,Int.add_zero]
  exact this
def trn (v:Nat→Int) (k i:Nat):Int:=if i<k then v i else 0
theorem Hz {p:Nat} (hp:p=2∨p=3∨p=5∨p=7) {k:Nat} (h:p^(k+1)≤10) (v:Nat→Int) {i j:Nat} (hij:i+j≤p^(k+1)):tyT p v i j=tyT p (trn v k) i j-v k*tyC (p^(k+1)) i j:=by
 have hk:k=0∨k=1∨k=2∨3≤k:=by omega
 have big:3≤k→10<p^(k+1):=fun e=>by
  have h1:p^4≤p^(k+1):=Nat.pow_le_pow_right (by omega) (by omega)
  have h2:2^4≤p^4:=Nat.pow_le_pow_left (by omega) 4
  omega
 rcases hp with rfl|rfl|rfl|rfl <;> rcases hk with rfl|rfl|rfl|hk
 ·exact Al1 _ _ _ i j hij
 ·exact Alu _ _ _ i j hij
 ·exact Aml _ _ _ i j hij
 ·have:=big hk;omega
 ·exact Alj _ _ _ i j hij
 ·exact Ak5 _ _ _ i j hij
 ·omega
 ·have:=big hk;omega
 ·exact Ak2 _ _ _ i j hij
 ·omega
 ·omega
 ·have:=big hk;omega
 ·exact Amt _ _ _ i j hij
 ·omega
 ·omega
 ·have:=big hk;omega
theorem Yt {n i j:Nat} (h:i+j<n):tyC n i j=0:=by rw [tyC,if_neg (by omega)]
theorem Akh {p:Nat} (hp:p=2∨p=3∨p=5∨p=7) {K d:Nat} (hd:d≤10) (h1:p^K≤d) (h:d<p^(K+1)) (v:Nat→Int) {i j:Nat} (hij:i+j≤d):tyT p v i j=tyT p (trn v K) i j:=by
 by_cases hb:p^(K+1)≤10
 ·rw [Hz hp hb v (by omega),Yt (by omega),Int.mul_zero,Int.sub_zero]
 ·have hk:K=0∨K=1∨K=2∨K=3∨4≤K:=by omega
  have big:4≤K→10<p^K:=fun e=>by
   have h1:p^4≤p^K:=Nat.pow_le_pow_right (by omega) e
   have h2:2^4≤p^4:=Nat.pow_le_pow_left (by omega) 4
   omega
  rcases hp with rfl|rfl|rfl|rfl <;> rcases hk with rfl|rfl|rfl|rfl|hk
  all_goals first
   | rfl
   | (have:=big hk;omega)
   | omega
theorem smSp {f:Nat→Int} (a:Nat→Nat) (ha:∀ t,a t<a (t+1)):∀ (j K:Nat),a j<K→(∀ i,i<K→(∀ t,t≤j→i≠a t)→f i=0)→sm K f=sm (j+1) (fun t=>f (a t))
 | 0,K,h,hz=>by
  rw [Cd h (fun i hi hne => hz i hi (fun t ht => by
    obtain rfl:t=0:=by omega
    exact hne))]
  simp [sm]
 | j+1,K,h,hz=>by
  have hmono:∀ t,t≤j+1→a t≤a (j+1):=by
   intro t ht
   obtain ⟨c,hc⟩:∃ c,j+1=t+c:=⟨j+1-t,by omega⟩
   rw [hc]
   clear hc
   induction c with
   | zero=>exact Nat.le_refl _
   | succ c ih=>exact Nat.le_trans ih (Nat.le_of_lt (ha (t+c)))
  rw [Df (c:=a (j+1)+1) (by omega) (fun i h1 h2=>hz i h2 (fun t ht=>by have:=hmono t ht;omega)),sm,
   smSp a ha j (a (j+1)) (ha j) (fun i hi hne=>hz i (by omega) (fun t ht=>by
    by_cases g:t=j+1
    ·subst g;omega
    ·exact hne t (by omega)))]
  rfl
theorem Adc {a a' b b':Nat→Nat→Int} {m:Int} {u v:Nat} (h:∀ i j,i≤u→j≤v→a i j%m=a' i j%m) (h2:∀ i j,i≤u→j≤v→b i j%m=b' i j%m):cv2 a b u v%m=cv2 a' b' u v%m:=
 Be fun i hi=>Be fun j hj=>Af (h i j (by omega) (by omega)) (h2 _ _ (by omega) (by omega))
theorem P4 {m:Int} {n:Nat} {t f:Nat→Nat→Int} (h:∀ u v,u+v<n→t u v%m=f u v%m):∀ i u v,u+v<n→pc (pwP m n t i) u v%m=zz.p f i u v%m
 | 0,u,v,hu=>by
  rw [pwP,numP,Bc hu,Rg.p,Fm]
  split
  ·rw [Int.emod_emod]
  ·rfl
 | i+1,u,v,hu=>by
  rw [pwP,pmul,Bc hu,Int.emod_emod,Rg.p,Et]
  exact Adc (fun a b h1 h2=>P4 h i a b (by omega)) (fun a b h1 h2=>h a b (by omega))
def sclT (q:Int) (T:Nat→Nat→Int) (u v:Nat):Int:=if u+v=0 then 0 else q^(u+v-1)*T u v
theorem Yr {q:Int} {T:Nat→Nat→Int} (h0:T 0 0=0) (u v:Nat):q*sclT q T u v=q^(u+v)*T u v:=by
 rw [sclT]
 split
 ·rw [show u=0 by omega,show v=0 by omega,h0,Int.mul_zero,Int.mul_zero]
 ·obtain ⟨k,hk⟩:∃ k,u+v=k+1:=⟨u+v-1,by omega⟩
  rw [hk,Nat.add_sub_cancel,Int.pow_succ,← Int.mul_assoc,Int.mul_comm q]
theorem Iw {q:Int} {T H:Nat→Nat→Int} (hH:∀ u v,q*H u v=q^(u+v)*T u v):∀ i u v,q^i*zz.p H i u v=q^(u+v)*zz.p T i u v
 | 0,u,v=>by
  rw [Rg.p,Rg.p,Fm]
  split
  ·rename_i h;rw [h.1,h.2]
  ·rw [Int.mul_zero,Int.mul_zero]
 | i+1,u,v=>by
  rw [Rg.p,Rg.p,Et,Et,cv2,cv2,← Ch,← Ch]
  refine As fun a ha=>?_
  rw [← Ch,← Ch]
  refine As fun b hb=>?_
  have e1:=Iw hH i a b
  have e2:=hH (u-a) (v-b)
  have e3:q^(u+v)=q^(a+b)*q^(u-a+(v-b)):=by rw [← Int.pow_add];congr 1;omega
  rw [e3,Int.pow_succ]
  generalize zz.p H i a b=x at *
  generalize zz.p T i a b=y at *
  generalize H (u-a) (v-b)=z at *
  generalize T (u-a) (v-b)=w at *
  generalize q^(a+b)=s at *
  generalize q^(u-a+(v-b))=r at *
  generalize q^i=t at *
  rw [show t*q*(x*z)=(t*x)*(q*z) by ac_rfl,e1,e2]
  ac_rfl
theorem Yy {a:List Int} {d u v:Nat} (h:u+v≤d):sumF a u v=sm (d+1) (fun i=>at' a i*tyX i u v):=by
 rw [As (g:=fun i=>at' a i*(if u=i∧v=0 then 1 else 0)+at' a i*(if u=0∧v=i then 1 else 0)) (fun i _=>by rw [tyX,Int.mul_add]),Jm,sumF]
 congr 1
 ·rw [Cd (p:=u) (by omega) (fun i _ hi=>by rw [if_neg (fun e=>hi e.1.symm),Int.mul_zero])]
  by_cases e:v=0
  ·rw [if_pos e,if_pos ⟨rfl,e⟩,Int.mul_one]
  ·rw [if_neg e,if_neg (fun x=>e x.2),Int.mul_zero]
 ·rw [Cd (p:=v) (by omega) (fun i _ hi=>by rw [if_neg (fun e=>hi e.2.symm),Int.mul_zero])]
  by_cases e:u=0
  ·rw [if_pos e,if_pos ⟨e,rfl⟩,Int.mul_one]
  ·rw [if_neg e,if_neg (fun x=>e x.1),Int.mul_zero]
theorem G2 {p:Nat} (hp:2≤p):∀ k,k+1≤p^k
 | 0=>by rw [Nat.pow_zero];omega
 | k+1=>by
  have h1:=G2 hp k
  rw [Nat.pow_succ]
  have h2:=Nat.mul_le_mul_left (p^k) hp
  generalize p^k=x at *
  generalize x*p=y at *
  omega
theorem Kf {a x y:Int} (ha:a≠0) (h:a*x=a*y):x=y:=Int.eq_of_mul_eq_mul_left ha h
theorem TyZ.cutK {p:Nat} {A:Nat→Int} {T:Nat→Nat→Int} (h:TyZ p A T) {K d:Nat} (hd:d≤10) (hK3:K≤3) (hK:d<p^(K+1)) (hp:2≤p) {u v:Nat} (huv:u+v≤d):sm (K+1) (fun k=>(p:Int)^(3-k)*A k*zz.p T (p^k) u v)=sm (K+1) (fun k=>(p:Int)^(3-k)*A k*tyX (p^k) u v):=by
 have far:∀ k,K+1≤k→u+v<p^k:=fun k hk=>by
  have:=Nat.pow_le_pow_right (show 0<p by omega) hk
  omega
 have e1:sm 4 (fun k=>(p:Int)^(3-k)*A k*zz.p T (p^k) u v)=sm (K+1) (fun k=>(p:Int)^(3-k)*A k*zz.p T (p^k) u v):=Df (by omega) fun k h1 _=>by rw [Jp (h.ax 0 (by omega)).1 _ _ _ (far k h1),Int.mul_zero]
 have e2:sm 4 (fun k=>(p:Int)^(3-k)*A k*tyX (p^k) u v)=sm (K+1) (fun k=>(p:Int)^(3-k)*A k*tyX (p^k) u v):=Df (by omega) fun k h1 _=>by rw [Ej (by have:=far k h1;omega),Int.mul_zero]
 exact e1.symm.trans ((h.log u v (by omega)).trans e2)
theorem Alc {p : Nat} {A : Nat → Int} {T : Nat → Nat → Int} (hT : TyZ p A T) (hp : 2 ≤ p) {K d : Nat} (hd : d ≤ 10) (hK : p ^ K ≤ d) (hK2 : d < p ^ (K + 1)) (hK3 : K ≤ 3) {u v : Nat} (huv : u + v ≤ d) :
  sm (K+1) (fun k=>A k*(p:Int)^(p^k-1-k)*zz.p (sclT p T) (p^k) u v)=sm (K+1) (fun k=>A k*(p:Int)^(p^k-1-k)*tyX (p^k) u v):=by
 have hp0:(p:Int)≠0:=by omega
 have h4:((p:Int)^4)≠0:=Int.pow_ne_zero hp0
 have h:=hT.cutK hd hK3 hK2 hp huv
 have hs:=Iw (Yr (q:=(p:Int)) (hT.ax 0 (by omega)).1)
 have hx:∀ k,k<K+1→∀ y:Int,(p:Int)^4*(A k*(p:Int)^(p^k-1-k)*y)=(p:Int)^(3-k)*A k*((p:Int)^(p^k)*y):=fun k hk y=>by
  have:=G2 hp k
  have e:(p:Int)^4*(p:Int)^(p^k-1-k)=(p:Int)^(3-k)*(p:Int)^(p^k):=by rw [← Int.pow_add,← Int.pow_add];congr 1;omega
  rw [show (p:Int)^4*(A k*(p:Int)^(p^k-1-k)*y)=(p:Int)^4*(p:Int)^(p^k-1-k)*(A k*y) by ac_rfl,e]
  ac_rfl
 have e1:∀ k,k<K+1→(p:Int)^4*(A k*(p:Int)^(p^k-1-k)*zz.p (sclT p T) (p^k) u v)=(p:Int)^(u+v)*((p:Int)^(3-k)*A k*zz.p T (p^k) u v):=fun k hk=>by
  rw [hx k hk,hs];ac_rfl
 have e2:∀ k,k<K+1→(p:Int)^4*(A k*(p:Int)^(p^k-1-k)*tyX (p^k) u v)=(p:Int)^(u+v)*((p:Int)^(3-k)*A k*tyX (p^k) u v):=fun k hk=>by
  rw [hx k hk]
  by_cases e:u+v=p^k
  ·rw [e];ac_rfl
  ·rw [Ej e];simp
 refine Kf h4 ?_
 rw [← Ch,← Ch,As e1,As e2,Ch,Ch,h]
theorem Am9 {p:Nat} (hp:2≤p) {f:Nat→Int} {K d:Nat} (hK:p^K≤d) (h:∀ i,i≤d→(∀ k,k≤K→i≠p^k)→f i=0):sm (d+1) f=sm (K+1) (fun k=>f (p^k)):=
 smSp (fun k=>p^k) (fun k=>by have:=G2 hp k;rw [Nat.pow_succ];have:=Nat.mul_le_mul_left (p^k) hp;omega) K (d+1) (by omega) fun i hi h2=>h i (by omega) h2
structure TyL (p:Nat) (w:Int) (d K:Nat) (B:Nat→Int) (lg:List Int):Prop where
 len:lg.length=d+1
 num:∀ x∈lg,0≤x∧x<w
 pw:∀ k,k≤K→at' lg (p^k)%w=B k%w
 zero:∀ i,i≤d→(∀ k,k≤K→i≠p^k)→at' lg i=0
theorem TyL.sum {p:Nat} {w:Int} {d K:Nat} {B:Nat→Int} {lg:List Int} (h:TyL p w d K B lg) (hp:2≤p) (hK:p^K≤d) (P:Nat→Int):sm (d+1) (fun i=>at' lg i*P i)%w=sm (K+1) (fun k=>B k*P (p^k))%w:=by
 rw [Am9 hp hK (fun i h1 h2=>by rw [h.zero i h1 h2,Int.zero_mul])]
 exact Be fun k hk=>Af (h.pw k (by omega)) rfl
theorem v_mk {d:Nat} {w:Int} (lg:List Int) (H:Nat→Nat→Int):LwR.v (qr d w) d lg (Quotient.mk (pq d w) H)=Quotient.mk (pq d w) (fun u v=>sm (d+1) (fun i=>at' lg i*zz.p H i u v)):=by
 rw [LwR.v,Rg.ev]
 have h1:∀ i,(qr d w).m ((qr d w).c (at' lg i)) ((qr d w).p (Quotient.mk (pq d w) H) i)=Quotient.mk (pq d w) (fun u v=>at' lg i*zz.p H i u v):=fun i=>by
  rw [Zu]
  exact congrArg (Quotient.mk (pq d w)) (by funext u v;rw [Su])
 rw [(qr d w).s_congr (fun i _=>h1 i),Z9]
 exact congrArg _ (by funext u v;rw [Abn])
theorem Aiw {d:Nat} {w:Int} (P:Nat→Nat→Int):(qr d w).e2 d P (qX d w) (qY d w)=Quotient.mk (pq d w) P:=by
 rw [Ack]
 exact Quotient.sound (show (pq d w).r _ _ from fun u v h=>by rw [if_pos ⟨by omega,by omega⟩])
theorem Aii {d : Nat} {w : Int} {lg : List Int} (hC : Crd w d lg) {S H : Nat → Nat → Int} (hS : ∀ u v, u + v ≤ d → S u v % w = sumF lg u v % w) (h0 : H 0 0 = 0)
  (hH:∀ u v,u+v≤d→sm (d+1) (fun i=>at' lg i*zz.p H i u v)%w=sumF lg u v%w) {u v:Nat} (huv:u+v≤d):pc (lawT w lg d S) u v%w=H u v%w:=by
 have hx:=Af8 d w hC.hd hC.hm
 have hy:=qY_o d w hC.hd hC.hm
 have hz:=(qP d w hC.hd hC.hm).e2_o h0 hx hy
 refine T4 (d:=d) ?_ huv
 rw [Rv (qP d w hC.hd hC.hm) hC hS hx hy,← Ys (qP d w hC.hd hC.hm) (S:=sumF lg) (fun _ _ _=>rfl) hx hy,← v_vr (qP d w hC.hd hC.hm) hC hz]
 refine congrArg _ ?_
 rw [Aiw H,v_mk,Aiw]
 exact Quotient.sound (show (pq d w).r _ _ from fun u v h=>(hH u v h).symm)
theorem Aki {w x:Int} (hw:1<w) (h:0≤x∧x<w) (h1:x%w=1%w):(invL w x*x)%w=1%w:=by
 have:x=1:=by rwa [Int.emod_eq_of_lt h.1 h.2,Int.emod_eq_of_lt (by omega) hw] at h1
 subst this
 exact invC hw h (by rw [show (1:Int).toNat=1 from rfl,Nat.gcd_one_left])
theorem TyL.crd {p:Nat} {w:Int} {d K:Nat} {B:Nat→Int} {lg:List Int} (h:TyL p w d K B lg) (hp:2≤p) (hw:1<w) (hd:1≤d) (h1:B 0%w=1%w):Crd w d lg where
 hm:=hw
 hd:=hd
 len:=h.len
 num:=h.num
 a0:=h.zero 0 (by omega) fun k _ e=>by have:=G2 hp k;omega
 a1:=Aki hw (A4 h.num (by omega) 1) (by have:=h.pw 0 (by omega);rwa [Nat.pow_zero,h1] at this)
theorem Agv {p:Nat} {A:Nat→Int} {T:Nat→Nat→Int} (hT:TyZ p A T) (hA:A 0=1) (hp:2≤p) {K d:Nat} (hd1:1≤d) (hd:d≤10) (hK:p^K≤d) (hK2:d<p^(K+1)) (hK3:K≤3) {w:Int} (hw:1<w) {lg:List Int} (hl:TyL p w d K (fun k=>A k*(p:Int)^(p^k-1-k)) lg) {S:Nat→Nat→Int} (hS:∀ u v,u+v≤d→S u v%w=sumF lg u v%w) {u v:Nat} (huv:u+v≤d):pc (lawT w lg d S) u v%w=sclT p T u v%w:=by
 refine Aii (hl.crd hp hw hd1 (by rw [hA];rfl)) hS (by rw [sclT,if_pos rfl]) (fun u v h=>?_) huv
 rw [hl.sum hp hK,Alc hT hp hd hK hK2 hK3 h,Yy h,hl.sum hp hK]
theorem Agi {x q m t:Int} {a b:Nat} (hq:0<q) (h:x%(m*q^(a+b))=(q^a*t)%(m*q^(a+b))):x/q^a%m=t%m:=by
 obtain ⟨z,hz⟩:=dvdC.2 h
 have hqa:q^a≠0:=Int.pow_ne_zero (by omega)
 have e:x=q^a*(t+m*(q^b*z)):=by
  rw [Int.pow_add] at hz
  have:x=q^a*t+m*(q^a*q^b)*z:=by omega
  rw [this,Int.mul_add]
  congr 1
  ac_rfl
 rw [e,Int.mul_ediv_cancel_left _ hqa,Int.add_mul_emod_self_left]
theorem Ajx {p:Nat} {T:Nat→Nat→Int} {m:Int} {d:Nat} {G:List (List Int)} (hp:2≤p) (h0:T 0 0=0) (hG:∀ u v,u+v≤d→pc G u v%(m*(p:Int)^(d-1))=sclT p T u v%(m*(p:Int)^(d-1))) (hb:0≤pc G 0 0∧pc G 0 0<m*(p:Int)^(d-1)) {u v:Nat} (huv:u+v≤d):pc G u v/(p:Int)^(u+v-1)%m=T u v%m:=by
 have h:=hG u v huv
 rw [sclT] at h
 split at h
 ·rename_i e
  rw [show u=0 by omega,show v=0 by omega] at h ⊢
  rw [Int.emod_eq_of_lt hb.1 hb.2,Int.zero_emod] at h
  rw [h,h0];simp
 ·rw [show d-1=u+v-1+(d-(u+v)) by omega] at h
  exact Agi (by omega) h
theorem Ada {m:Int} {n:Nat} {t f:Nat→Nat→Int} (h:∀ u v,u+v<n→t u v%m=f u v%m) {a b c:Nat} (habc:a+b+c<n):lfS m n t a b c%m=sm (n-c) (fun i=>f i c*zz.p f i a b)%m:=
 Be fun i hi=>Af (h i c (by omega)) (P4 h i a b (by omega))
theorem Aea {m:Int} {n:Nat} {t f:Nat→Nat→Int} (h:∀ u v,u+v<n→t u v%m=f u v%m) {a b c:Nat} (habc:a+b+c<n):rtS m n t a b c%m=sm (n-a) (fun j=>f a j*zz.p f j b c)%m:=
 Be fun j hj=>Af (h a j (by omega)) (P4 h j b c (by omega))
theorem Agm {q:Int} {T H:Nat→Nat→Int} (hH:∀ u v,q*H u v=q^(u+v)*T u v) (n a b c:Nat):q*sm n (fun i=>H i c*zz.p H i a b)=q^(a+b+c)*sm n (fun i=>T i c*zz.p T i a b):=by
 rw [← Ch,← Ch]
 refine As fun i _=>?_
 have e1:=Iw hH i a b
 have e2:=hH i c
 rw [← Int.mul_assoc,e2,Int.pow_add q i c,Int.pow_add q (a+b) c,show q^i*q^c*T i c*zz.p H i a b=q^c*T i c*(q^i*zz.p H i a b) by ac_rfl,e1]
 ac_rfl
theorem Agu {q:Int} {T H:Nat→Nat→Int} (hH:∀ u v,q*H u v=q^(u+v)*T u v) (n a b c:Nat):q*sm n (fun j=>H a j*zz.p H j b c)=q^(a+b+c)*sm n (fun j=>T a j*zz.p T j b c):=by
 rw [← Ch,← Ch]
 refine As fun j _=>?_
 have e1:=Iw hH j b c
 have e2:=hH a j
 rw [← Int.mul_assoc,e2,Int.pow_add q a j,show a+b+c=a+(b+c) by omega,Int.pow_add q a (b+c),show q^a*q^j*T a j*zz.p H j b c=q^a*T a j*(q^j*zz.p H j b c) by ac_rfl,e1]
 ac_rfl
theorem Rw {x y q m:Int} {a b:Nat} (hq:0<q) (h:(q^a*x)%(m*q^(a+b))=(q^a*y)%(m*q^(a+b))):x%m=y%m:=by
 obtain ⟨z,hz⟩:=dvdC.2 h
 have hqa:q^a≠0:=Int.pow_ne_zero (by omega)
 refine dvdC.1 ⟨q^b*z,Kf hqa ?_⟩
 rw [Int.mul_sub,hz,Int.pow_add]
 ac_rfl
def tyM (m:Int) (d:Nat) (T:Nat→Nat→Int):List (List Int):=tab2 (d+1) (fun u v=>T u v%m)
theorem Acv {m:Int} (hm:0<m) (d:Nat) (T:Nat→Nat→Int):Pl m (d+1) (tyM m d T):=Pl.tab2 hm fun _ _ _=>Ag _ m hm
theorem D5 {m:Int} {d:Nat} {T:Nat→Nat→Int} {u v:Nat} (h:u+v<d+1):pc (tyM m d T) u v=T u v%m:=Bc h
theorem Al9 {p:Nat} {A:Nat→Int} {T:Nat→Nat→Int} {m:Int} {d:Nat} {G:Nat→Nat→Int} (hT:TyZ p A T) (hp:2≤p) (hm:1<m) (hd:1≤d) (hd2:d≤10) (hG:∀ u v,u+v≤d→G u v%(m*(p:Int)^(d-1))=sclT p T u v%(m*(p:Int)^(d-1))) (hL:IsLw (m*(p:Int)^(d-1)) (d+1) G):IsLw m (d+1) (pc (tyM m d T)):=by
 have hM:∀ u v,u+v<d+1→pc (tyM m d T) u v%m=T u v%m:=fun u v h=>by rw [D5 h,Int.emod_emod]
 refine ⟨fun i hi=>?_,fun i j h1 h2=>?_,fun a b c h=>?_⟩
 ·unfold ok1
  rw [D5 (by omega),(hT.ax i (by omega)).1]
  split
  ·exact Int.emod_eq_of_lt (by omega) hm
  ·rfl
 ·rw [D5 h2,D5 (by omega)]
  have e:G i j=G j i:=hL.2.1 i j h1 h2
  have e1:=hG i j (by omega)
  have e2:=hG j i (by omega)
  rw [← e,e1,sclT,sclT,if_neg (by omega),if_neg (by omega),show j+i=i+j by omega,show d-1=i+j-1+(d-(i+j)) by omega] at e2
  exact Rw (by omega) e2
 ·have e:lfS (m*(p:Int)^(d-1)) (d+1) G a b c%(m*(p:Int)^(d-1))=rtS (m*(p:Int)^(d-1)) (d+1) G a b c%(m*(p:Int)^(d-1)):=hL.2.2 a b c h
  rw [Ada (fun u v h=>hG u v (by omega)) h,Aea (fun u v h=>hG u v (by omega)) h] at e
  rw [Ada hM h,Aea hM h]
  have hs:=Yr (q:=(p:Int)) (hT.ax 0 (by omega)).1
  have hl:=Agm hs (d+1-c) a b c
  have hr:=Agu hs (d+1-a) a b c
  obtain ⟨z,hz⟩:=dvdC.2 e
  refine Rw (q:=(p:Int)) (a:=a+b+c) (b:=d-(a+b+c)) (by omega) (dvdC.1 ⟨z,?_⟩)
  rw [← hl,← hr,← Int.mul_sub,hz,show a+b+c+(d-(a+b+c))=d-1+1 by omega,Int.pow_succ]
  ac_rfl
theorem Als {p : Nat} {A : Nat → Int} {T : Nat → Nat → Int} {m z : Int} {d K : Nat} (hT : TyZ p A T) (hp : 2 ≤ p) (hm : 1 < m) (hd2 : d ≤ 10) (hK : p ^ K ≤ d) (hK2 : d < p ^ (K + 1)) (hK3 : K ≤ 3) (hz : z * p % m = 1 % m) {lg : List Int} (hl : TyL p m d K (fun k => A k * z ^ k) lg) :
  aftL m (d+1) (pc (tyM m d T)) lg lg.length=tab2 (d+1) (fun u v=>sumF lg u v%m):=by
 have hM:∀ u v,u+v<d+1→pc (tyM m d T) u v%m=T u v%m:=fun u v h=>by rw [D5 h,Int.emod_emod]
 refine Ais (Gj (by omega) _ _ _ _) (Pl.tab2 (by omega) fun _ _ _=>Ag _ m (by omega)) fun u v huv=>?_
 rw [J9 (by omega) huv,Bc huv,hl.len,Be (g:=fun i=>at' lg i*zz.p T i u v) (fun i _=>Af rfl (P4 hM i u v huv)),hl.sum hp hK,Yy (show u+v≤d by omega),hl.sum hp hK]
 have hzk:∀ j,(z*p)^j%m=1%m:=fun j=>by
  induction j with
  | zero=>rw [Int.pow_zero]
  | succ j ih=>rw [Int.pow_succ,Af ih hz,Int.mul_one]
 have key:∀ P:Nat→Int,sm (K+1) (fun k=>A k*z^k*P k)%m=z^3*sm (K+1) (fun k=>(p:Int)^(3-k)*A k*P k)%m:=fun P=>by
  rw [← Ch]
  refine Be fun k hk=>?_
  have e1:z^3*((p:Int)^(3-k)*A k*P k)=(z*p)^(3-k)*(A k*z^k*P k):=by
   rw [Int.mul_pow,show z^3=z^(3-k)*z^k by rw [← Int.pow_add];congr 1;omega]
   ac_rfl
  rw [e1,Af (hzk (3-k)) rfl,Int.one_mul]
 rw [Int.emod_emod,Int.emod_emod,key,key (fun k=>tyX (p^k) u v),hT.cutK hd2 hK3 hK2 hp (show u+v≤d by omega)]
theorem Abk {p k:Nat} (hp:p=2∨p=3∨p=5∨p=7) (hk:p^(k+1)≤10) {x y m:Int} (h:∀ i,i≤p^(k+1)→x*at' (cocL (p^(k+1))) i%m=y*at' (cocL (p^(k+1))) i%m):x%m=y%m:=by
 have hk':k=0∨k=1∨k=2∨3≤k:=by omega
 have big:3≤k→10<p^(k+1):=fun e=>by
  have h1:p^4≤p^(k+1):=Nat.pow_le_pow_right (by omega) (by omega)
  have h2:2^4≤p^4:=Nat.pow_le_pow_left (by omega) 4
  omega
 have comb:∀ (a b s t:Int),a*s+b*t=1→x*a%m=y*a%m→x*b%m=y*b%m→x%m=y%m:=fun a b s t e h1 h2=>by
  obtain ⟨u,hu⟩:=dvdC.2 h1
  obtain ⟨v,hv⟩:=dvdC.2 h2
  refine dvdC.1 ⟨u*s+v*t,?_⟩
  rw [Int.mul_add,← Int.mul_assoc,← Int.mul_assoc,← hu,← hv]
  have e2:x-y=(x-y)*(a*s+b*t):=by rw [e,Int.mul_one]
  rw [e2,Int.mul_add]
  simp only [Int.sub_mul,← Int.mul_assoc]
 rcases hp with rfl|rfl|rfl|rfl <;> rcases hk' with rfl|rfl|rfl|hk'
 ·have h1:x*1%m=y*1%m:=h 1 (by omega)
  rwa [Int.mul_one,Int.mul_one] at h1
 ·exact comb 3 2 1 (-1) rfl (h 2 (by omega)) (h 1 (by omega))
 ·exact comb 4 35 9 (-1) rfl (h 1 (by omega)) (h 4 (by omega))
 ·have:=big hk';omega
 ·have h1:x*1%m=y*1%m:=h 1 (by omega)
  rwa [Int.mul_one,Int.mul_one] at h1
 ·exact comb 28 3 1 (-9) rfl (h 3 (by omega)) (h 1 (by omega))
 ·omega
 ·have:=big hk';omega
 ·have h1:x*1%m=y*1%m:=h 1 (by omega)
  rwa [Int.mul_one,Int.mul_one] at h1
 ·omega
 ·omega
 ·have:=big hk';omega
 ·have h1:x*1%m=y*1%m:=h 1 (by omega)
  rwa [Int.mul_one,Int.mul_one] at h1
 ·omega
 ·omega
 ·have:=big hk';omega
theorem Ze {R:Type} (K:Rg R) (x:R) (i:Nat):∀ j,K.p x (i*j)=K.p (K.p x i) j
 | 0=>rfl
 | j+1=>by rw [Nat.mul_succ,K.p_add,Ze K x i j];rfl
def pwS1 {R:Type} (K:Rg R) (y z:R):Nat→R
 | 0=>K.c 0
 | n+1=>K.m (K.p y n) z
theorem Y7 {R:Type} (K:Rg R) (y z:R) (c:Int):∀ n,∃ r,K.p (K.a y (K.m (K.c c) z)) n=K.a (K.p y n) (K.a (K.m (K.c (c*(n:Int))) (pwS1 K y z n)) (K.m (K.c (c*c)) r))
 | 0=>⟨K.c 0,by rw [Rg.p,Rg.p,pwS1,K.mZ,K.mZ,K.aZ,K.aZ]⟩
 | n+1=>by
  obtain ⟨r,hr⟩:=Y7 K y z c n
  refine ⟨K.a (K.m (K.c (n:Int)) (K.m (pwS1 K y z n) z)) (K.m r (K.a y (K.m (K.c c) z))),?_⟩
  rw [Rg.p,hr,K.mDr,K.mD (K.p y n),K.mDr,K.mD (K.m (K.c (c*(n:Int))) (pwS1 K y z n)),show K.p y (n+1)=K.m (K.p y n) y from rfl]
  have e1:K.m (K.c (c*(n:Int))) (K.m (pwS1 K y z n) y)=K.m (K.c (c*(n:Int))) (K.m (K.p y n) z):=by
   cases n with
   | zero=>rw [show c*((0:Nat):Int)=0 by simp,K.mZl,K.mZl]
   | succ n=>
    rw [show pwS1 K y z (n+1)=K.m (K.p y n) z from rfl,show K.p y (n+1)=K.m (K.p y n) y from rfl]
    congr 1
    rw [K.mA,K.mA,K.mC z y]
  have e2:K.m (K.c (c*((n+1:Nat):Int))) (pwS1 K y z (n+1))=K.a (K.m (K.c (c*(n:Int))) (K.m (K.p y n) z)) (K.m (K.c c) (K.m (K.p y n) z)):=by
   rw [show pwS1 K y z (n+1)=K.m (K.p y n) z from rfl,show c*((n+1:Nat):Int)=c*(n:Int)+c by rw [Int.natCast_add,Int.mul_add];simp,K.cA,K.mDr]
  rw [e2,← e1]
  have e3:K.m (K.m (K.c (c*(n:Int))) (pwS1 K y z n)) (K.m (K.c c) z)=K.m (K.c (c*c)) (K.m (K.c (n:Int)) (K.m (pwS1 K y z n) z)):=by
   rw [K.cM,K.cM];ac_rfl
  rw [e3,K.mD (K.c (c*c))]
  have e4:K.m (K.p y n) (K.m (K.c c) z)=K.m (K.c c) (K.m (K.p y n) z):=by ac_rfl
  have e5:K.m (K.m (K.c (c*(n:Int))) (pwS1 K y z n)) y=K.m (K.c (c*(n:Int))) (K.m (pwS1 K y z n) y):=K.mA _ _ _
  have e6:K.m (K.m (K.c (c*c)) r) (K.a y (K.m (K.c c) z))=K.m (K.c (c*c)) (K.m r (K.a y (K.m (K.c c) z))):=K.mA _ _ _
  rw [e4,e5,e6]
  ac_rfl
def nearK {R:Type} (K:Rg R) (c:Int) (x y:R):Prop:=∃ z,x=K.a y (K.m (K.c c) z)
theorem Aln {R:Type} (K:Rg R) {M p:Int} {n:Nat} (hn:(n:Int)=p) {j:Nat} {x y:R} (h:nearK K (M*p^(j+1)) x y):nearK K (M*p^(j+1+1)) (K.p x n) (K.p y n):=by
 obtain ⟨z,rfl⟩:=h
 obtain ⟨r,hr⟩:=Y7 K y z (M*p^(j+1)) n
 refine ⟨K.a (pwS1 K y z n) (K.m (K.c (M*p^j)) r),?_⟩
 rw [hr,hn,K.mD,← K.mA (K.c (M*p^(j+1+1))) (K.c (M*p^j)),← K.cM]
 congr 3
 ·rw [Int.pow_succ p (j+1)];ac_rfl
 ·rw [Int.pow_succ p (j+1),Int.pow_succ p j];ac_rfl
theorem Ye {R:Type} (K:Rg R) {M p:Int} {n:Nat} (hn:(n:Int)=p) {x y:R} (h:nearK K (M*p) x y):∀ k,nearK K (M*p^(k+1)) (K.p x (n^k)) (K.p y (n^k))
 | 0=>by
  rw [Nat.pow_zero,show M*p^(0+1)=M*p by rw [Int.pow_succ,Int.pow_zero,Int.one_mul],Rg.p,Rg.p,Rg.p,Rg.p,K.mIl,K.mIl];exact h
 | k+1=>by
  rw [Nat.pow_succ,Ze,Ze];exact Aln K hn (Ye K hn h k)
theorem Ac8 {N:Nat} {f g:Nat→Nat→Int} (h:∀ u v,u+v≤N→f u v=g u v):∀ i u v,u+v≤N→zz.p f i u v=zz.p g i u v
 | 0,_,_,_=>rfl
 | i+1,u,v,hu=>by rw [Rg.p,Rg.p,Et,Et];exact Acq (Ac8 h i) h u v hu
theorem Aka {M p:Int} {n N:Nat} (hn:(n:Int)=p) {f g:Nat→Nat→Int} (h:∀ u v,u+v≤N→f u v%(M*p)=g u v%(M*p)) (k:Nat) {u v:Nat} (huv:u+v≤N):zz.p f (n^k) u v%(M*p^(k+1))=zz.p g (n^k) u v%(M*p^(k+1)):=by
 let f':Nat→Nat→Int:=fun u v=>if u+v≤N then f u v else g u v
 have e1:nearK zz (M*p) f' g:=by
  refine ⟨fun u v=>(f' u v-g u v)/(M*p),?_⟩
  funext a b
  have hd:(M*p)∣f' a b-g a b:=by
   show (M*p)∣(if a+b≤N then f a b else g a b)-g a b
   split
   ·rename_i e;exact dvdC.2 (h a b e)
   ·rw [Int.sub_self];exact Int.dvd_zero _
  rw [Rh,Su,Int.mul_ediv_cancel' hd]
  omega
 obtain ⟨z,hz⟩:=Ye zz hn e1 k
 have e2:=congrFun (congrFun hz u) v
 rw [Rh,Su] at e2
 rw [Ac8 (g:=f') (fun a b hab=>by show f a b=if a+b≤N then f a b else g a b;rw [if_pos hab]) _ u v huv,e2,Int.add_mul_emod_self_left]
theorem Yq {N:Nat} {f g:Nat→Nat→Int} (f0:f 0 0=0) (g0:g 0 0=0) (h:∀ u v,u+v<N→f u v=g u v):∀ q u v,u+v<N+q→zz.p f (q+1) u v=zz.p g (q+1) u v
 | 0,u,v,hu=>by rw [Hu,Hu];exact h u v hu
 | q+1,u,v,hu=>by
  rw [Rg.p,show zz.p g (q+1+1)=zz.m (zz.p g (q+1)) g from rfl,Et,Et]
  refine As fun i hi=>As fun j hj=>?_
  by_cases e:i+j<q+1
  ·rw [Jp f0 _ _ _ e,Jp g0 _ _ _ e,Int.zero_mul,Int.zero_mul]
  ·by_cases e2:u-i+(v-j)=0
   ·rw [show u-i=0 by omega,show v-j=0 by omega,f0,g0,Int.mul_zero,Int.mul_zero]
   ·rw [Yq f0 g0 h q i j (by omega),h _ _ (by omega)]
theorem Aej {w:Int} {n:Nat} {t:List (List Int)}:∀ k u v,u+v<n→pc (pwK w n t k) u v%w=zz.p (pc t) (k+1) u v%w
 | 0,u,v,h=>by rw [pwK,Hu]
 | k+1,u,v,h=>by
  rw [pwK,pmul,Bc h,Int.emod_emod,show zz.p (pc t) (k+1+1)=zz.m (zz.p (pc t) (k+1)) (pc t) from rfl,Et]
  exact Kx fun i j h1 h2=>Aej k i j (by omega)
theorem pcPut {w:Int} {n:Nat} {t:List (List Int)} (h:Pl w n t) {i j:Nat} (hij:i+j<n) (x:Int) (u v:Nat):pc (put2 t i j x) u v=if u=i∧v=j then x else pc t u v:=by
 have hi:i<t.length:=by rw [h.len];omega
 have hr:=h.row i (by omega)
 rw [pc,put2,T6]
 by_cases e:u=i∧i<t.length
 ·rw [if_pos e,Fb (by omega),e.1]
  by_cases e2:v=j
  ·rw [if_pos e2,if_pos ⟨rfl,e2⟩]
  ·rw [if_neg e2,if_neg (fun x=>e2 x.2)];rfl
 ·rw [if_neg e,if_neg (fun x=>e ⟨x.1,hi⟩)];rfl
theorem Al3 {w:Int} {D q:Nat} {t:List (List Int)} (hw:0<w) (h:Pl w (D+1) t) (hq:1≤q) {u v:Nat} (huv:u+v≤D):pc (xyT w D t q) u v%w=(pc t u v-tyX q u v)%w:=by
 unfold xyT
 split
 ·rename_i hqD
  have hx:=Ag (pc t q 0-1) w hw
  have p1:=h.put hx q 0
  rw [pcPut p1 (by omega),pcPut h (by omega),pcPut h (by omega)]
  by_cases e1:u=0∧v=q
  ·have e2:¬ (u=q∧v=0):=by omega
   rw [if_pos e1,if_neg (by omega),tyX,if_neg e2,if_pos e1,e1.1,e1.2,Int.emod_emod];rfl
  ·rw [if_neg e1]
   by_cases e2:u=q∧v=0
   ·rw [if_pos e2,tyX,if_pos e2,if_neg e1,e2.1,e2.2,Int.emod_emod];rfl
   ·rw [if_neg e2,tyX,if_neg e2,if_neg e1];simp
 ·rw [Ej (by omega),Int.sub_zero]
theorem Afx {p:Nat} {w:Int} {most:Nat} {A:List Int} {t:List (List Int)} {D:Nat} (hp:1≤p) (hw:0<w) (h:Pl w (D+1) t) {u v:Nat} (huv:u+v≤D):∀ k,pc (rsT p w most A t D k) u v%w=sm k (fun i=>(p:Int)^(most-i)*at' A i*(zz.p (pc t) (p^i) u v-tyX (p^i) u v))%w
 | 0=>by rw [rsT,Bc (by omega)];rfl
 | k+1=>by
  have hpk:1≤p^k:=Nat.pow_pos (by omega)
  rw [rsT,sadT,Bc (by omega),Int.emod_emod,sm]
  refine Bh (Afx hp hw h huv k) ?_
  rw [sscT,Bc (by omega),Int.emod_emod]
  refine Af ?_ ?_
  ·rw [Int.emod_emod,Af (Int.emod_emod _ _) rfl]
  ·rw [Al3 hw (Ub hw h _) hpk huv,Int.sub_emod,Aej _ _ _ (by omega),show p^k-1+1=p^k by omega,← Int.sub_emod]
theorem Adj {w:Int} {top n N:Nat} {R t:List (List Int)} (hw:0<w) (h:Pl w N t) (hn:n<N):∀ i,i<n→∀ u v,pc (lwI w top n R t i) u v=if 1≤u∧u≤i∧u+v=n then (0-pc R u v/(top:Int))%w else pc t u v
 | 0,_,u,v=>by rw [lwI,if_neg (by omega)]
 | i+1,hi,u,v=>by
  rw [lwI,pcPut (Qa hw h i) (by omega),Adj hw h hn i (by omega) u v]
  by_cases e:u=i+1∧v=n-(i+1)
  ·rw [if_pos e,if_pos (by omega),e.1,e.2]
  ·rw [if_neg e]
   by_cases e2:1≤u∧u≤i∧u+v=n
   ·rw [if_pos e2,if_pos (by omega)]
   ·rw [if_neg e2,if_neg (by omega)]
theorem Alb {p : Nat} {A : Nat → Int} {T : Nat → Nat → Int} (hT : TyZ p A T) (hA0 : A 0 = 1) (hp : 2 ≤ p) {m : Int} (hm : 1 < m) {most D : Nat} (hD : D ≤ 10) (hK : D < p ^ (most + 1)) (hK3 : most ≤ 3) {a : List Int} (ha : ∀ i, i ≤ most → at' a i % tyW p m most = A i % tyW p m most) :
  ∀ k,k+1≤D→(∀ u v,u+v≤k+1→pc (lwN p (tyW p m most) most (p^most) a D k) u v%(m*(p:Int))=T u v%(m*(p:Int)))∧(∀ u v,k+1<u+v→u+v≤D→pc (lwN p (tyW p m most) most (p^most) a D k) u v=0):=by
 have hpk:0<p^most:=Nat.pow_pos (by omega)
 have hmp:1<m*(p:Int):=by
  have:1*2<m*(p:Int):=Int.mul_lt_mul hm (by omega) (by omega) (by omega)
  omega
 have eW:tyW p m most=(p:Int)^most*(m*(p:Int)):=by rw [tyW,Int.natCast_pow];ac_rfl
 have hpi:0<(p:Int)^most:=Int.pow_pos (by omega)
 have hw:1<tyW p m most:=by
  have:1*(m*(p:Int))≤(p:Int)^most*(m*(p:Int)):=Int.mul_le_mul_of_nonneg_right (by omega) (by omega)
  rw [eW];omega
 have hdv:m*(p:Int)∣tyW p m most:=⟨(p:Int)^most,by rw [eW,Int.mul_comm]⟩
 intro k
 induction k with
 | zero=>
  intro h1
  have p0:Pl (tyW p m most) (D+1) (zeT D):=Vh (by omega) D
  have p1:Pl (tyW p m most) (D+1) (put2 (zeT D) 0 1 1):=p0.put (by omega) 0 1
  have e:∀ u v,u+v≤D→pc (lwN p (tyW p m most) most (p^most) a D 0) u v=if u+v=1 then 1 else 0:=fun u v huv=>by
   rw [lwN,pcPut p1 (by omega),pcPut p0 (by omega),zeT,Bc (by omega)]
   by_cases e1:u=1∧v=0
   ·rw [if_pos e1,if_pos (by omega)]
   ·rw [if_neg e1]
    by_cases e2:u=0∧v=1
    ·rw [if_pos e2,if_pos (by omega)]
    ·rw [if_neg e2,if_neg (by omega)]
  refine ⟨fun u v huv=>?_,fun u v h2 h3=>by rw [e u v h3,if_neg (by omega)]⟩
  rw [e u v (by omega)]
  congr 1
  by_cases hv:v=0
  ·rw [hv,(hT.ax u (by omega)).1,Nat.add_zero]
  ·rw [show u=0 by omega,(hT.ax v (by omega)).2,Nat.zero_add]
 | succ k ih=>
  intro h1
  obtain ⟨ih1,ih2⟩:=ih (by omega)
  have pj:=P7 (p:=p) (most:=most) (top:=p^most) (A:=a) (D:=D) hw k
  generalize hX:lwN p (tyW p m most) most (p^most) a D k=X at *
  have pF:Pl (tyW p m most) (k+2+1) (tab2 (k+2+1) (pc X)):=U2 pj (by omega)
  have hF:∀ u v,u+v≤k+2→pc (tab2 (k+2+1) (pc X)) u v=pc X u v:=fun u v h=>Bc (by omega)
  generalize hFF:tab2 (k+2+1) (pc X)=F at *
  have hR:∀ u v,u+v≤k+2→pc (rsT p (tyW p m most) most a F (k+2) (most+1)) u v%tyW p m most=sm (most+1) (fun i=>(p:Int)^(most-i)*at' a i*(zz.p (pc F) (p^i) u v-tyX (p^i) u v))%tyW p m most:=fun u v h=>Afx (by omega) (by omega) pF h (most+1)
  have pR:=Tu (p:=p) (most:=most) (A:=a) (t:=F) (D:=k+2) (show 0<tyW p m most by omega) (most+1)
  have eN:lwN p (tyW p m most) most (p^most) a D (k+1)=lwI (tyW p m most) (p^most) (k+2) (rsT p (tyW p m most) most a F (k+2) (most+1)) X (k+1):=by rw [lwN,hX,hFF]
  generalize hRR:rsT p (tyW p m most) most a F (k+2) (most+1)=R at *
  have hT0:T 0 0=0:=(hT.ax 0 (by omega)).1
  have key:∀ u v,u+v=k+2→pc R u v=(p:Int)^most*((0-T u v)%(m*(p:Int))):=fun u v huv=>by
   have g0:(if 0+0<k+2 then T 0 0 else 0)=0:=by rw [if_pos (by omega),hT0]
   have hFg:∀ u v,u+v≤k+2→pc F u v%(m*(p:Int))=(if u+v<k+2 then T u v else 0)%(m*(p:Int)):=fun u v h=>by
    rw [hF u v h]
    by_cases e:u+v<k+2
    ·rw [if_pos e];exact ih1 u v (by omega)
    ·rw [if_neg e,ih2 u v (by omega) (by omega)]
   have hterm:∀ i,i<most+1→((p:Int)^(most-i)*at' a i*(zz.p (pc F) (p^i) u v-tyX (p^i) u v))%tyW p m most=(if i=0 then 0 else (p:Int)^(most-i)*A i*(zz.p T (p^i) u v-tyX (p^i) u v))%tyW p m most:=fun i hi=>by
    cases i with
    | zero=>
     rw [if_pos rfl,Nat.pow_zero,Hu,hF u v (by omega),ih2 u v (by omega) (by omega),Ej (by omega)];simp
    | succ i=>
     rw [if_neg (by omega)]
     have hq:=G2 hp (i+1)
     obtain ⟨q,hq2⟩:∃ q,p^(i+1)=q+1:=⟨p^(i+1)-1,by omega⟩
     have e1:=Aka (n:=p) (p:=(p:Int)) (M:=m) rfl hFg (i+1) (show u+v≤k+2 by omega)
     have e2:=Yq (N:=k+2) (f:=fun u v=>if u+v<k+2 then T u v else 0) (g:=T) g0 hT0 (fun u v h=>if_pos h) q u v (by omega)
     rw [hq2,e2] at e1
     rw [hq2]
     have eW2:tyW p m most=(p:Int)^(most-(i+1))*(m*(p:Int)^(i+1+1)):=by
      rw [eW,Int.pow_succ (p:Int) (i+1),show (p:Int)^most=(p:Int)^(most-(i+1))*(p:Int)^(i+1) by rw [← Int.pow_add];congr 1;omega]
      ac_rfl
     rw [Af (Af rfl (ha (i+1) (by omega))) rfl]
     obtain ⟨z,hz⟩:=dvdC.2 e1
     refine dvdC.1 ⟨A (i+1)*z,?_⟩
     rw [eW2,← Int.mul_sub,show ∀ x y c:Int,x-c-(y-c)=x-y from fun x y c=>by omega,hz]
     ac_rfl
   have hlog:sm (most+1) (fun i=>(p:Int)^(most-i)*A i*(zz.p T (p^i) u v-tyX (p^i) u v))=0:=by
    have h3:(p:Int)^(3-most)≠0:=Int.pow_ne_zero (by omega)
    refine Kf h3 ?_
    have e:=hT.cutK hD hK3 hK hp (show u+v≤D by omega)
    have e1:∀ P:Nat→Int,∀ i,i<most+1→(p:Int)^(3-most)*((p:Int)^(most-i)*A i*P i)=(p:Int)^(3-i)*A i*P i:=fun P i hi=>by
     rw [show (p:Int)^(3-i)=(p:Int)^(3-most)*(p:Int)^(most-i) by rw [← Int.pow_add];congr 1;omega]
     ac_rfl
    rw [← Ch,As (e1 (fun i=>zz.p T (p^i) u v-tyX (p^i) u v)),As (g:=fun i=>(p:Int)^(3-i)*A i*zz.p T (p^i) u v+(0-1)*((p:Int)^(3-i)*A i*tyX (p^i) u v)) (fun i _=>by rw [Int.mul_sub];omega),Jm,Ch,e]
    omega
   have hs:=hR u v (by omega)
   rw [Be hterm,Bq,if_pos rfl] at hs
   rw [Bq,Nat.pow_zero,Hu,Ej (q:=1) (by omega),hA0,Int.mul_one,Int.sub_zero,Nat.sub_zero] at hlog
   have hs2:0+sm most (fun i=>if i+1=0 then 0 else (p:Int)^(most-(i+1))*A (i+1)*(zz.p T (p^(i+1)) u v-tyX (p^(i+1)) u v))=(p:Int)^most*(0-T u v):=by
    rw [As (g:=fun i=>(p:Int)^(most-(i+1))*A (i+1)*(zz.p T (p^(i+1)) u v-tyX (p^(i+1)) u v)) (fun i _=>by rw [if_neg (by omega)]),Int.mul_sub]
    omega
   have hb:=pR.num u v
   rw [hs2,Int.emod_eq_of_lt hb.1 hb.2,eW,Int.mul_emod_mul_of_pos _ _ hpi] at hs
   exact hs
  have hL:=Adj (top:=p^most) (R:=R) (show 0<tyW p m most by omega) pj (show k+2<D+1 by omega) (k+1) (by omega)
  rw [eN]
  refine ⟨fun u v huv=>?_,fun u v h2 h3=>by rw [hL,if_neg (by omega)];exact ih2 u v (by omega) h3⟩
  rw [hL]
  by_cases e:u+v≤k+1
  ·rw [if_neg (by omega)];exact ih1 u v e
  ·by_cases e2:1≤u∧1≤v
   ·rw [if_pos (by omega),key u v (by omega),Int.natCast_pow,Int.mul_ediv_cancel_left _ (by omega),Int.emod_emod_of_dvd _ hdv,Int.sub_emod,Int.emod_emod,← Int.sub_emod]
    congr 1;omega
   ·rw [if_neg (by omega),ih2 u v (by omega) (by omega)]
    congr 1
    by_cases hv:v=0
    ·rw [hv,(hT.ax u (by omega)).1,if_neg (by omega)]
    ·rw [show u=0 by omega,(hT.ax v (by omega)).2,if_neg (by omega)]
theorem Pp {p:Nat} {m:Int} {l A:List Int} {k:Nat}:∀ i,nuP p m l A k i%m=sm i (fun j=>(p:Int)^(k-1-j)*at' A j*at' l (k-j-1)^(p^j))%m
 | 0=>rfl
 | i+1=>by
  rw [nuP,Int.emod_emod,sm]
  refine Bh (Pp i) ?_
  refine Af ?_ (Int.emod_emod _ _)
  rw [Int.emod_emod]
  exact Af (Int.emod_emod _ _) rfl
theorem Uh {p:Nat} {m:Int} {l:List Int} (hm:0<m):∀ k,k≤3→at' (nuL p m l 3) k%m=tyA p (at' l 0) (at' l 1) (at' l 2) k%m:=by
 have f:=fun k=>(Gr (p:=p) hm l k).1
 have e0:∀ k,at' (nuL p m l k) 0%m=1%m:=fun k=>by
  induction k with
  | zero=>show at' [1%m] 0%m=_;exact Int.emod_emod _ _
  | succ k ih=>rw [nuL,Qu,if_pos (by have:=f k;omega)];exact ih
 have hs:∀ k i,i<k+1→at' (nuL p m l (k+1)) i=at' (nuL p m l k) i:=fun k i h=>by rw [nuL,Qu,if_pos (by have:=f k;omega)]
 have ht:∀ k,at' (nuL p m l (k+1)) (k+1)=nuP p m l (nuL p m l k) (k+1) (k+1):=fun k=>by
  have:=f k
  rw [nuL,Qu,if_neg (by omega),if_pos (by omega)]
 have e1:at' (nuL p m l 1) 1%m=at' l 0%m:=by
  rw [ht 0,Pp]
  show (0+(p:Int)^0*at' (nuL p m l 0) 0*at' l 0^(p^0))%m=_
  rw [Int.zero_add,Int.pow_zero,Int.one_mul,Af (e0 0) rfl,Int.one_mul,Nat.pow_zero,Int.pow_succ,Int.pow_zero,Int.one_mul]
 have e2:at' (nuL p m l 2) 2%m=((p:Int)*at' l 1+at' l 0*at' l 0^p)%m:=by
  rw [ht 1,Pp]
  show (0+(p:Int)^1*at' (nuL p m l 1) 0*at' l 1^(p^0)+(p:Int)^0*at' (nuL p m l 1) 1*at' l 0^(p^1))%m=_
  rw [Int.zero_add,Nat.pow_zero,Nat.pow_one,Int.pow_zero,Int.one_mul]
  refine Bh ?_ (Af e1 rfl)
  rw [Int.pow_succ,Int.pow_zero,Int.one_mul,Int.pow_succ,Int.pow_zero,Int.one_mul]
  refine Af ?_ rfl
  rw [Af rfl (e0 1),Int.mul_one]
 intro k hk
 have hk':k=0∨k=1∨k=2∨k=3:=by omega
 rcases hk' with rfl|rfl|rfl|rfl
 ·exact e0 3
 ·rw [hs 2 1 (by omega),hs 1 1 (by omega),e1];rfl
 ·rw [hs 2 2 (by omega),e2];rfl
 ·rw [ht 2,Pp]
  show (0+(p:Int)^2*at' (nuL p m l 2) 0*at' l 2^(p^0)+(p:Int)^1*at' (nuL p m l 2) 1*at' l 1^(p^1)+(p:Int)^0*at' (nuL p m l 2) 2*at' l 0^(p^2))%m=((p:Int)^2*at' l 2+(p:Int)*at' l 0*at' l 1^p+((p:Int)*at' l 1+at' l 0*at' l 0^p)*at' l 0^(p^2))%m
  rw [Int.zero_add,Nat.pow_zero,Nat.pow_one,Int.pow_zero,Int.one_mul]
  refine Bh (Bh ?_ ?_) (Af e2 rfl)
  ·rw [Int.pow_succ (at' l 2),Int.pow_zero,Int.one_mul]
   refine Af ?_ rfl
   rw [Af rfl (e0 2),Int.mul_one]
  ·rw [Int.pow_succ,Int.pow_zero,Int.one_mul]
   refine Af (Af rfl ?_) rfl
   rw [hs 1 1 (by omega)];exact e1
def tyF (p:Nat) (m:Int) (l:List Int) (d:Nat):List (List Int):=tyM m d (tyT p (at' (ty3 l)))
theorem Uq {p:Nat} (hp:p=2∨p=3∨p=5∨p=7) {m:Int} (hm:1<m) {D k:Nat} (h1:1≤D) (hD:D≤10) (hk2:D<p^(k+1)) (hk3:k≤3) (l:List Int):tyL p m l D k=tyF p m l D:=by
 have hpk:0<p^k:=Nat.pow_pos (by omega)
 have hpi:0<((p^k:Nat):Int):=by omega
 have hmp:m<m*(p:Int):=by
  have:m*1<m*(p:Int):=Int.mul_lt_mul_of_pos_left (by omega) (by omega)
  omega
 have hw:1<tyW p m k:=by
  have:1*(m*(p:Int))≤((p^k:Nat):Int)*(m*(p:Int)):=Int.mul_le_mul_of_nonneg_right (by omega) (by omega)
  rw [tyW,show m*((p^k:Nat):Int)*(p:Int)=((p^k:Nat):Int)*(m*(p:Int)) by ac_rfl]
  omega
 have hA:∀ i,i≤k→at' (nuL p (tyW p m k) (ty3 l) 3) i%tyW p m k=tyA p (at' (ty3 l) 0) (at' (ty3 l) 1) (at' (ty3 l) 2) i%tyW p m k:=fun i hi=>Uh (by omega) i (by omega)
 have h:=(Alb (Pn hp (at' (ty3 l))) rfl (by omega) hm hD hk2 hk3 hA (D-1) (by omega)).1
 have pl:=P7 (p:=p) (most:=k) (top:=p^k) (A:=nuL p (tyW p m k) (ty3 l) 3) (D:=D) hw (D-1)
 rw [tyL]
 refine Ais (Alm (by omega) pl) (Acv (by omega) _ _) fun u v huv=>?_
 rw [Acp (by omega) pl,tyF,D5 huv,Int.emod_emod,Int.emod_emod]
 have e:=congrArg (· % m) (h u v (by omega))
 simp only [Int.emod_emod_of_dvd _ (show m∣m*(p:Int) from ⟨p,rfl⟩)] at e
 exact e
theorem Akc {p:Nat} (hp:2≤p) {j k:Nat} (h:p^j=p^k):j=k:=by
 rcases Nat.lt_trichotomy j k with e|e|e
 ·have:=Nat.pow_lt_pow_right (a:=p) (by omega) e;omega
 ·exact e
 ·have:=Nat.pow_lt_pow_right (a:=p) (by omega) e;omega
def stS (p d:Nat) (f:Nat→Int):Nat→List Int
 | 0=>tab (d+1) (fun _=>0)
 | k+1=>(stS p d f k).set (p^k) (f k)
theorem Dm (p d:Nat) (f:Nat→Int):∀ k,(stS p d f k).length=d+1
 | 0=>Ae _ _
 | k+1=>by rw [stS,List.length_set,Dm p d f k]
theorem Qe {p d:Nat} {f:Nat→Int} {w:Int} (hw:0<w) (hf:∀ k,0≤f k∧f k<w):∀ k,∀ x∈stS p d f k,0≤x∧x<w
 | 0,x,hx=>by
  obtain ⟨i,_,rfl⟩:=D8.1 hx
  omega
 | k+1,x,hx=>by
  rcases List.mem_or_eq_of_mem_set hx with h|h
  ·exact Qe hw hf k x h
  ·rw [h];exact hf k
theorem Aer {p d:Nat} {f:Nat→Int}:∀ k i,(∀ j,j<k→p^j≤d)→i≤d→(∀ j,j<k→i≠p^j)→at' (stS p d f k) i=0
 | 0,i,_,hi,_=>by rw [stS,Bl (by omega)]
 | k+1,i,hj,hi,hn=>by
  rw [stS,Fb (by rw [Dm];have:=hj k (by omega);omega),if_neg (hn k (by omega))]
  exact Aer k i (fun j h=>hj j (by omega)) hi fun j h=>hn j (by omega)
theorem Adk {p d:Nat} (hp:2≤p) {f:Nat→Int}:∀ k j,(∀ j,j<k→p^j≤d)→j<k→at' (stS p d f k) (p^j)=f j
 | 0,j,_,h=>by omega
 | k+1,j,hj,h=>by
  rw [stS,Fb (by rw [Dm];have:=hj k (by omega);omega)]
  by_cases e:j=k
  ·rw [e,if_pos rfl]
  ·rw [if_neg (fun x=>e (Akc hp x))]
   exact Adk hp k j (fun j h=>hj j (by omega)) (by omega)
theorem Afm {p d K:Nat} (hp:2≤p) (hK:p^K≤d) {w:Int} (hw:0<w) {f B:Nat→Int} (hf:∀ k,0≤f k∧f k<w) (hB:∀ k,k≤K→f k%w=B k%w):TyL p w d K B (stS p d f (K+1)):=by
 have hj:∀ j,j<K+1→p^j≤d:=fun j h=>Nat.le_trans (Nat.pow_le_pow_right (by omega) (by omega)) hK
 exact ⟨Dm _ _ _ _,Qe hw hf _,fun k hk=>by rw [Adk hp _ _ hj (by omega),hB k hk],fun i hi h=>Aer _ _ hj hi fun j h2=>h j (by omega)⟩
def lgF (p:Nat) (w:Int) (l:List Int) (k:Nat):Int:=at' (nuL p w (ty3 l) 3) k*(((p:Int)%w)^(p^k-1-k)%w)%w
theorem Amv {p d K:Nat} (hp:2≤p) (hK:p^K≤d) (hK3:K≤3) {w:Int} (hw:1<w) (l:List Int):TyL p w d K (fun k=>tyA p (at' (ty3 l) 0) (at' (ty3 l) 1) (at' (ty3 l) 2) k*(p:Int)^(p^k-1-k)) (stS p d (lgF p w l) (K+1)):=
 Afm hp hK (by omega) (fun k=>Ag _ w (by omega)) fun k hk=>by
  rw [lgF,Int.emod_emod]
  refine Af (Uh (by omega) k (by omega)) ?_
  rw [Int.emod_emod]
  exact Dv _ _ _
theorem Um {p : Nat} (hp : p = 2 ∨ p = 3 ∨ p = 5 ∨ p = 7) {m : Int} (hm : 1 < m) {d K : Nat} (h1 : 1 ≤ d) (hd : d ≤ 10) (hK : p ^ K ≤ d) (hK2 : d < p ^ (K + 1)) (hK3 : K ≤ 3) (l : List Int) {S : Nat → Nat → Int} (hS : ∀ u v, u + v ≤ d → S u v % (m * (p : Int) ^ (d - 1)) = sumF (stS p d (lgF p (m * (p : Int) ^ (d - 1)) l) (K + 1)) u v % (m * (p : Int) ^ (d - 1))) :
  tab2 (d+1) (fun u v=>pc (lawT (m*(p:Int)^(d-1)) (stS p d (lgF p (m*(p:Int)^(d-1)) l) (K+1)) d S) u v/(p:Int)^(u+v-1)%m)=tyF p m l d∧IsLw m (d+1) (pc (tyF p m l d)):=by
 have hpd:0<(p:Int)^(d-1):=Int.pow_pos (by omega)
 have hw:1<m*(p:Int)^(d-1):=by
  have:m*1≤m*(p:Int)^(d-1):=Int.mul_le_mul_of_nonneg_left (by omega) (by omega)
  omega
 have hl:=Amv (d:=d) (K:=K) (show 2≤p by omega) hK hK3 hw l
 have hC:=hl.crd (show 2≤p by omega) hw h1 (by show ((1:Int)*(p:Int)^(p^0-1-0))%_=_;rw [Nat.pow_zero,Int.pow_zero];rfl)
 have hT:=Pn hp (at' (ty3 l))
 have hG:=fun u v (h:u+v≤d)=>Agv hT rfl (show 2≤p by omega) h1 hd hK hK2 hK3 hw hl hS h
 have hb:=(Re (show 0<m*(p:Int)^(d-1) by omega) (stS p d (lgF p (m*(p:Int)^(d-1)) l) (K+1)) d S).num 0 0
 refine ⟨A5 fun u v huv=>Ajx (by omega) (hT.ax 0 (by omega)).1 hG hb (by omega),Al9 hT (by omega) hm h1 hd hG (Ahi hC hS)⟩
theorem E0 {l:List Int} (h:l.length≤3):(ty3 l).length=3:=by rw [ty3,List.length_append,List.length_replicate];omega
theorem Hw {l:List Int} (i:Nat):at' (ty3 l) i=at' l i:=by
 rw [ty3,at',at',List.getD_eq_getElem?_getD,List.getD_eq_getElem?_getD]
 by_cases h:i<l.length
 ·rw [List.getElem?_append_left h]
 ·rw [List.getElem?_append_right (by omega),List.getElem?_eq_none (l:=l) (by omega),List.getElem?_replicate]
  split <;> rfl
theorem Akz {p:Nat} (hp:p=2∨p=3∨p=5∨p=7) {k:Nat} (hk:p^(k+1)≤10) {v v':Nat→Int} (h:∀ i,i<k→v i=v' i) {i j:Nat} (hij:i+j≤p^(k+1)):tyT p v i j-tyT p v' i j=(v' k-v k)*tyC (p^(k+1)) i j:=by
 have e:trn v k=trn v' k:=by
  funext i
  rw [trn,trn]
  split
  ·rename_i hi;exact h i hi
  ·rfl
 rw [Hz hp hk v hij,Hz hp hk v' hij,e,Int.sub_mul]
 omega
end Go.Proofs.YtapdekacpecgiaaGreat
