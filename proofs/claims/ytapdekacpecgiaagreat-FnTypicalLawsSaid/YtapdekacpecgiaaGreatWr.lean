import Derived.Test.YtapdekacpecgiaaGreatPa
import Derived.Test.YtapdekacpecgiaaGreatPa
import Derived.Test.YtapdekacpecgiaaGreatPa
namespace Go.Proofs.YtapdekacpecgiaaGreat
open Go.RowKit
set_option linter.unusedSimpArgs false
set_option linter.unusedVariables false
set_option linter.unusedSectionVars false
set_option maxRecDepth 20000
set_option maxHeartbeats 1000000
def gS (x:Int) (n k:Nat):Int:=if k%n=0 then x^(k/n) else 0
theorem Jx {x y m:Int} (h:x%m=y%m) (k:Nat):x^k%m=y^k%m:=by
 rw [← Dv x,← Dv y,h]
theorem Ag3 {m x y:Int} {d n:Nat} (h:x%m=y%m):eqm m d (gS x n) (gS y n):=fun k _=>by
 unfold gS
 split
 ·exact Jx h _
 ·rfl
def Gh (d:Nat) (f G:Nat→Int):Prop:=∀ k,k≤d→(k:Int)*f k=sm k (fun i=>G (i+1)*f (k-1-i))
theorem Gh.congr {d:Nat} {f g G H:Nat→Int} (h:Gh d f G) (hf:∀ k,k≤d→f k=g k) (hG:∀ k,1≤k→k≤d→G k=H k):Gh d g H:=fun k hk=>by
 rw [← hf k hk,h k hk]
 exact As fun i hi=>by rw [hG (i+1) (by omega) (by omega),hf (k-1-i) (by omega)]
theorem Am6 (G f:Nat→Int) (k:Nat):cv (fun i=>if i=0 then 0 else G i) f k=sm k (fun i=>G (i+1)*f (k-1-i)):=by
 rw [cv,Bq,if_pos rfl,Int.zero_mul,Int.zero_add]
 refine As fun i hi=>?_
 rw [if_neg (by omega),show k-(i+1)=k-1-i by omega]
theorem Amy {d:Nat} {f G:Nat→Int}:Gh d f G↔∀ k,k≤d→(k:Int)*f k=cv (fun i=>if i=0 then 0 else G i) f k:=
 forall_congr' fun k=>by rw [Am6]
theorem Yv {f f' g g':Nat→Int} {k:Nat} (h1:∀ i,i≤k→f i=f' i) (h2:∀ i,i≤k→g i=g' i):cv f g k=cv f' g' k:=
 As fun i hi=>by rw [h1 i (by omega),h2 (k-i) (by omega)]
theorem Alk (f g:Nat→Int) (k:Nat):(k:Int)*cv f g k=cv (fun i=>(i:Int)*f i) g k+cv f (fun i=>(i:Int)*g i) k:=by
 unfold cv
 rw [← Ch,← Jm]
 refine As fun i hi=>?_
 have:(k:Int)=(i:Int)+((k-i:Nat):Int):=by omega
 show (k:Int)*(f i*g (k-i))=(i:Int)*f i*g (k-i)+f i*(((k-i:Nat):Int)*g (k-i))
 rw [this,Int.add_mul,Int.mul_assoc,Int.mul_left_comm (f i)]
theorem Gh.mul {d:Nat} {f g G H:Nat→Int} (h1:Gh d f G) (h2:Gh d g H):Gh d (cv f g) (fun k=>G k+H k):=by
 rw [Amy] at *
 intro k hk
 rw [Alk,Yv (fun i hi=>h1 i (by omega)) (fun i _=>rfl),Yv (f:=f) (fun i _=>rfl) (fun i hi=>h2 i (by omega))]
 have e:(fun i=>if i=0 then 0 else G i+H i)=(fun i=>(if i=0 then 0 else G i)+(if i=0 then 0 else H i)):=by
  funext i;split <;> simp
 rw [e,Wb]
 show _=cv (fun i=>if i=0 then 0 else G i) (cv f g) k+cv (fun i=>if i=0 then 0 else H i) (cv f g) k
 have e1:cv f (cv (fun i=>if i=0 then 0 else H i) g)=cv (fun i=>if i=0 then 0 else H i) (cv f g):=by rw [← Id,Qi f,Id]
 rw [Id,e1]
theorem Gh.one (d:Nat):Gh d oneF (fun _=>0):=fun k _=>by
 rw [Az (fun i _=>Int.zero_mul _)]
 unfold oneF
 split
 ·rename_i h;subst h;rfl
 ·exact Int.mul_zero _
theorem Gh.pw {d:Nat} {f G:Nat→Int} (h:Gh d f G):∀ n:Nat,Gh d (pwF f n) (fun k=>(n:Int)*G k)
 | 0=>(Gh.one d).congr (fun _ _=>rfl) (fun k _ _=>by simp)
 | n + 1 => ((Gh.pw h n).mul h).congr (fun _ _ => rfl) (fun k _ _ => by
   rw [show ((n+1:Nat):Int)=(n:Int)+1 by omega,Int.add_mul,Int.one_mul])
theorem Gh.unique {d:Nat} {f g G H:Nat→Int} (h1:Gh d f G) (h2:Gh d g H) (hG:∀ k,1≤k→k≤d→G k=H k) (h0:f 0=g 0):∀ k,k≤d→f k=g k:=by
 intro k
 induction k using Nat.strongRecOn with
 | _ k ih=>
  intro hk
  rcases Nat.eq_zero_or_pos k with e|e
  ·subst e;exact h0
  ·have e1 : (k : Int) * f k = (k : Int) * g k := by
    rw [h1 k hk,h2 k hk]
    exact As fun i hi=>by rw [hG (i+1) (by omega) (by omega),ih (k-1-i) (by omega) (by omega)]
   exact Int.eq_of_mul_eq_mul_left (by omega) e1
theorem Gh.ghosts {d:Nat} {f G H:Nat→Int} (h0:f 0=1) (h1:Gh d f G) (h2:Gh d f H):∀ k,1≤k→k≤d→G k=H k:=by
 intro k
 induction k using Nat.strongRecOn with
 | _ k ih=>
  intro hk1 hk
  obtain ⟨n,rfl⟩:∃ n,k=n+1:=⟨k-1,by omega⟩
  have e:=(h1 (n+1) hk).symm.trans (h2 (n+1) hk)
  rw [sm,sm,show n+1-1-n=0 by omega,h0,Int.mul_one,Int.mul_one,
   As (g:=fun i=>H (i+1)*f (n+1-1-i)) (fun i hi=>by rw [ih (i+1) (by omega) (by omega) (by omega)])] at e
  exact Int.add_left_cancel e
def gH (x:Int) (n k:Nat):Int:=if k%n=0 then (n:Int)*x^(k/n) else 0
theorem Gh.geo (d:Nat) (x:Int) {n:Nat} (hn:0<n):Gh d (gS x n) (gH x n):=by
 intro k _
 by_cases hk:k%n=0
 ·obtain ⟨q,rfl⟩:=Nat.dvd_of_mod_eq_zero hk
  have key:∀ j,j≤q→sm (n*j) (fun i=>gH x n (i+1)*gS x n (n*q-1-i))=((n*j:Nat):Int)*x^q:=by
   intro j
   induction j with
   | zero=>intro _;simp [sm]
   | succ j ih=>
    intro hj
    have h2:=ih (by omega)
    obtain ⟨p,hp⟩:∃ p,n=p+1:=⟨n-1,by omega⟩
    have e1:n*(j+1)=n*j+p+1:=by rw [Nat.mul_succ];omega
    rw [e1,sm,Df (c:=n*j) (by omega),h2]
    ·have hle:n*(j+1)≤n*q:=Nat.mul_le_mul_left n hj
     have e2:n*j+p+1=n*(j+1):=e1.symm
     have e3:n*q-1-(n*j+p)=n*(q-(j+1)):=by rw [Nat.mul_sub];omega
     rw [e2,e3,gH,gS,Nat.mul_mod_right,if_pos rfl,Nat.mul_mod_right,if_pos rfl,Nat.mul_div_cancel_left _ hn,Nat.mul_div_cancel_left _ hn]
     rw [Int.mul_assoc,← Int.pow_add,show j+1+(q-(j+1))=q by omega,← Int.add_mul]
     congr 1
    ·intro i h3 h4
     have:¬ (i+1)%n=0:=by
      intro h0
      obtain ⟨c,hc⟩:=Nat.dvd_of_mod_eq_zero h0
      have h5:n*j<n*c:=by omega
      have h6:n*c<n*(j+1):=by rw [Nat.mul_succ];omega
      have:=Nat.lt_of_mul_lt_mul_left h5
      have:=Nat.lt_of_mul_lt_mul_left h6
      omega
     rw [gH,if_neg this,Int.zero_mul]
  rw [key q (Nat.le_refl q),gS,Nat.mul_mod_right,if_pos rfl,Nat.mul_div_cancel_left _ hn]
 ·rw [gS,if_neg hk,Int.mul_zero,Az]
  intro i hi
  by_cases h1:(i+1)%n=0
  ·have : ¬ (k - 1 - i) % n = 0 := by
    intro h2
    apply hk
    have:k=(i+1)+(k-1-i):=by omega
    rw [this,Nat.add_mod,h1,h2]
    simp
   rw [gS,if_neg this,Int.mul_zero]
  ·rw [gH,if_neg h1,Int.zero_mul]
theorem Ql (x:Int) {n:Nat}:gS x n 0=1:=by simp [gS]
theorem Vj (x:Int) {n k:Nat} (h0:0<k) (h:k<n):gS x n k=0:=by
 rw [gS,Nat.mod_eq_of_lt h,if_neg (by omega)]
theorem Ai3 (x:Int) {n:Nat} (hn:0<n):gS x n n=x:=by
 rw [gS,Nat.mod_self,if_pos rfl,Nat.div_self hn,Int.pow_one]
def oZ (x:Nat→Int):Nat→Nat→Int
 | 0=>oneF
 | c+1=>cv (oZ x c) (gS (x c) (c+1))
theorem Yi (x:Nat→Int):∀ c,oZ x c 0=1
 | 0=>rfl
 | c+1=>by rw [oZ,cv,sm,sm,Yi x c,Ql];rfl
theorem Adt (x:Nat→Int) {c k:Nat} (h:k≤c):oZ x (c+1) k=oZ x c k:=by
 rw [oZ,cv,sm,show k-k=0 by omega,Ql,Int.mul_one,Az,Int.zero_add]
 intro i hi
 rw [Vj _ (by omega) (by omega),Int.mul_zero]
theorem Qt (x:Nat→Int) (c:Nat):oZ x (c+1) (c+1)=oZ x c (c+1)+x c:=by
 rw [oZ,cv,sm,Nat.sub_self,Ql,Int.mul_one,Int.add_comm,Cd (p:=0) (by omega)]
 ·rw [Yi,Int.one_mul,Nat.sub_zero,Ai3 _ (by omega)]
 ·intro i h1 h2
  rw [Vj _ (by omega) (by omega),Int.mul_zero]
theorem Qz (x:Nat→Int) {c:Nat}:∀ {e k:Nat},k≤c→oZ x (c+e) k=oZ x c k
 | 0,k,_=>rfl
 | e+1,k,h=>by rw [← Nat.add_assoc,Adt x (by omega),Qz x h]
theorem Yd {x y:Nat→Int}:∀ {c:Nat},(∀ i,i<c→x i=y i)→oZ x c=oZ y c
 | 0,_=>rfl
 | c+1,h=>by rw [oZ,oZ,Yd (fun i hi=>h i (by omega)),h c (by omega)]
theorem Aa1 (f:Nat→Int) (h0:f 0=1):∀ c,∃ x,∀ k,k≤c→oZ x c k=f k
 | 0 => ⟨fun _ => 0, fun k hk => by
   obtain rfl:k=0:=by omega
   rw [h0];rfl⟩
 | c+1=>by
  obtain ⟨x,hx⟩:=Aa1 f h0 c
  refine ⟨fun i=>if i=c then f (c+1)-oZ x c (c+1) else x i,fun k hk=>?_⟩
  have e:oZ (fun i=>if i=c then f (c+1)-oZ x c (c+1) else x i) c=oZ x c:=Yd fun i hi=>if_neg (by omega)
  rcases Nat.lt_or_ge c k with h|h
  ·obtain rfl:k=c+1:=by omega
   rw [Qt,e,if_pos rfl];omega
  ·rw [Adt _ h,e];exact hx k h
theorem Vy {m:Int} {d:Nat} {x y:Nat→Int}:∀ {c:Nat},(∀ i,i<c→x i%m=y i%m)→eqm m d (oZ x c) (oZ y c)
 | 0,_=>eqm.rfl'
 | c+1,h=>(Vy (fun i hi=>h i (by omega))).cv (Ag3 (h c (by omega)))
theorem Al8 {m:Int} {d:Nat} {x y:Nat→Int} (h:eqm m d (oZ x d) (oZ y d)):∀ i,i<d→x i%m=y i%m:=by
 intro i
 induction i using Nat.strongRecOn with
 | _ i ih=>
  intro hi
  have h1:=h (i+1) (by omega)
  obtain ⟨e,rfl⟩:∃ e,d=i+1+e:=⟨d-(i+1),by omega⟩
  rw [Qz x (Nat.le_refl _),Qz y (Nat.le_refl _),Qt,Qt] at h1
  have h2:=Vy (d:=i+1+e) (c:=i) (fun j hj=>ih j hj (by omega)) (i+1) (by omega)
  have:=Q5 h1 h2
  rwa [show oZ x i (i+1)+x i-oZ x i (i+1)=x i by omega,show oZ y i (i+1)+y i-oZ y i (i+1)=y i by omega] at this
def gZ (x:Nat→Int) (c k:Nat):Int:=sm c (fun i=>gH (x i) (i+1) k)
theorem Gh.oZ (d:Nat) (x:Nat→Int):∀ c,Gh d (oZ x c) (gZ x c)
 | 0=>Gh.one d
 | c+1=>(Gh.oZ d x c).mul (Gh.geo d (x c) (by omega))
def pS (d:Nat) (x y:Nat→Int) (i j:Nat) (out:Nat→Int):Nat→Int:=
 if (i+1)/Nat.gcd (i+1) (j+1)*(j+1)≤d then
  cv out (pwF (gS (x i^((i+1)/Nat.gcd (i+1) (j+1)*(j+1)/(i+1))*y j^((i+1)/Nat.gcd (i+1) (j+1)*(j+1)/(j+1))) ((i+1)/Nat.gcd (i+1) (j+1)*(j+1))) (Nat.gcd (i+1) (j+1)))
 else out
def pI (d:Nat) (x y:Nat→Int) (i:Nat) (out:Nat→Int):Nat→Nat→Int
 | 0=>out
 | j+1=>pS d x y i j (pI d x y i out j)
def pO (d:Nat) (x y:Nat→Int):Nat→Nat→Int
 | 0=>oneF
 | i+1=>pI d x y i (pO d x y i) d
theorem Rx (i j:Nat) (hi:0<i) (hj:0<j):i/Nat.gcd i j*j=Nat.lcm i j∧Nat.gcd i j*Nat.lcm i j=i*j:=by
 constructor
 ·rw [Nat.lcm,Nat.mul_comm i j,Nat.mul_comm (i/_) j,Nat.mul_div_assoc _ (Nat.gcd_dvd_left i j)]
 ·exact Nat.gcd_mul_lcm i j
theorem Ad8 (x y : Int) {i j k d : Nat} (hi : 0 < i) (hj : 0 < j) (h1 : 1 ≤ k) (hk : k ≤ d) :
  (if i/Nat.gcd i j*j≤d then (Nat.gcd i j:Int)*gH (x^(i/Nat.gcd i j*j/i)*y^(i/Nat.gcd i j*j/j)) (i/Nat.gcd i j*j) k else 0)=gH x i k*gH y j k:=by
 obtain ⟨e1,e2⟩:=Rx i j hi hj
 rw [e1]
 by_cases h:i∣k∧j∣k
 ·have hl:Nat.lcm i j∣k:=Nat.lcm_dvd h.1 h.2
  have hle:Nat.lcm i j≤d:=Nat.le_trans (Nat.le_of_dvd (by omega) hl) hk
  rw [if_pos hle,gH,gH,gH,if_pos (Nat.mod_eq_zero_of_dvd hl),if_pos (Nat.mod_eq_zero_of_dvd h.1),if_pos (Nat.mod_eq_zero_of_dvd h.2)]
  have hlp:0<Nat.lcm i j:=Nat.lcm_pos hi hj
  obtain ⟨c,rfl⟩:=hl
  obtain ⟨a,ha⟩:=Nat.dvd_lcm_left i j
  obtain ⟨b,hb⟩:=Nat.dvd_lcm_right i j
  rw [Nat.mul_div_cancel_left _ hlp]
  have f1:Nat.lcm i j/i=a:=by
   conv=>lhs;rw [ha]
   exact Nat.mul_div_cancel_left _ hi
  have f2:Nat.lcm i j/j=b:=by
   conv=>lhs;rw [hb]
   exact Nat.mul_div_cancel_left _ hj
  have f3:Nat.lcm i j*c/i=a*c:=by
   conv=>lhs;rw [ha,Nat.mul_assoc]
   exact Nat.mul_div_cancel_left _ hi
  have f4:Nat.lcm i j*c/j=b*c:=by
   conv=>lhs;rw [hb,Nat.mul_assoc]
   exact Nat.mul_div_cancel_left _ hj
  rw [f1,f2,f3,f4,Int.mul_pow,← Int.pow_mul,← Int.pow_mul,← Int.mul_assoc,show (Nat.gcd i j:Int)*(Nat.lcm i j:Int)=(i:Int)*(j:Int) by rw [← Int.natCast_mul,e2,Int.natCast_mul]]
  generalize x^(a*c)=u
  generalize y^(b*c)=v
  rw [Int.mul_assoc (i:Int),Int.mul_assoc (i:Int),Int.mul_left_comm (j:Int)]
 ·have hr : gH x i k * gH y j k = 0 := by
   rcases Classical.not_and_iff_not_or_not.1 h with h|h
   ·rw [gH,if_neg (fun e=>h (Nat.dvd_of_mod_eq_zero e)),Int.zero_mul]
   ·rw [gH,gH,if_neg (c:=k%j=0) (fun e=>h (Nat.dvd_of_mod_eq_zero e)),Int.mul_zero]
  rw [hr]
  split
  ·rw [gH,if_neg,Int.mul_zero]
   intro e
   have hl:=Nat.dvd_of_mod_eq_zero e
   exact h ⟨Nat.dvd_trans (Nat.dvd_lcm_left i j) hl,Nat.dvd_trans (Nat.dvd_lcm_right i j) hl⟩
  ·rfl
theorem Gh.pO (d:Nat) (x y:Nat→Int):∀ i,i≤d→Gh d (pO d x y i) (fun k=>gZ x i k*gZ y d k)
 | 0,_=>(Gh.one d).congr (fun _ _=>rfl) (fun k _ _=>by rw [show gZ x 0 k=0 from rfl,Int.zero_mul])
 | i+1,hi=>by
  have key:∀ j,j≤d→Gh d (pI d x y i (Go.Proofs.YtapdekacpecgiaaGreat.pO d x y i) j) (fun k=>gZ x i k*gZ y d k+gH (x i) (i+1) k*gZ y j k):=by
   intro j
   induction j with
   | zero=>intro _;exact (Gh.pO d x y i (by omega)).congr (fun _ _=>rfl) (fun k _ _=>by rw [show gZ y 0 k=0 from rfl,Int.mul_zero,Int.add_zero])
   | succ j ih=>
    intro hj
    have h1:=ih (by omega)
    rw [pI,pS]
    have one:=fun k h1 h2=>Ad8 (x i) (y j) (i:=i+1) (j:=j+1) (k:=k) (d:=d) (by omega) (by omega) h1 h2
    have hz:∀ k,gZ y (j+1) k=gZ y j k+gH (y j) (j+1) k:=fun k=>rfl
    have hp:0<(i+1)/Nat.gcd (i+1) (j+1)*(j+1):=by
     rw [(Rx (i+1) (j+1) (by omega) (by omega)).1];exact Nat.lcm_pos (by omega) (by omega)
    split
    ·rename_i hle
     refine (h1.mul ((Gh.geo d _ hp).pw _)).congr (fun _ _=>rfl) (fun k g1 g2=>?_)
     have:=one k g1 g2
     rw [if_pos hle] at this
     rw [this,hz,Int.mul_add,Int.add_assoc]
    ·rename_i hle
     refine h1.congr (fun _ _=>rfl) (fun k g1 g2=>?_)
     have:=one k g1 g2
     rw [if_neg hle] at this
     rw [hz,Int.mul_add,← this,Int.add_zero]
  rw [Go.Proofs.YtapdekacpecgiaaGreat.pO]
  refine (key d (Nat.le_refl d)).congr (fun _ _=>rfl) (fun k _ _=>?_)
  rw [show gZ x (i+1) k=gZ x i k+gH (x i) (i+1) k from rfl,Int.add_mul]
def Rep (m:Int) (d:Nat) (a:List Int) (G:Nat→Int):Prop:=numL m d a∧∃ f:Nat→Int,f 0=1∧eqm m d (at' a) f∧Gh d f G
theorem Xd {m:Int} {d:Nat} {a b:List Int} (ha:numL m d a) (hb:numL m d b) (hm:0<m) (h:eqm m d (at' a) (at' b)):a=b:=by
 rw [← Ki a,← Ki b,ha.1,hb.1]
 refine Bn fun i hi=>?_
 have h1:=h i (by omega)
 have h2:=A4 ha.2 hm i
 have h3:=A4 hb.2 hm i
 rwa [Int.emod_eq_of_lt h2.1 h2.2,Int.emod_eq_of_lt h3.1 h3.2] at h1
theorem Rep.unique {m:Int} {d:Nat} {a b:List Int} {G H:Nat→Int} (hm:0<m) (h1:Rep m d a G) (h2:Rep m d b H) (h:∀ k,1≤k→k≤d→G k=H k):a=b:=by
 obtain ⟨ha,f,f0,f1,f2⟩:=h1
 obtain ⟨hb,g,g0,g1,g2⟩:=h2
 refine Xd ha hb hm (f1.trans (eqm.trans (fun k hk=>?_) g1.symm))
 rw [Gh.unique f2 g2 h (f0.trans g0.symm) k hk]
theorem Rep.congr {m:Int} {d:Nat} {a:List Int} {G H:Nat→Int} (h1:Rep m d a G) (h:∀ k,1≤k→k≤d→G k=H k):Rep m d a H:=by
 obtain ⟨ha,f,f0,f1,f2⟩:=h1
 exact ⟨ha,f,f0,f1,f2.congr (fun _ _=>rfl) h⟩
theorem Rep.of {m:Int} {d:Nat} {a:List Int} (ha:numL m d a) (h0:at' a 0=1):∃ G,Rep m d a G:=by
 obtain ⟨x,hx⟩:=Aa1 (at' a) h0 d
 exact ⟨gZ x d,ha,at' a,h0,eqm.rfl',(Gh.oZ d x d).congr hx (fun _ _ _=>rfl)⟩
theorem Rep.times {m:Int} {d:Nat} {a b:List Int} {G H:Nat→Int} (hm:0<m) (h1:Rep m d a G) (h2:Rep m d b H):Rep m d (timesL m a b d) (fun k=>G k+H k):=by
 obtain ⟨ha,f,f0,f1,f2⟩:=h1
 obtain ⟨hb,g,g0,g1,g2⟩:=h2
 exact ⟨⟨La _ _ _ _,Qb _ _ _ _ hm⟩,cv f g,by simp [cv,sm,f0,g0],(Sa _ _ _ _).trans (f1.cv g1),f2.mul g2⟩
def om (x:Int) (n k:Nat):Int:=if k=0 then 1 else if k=n then -x else 0
theorem Am5 (x:Int) {n:Nat} (hn:0<n):cv (om x n) (gS x n)=oneF:=by
 funext k
 rw [cv]
 rcases Nat.eq_zero_or_pos k with e|e
 ·subst e;simp [sm,om,gS,oneF]
 ·have ho:∀ i,i≠0→i≠n→om x n i=0:=fun i h1 h2=>by rw [om,if_neg h1,if_neg h2]
  have h1:om x n n = -x:=by rw [om,if_neg (by omega),if_pos rfl]
  rw [oneF,if_neg (by omega)]
  rcases Nat.lt_or_ge k n with h|h
  ·rw [Cd (p:=0) (by omega) (fun i h1 h2=>by rw [ho i h2 (by omega),Int.zero_mul]),Nat.sub_zero,Vj _ e h,Int.mul_zero]
  ·rw [Aei (p:=0) (q:=n) hn (by omega) (fun i _ h2 h3=>by rw [ho i h2 h3,Int.zero_mul]),h1,Nat.sub_zero,show om x n 0=1 from rfl,Int.one_mul]
   have em:(k-n)%n=k%n:=by
    have:=Nat.sub_mul_mod (x:=k) (k:=1) (n:=n) (by omega)
    rwa [Nat.mul_one] at this
   rw [gS,gS,em]
   split
   ·rw [Nat.div_eq_sub_div hn h,Int.pow_succ]
    generalize x^((k-n)/n)=y
    rw [Int.mul_comm y x,← Int.add_mul,Int.add_right_neg,Int.zero_mul]
   ·simp
theorem Al7 (m x:Int) (n d:Nat):eqm m d (at' (omL m x n d)) (om x n):=fun k hk=>by
 rw [omL,Bl (by omega),omF,om]
 split
 ·rfl
 ·split
  ·rw [Int.emod_emod,show m-x = -x+m*1 by omega,Int.add_mul_emod_self_left]
  ·rfl
theorem Am7 {m:Int} {a:List Int} {d c:Nat} (h:c<d):at' (cL m a d) c=at' (cR m d a c) (c+1):=by rw [cL,Bl h]
theorem Ajc {m:Int} {d:Nat} {a:List Int} (hm:1<m) (ha:numL m d a) (h0:at' a 0=1):eqm m d (at' a) (oZ (at' (cL m a d)) d):=by
 have key:∀ c,c≤d→eqm m d (cv (at' (cR m d a c)) (oZ (at' (cL m a d)) c)) (at' a)∧∀ k,k≤c→at' (cR m d a c) k%m=oneF k%m:=by
  intro c
  induction c with
  | zero => exact fun _ => ⟨eqm.of_eq (Vo _), fun k hk => by
    obtain rfl:k=0:=by omega
    rw [cR,h0];rfl⟩
  | succ c ih=>
   intro hc
   obtain ⟨h1,h2⟩:=ih (by omega)
   have hx:at' (cL m a d) c=at' (cR m d a c) (c+1):=Am7 (by omega)
   have hst:eqm m d (at' (cR m d a (c+1))) (cv (at' (cR m d a c)) (om (at' (cL m a d) c) (c+1))):=by
    rw [cR,← hx];exact (Sa _ _ _ _).trans (eqm.rfl'.cv (Al7 _ _ _ _))
   refine ⟨(hst.cv eqm.rfl').trans (eqm.trans (eqm.of_eq ?_) h1),fun k hk=>?_⟩
   ·rw [oZ,Id,Qi (oZ _ c),← Id (om _ _),Am5 _ (by omega),I5]
   ·rw [hst k (by omega),cv]
    have ho:∀ i,i≠0→i≠c+1→om (at' (cL m a d) c) (c+1) i=0:=fun i h1 h2=>by rw [om,if_neg h1,if_neg h2]
    rcases Nat.lt_or_ge c k with h|h
    ·obtain rfl:k=c+1:=by omega
     rw [Aei (p:=0) (q:=c+1) (by omega) (by omega) (fun i h3 h4 h5=>by rw [ho (c+1-i) (by omega) (by omega),Int.mul_zero]),Nat.sub_self,Nat.sub_zero]
     rw [show om (at' (cL m a d) c) (c+1) 0=1 from rfl,Int.mul_one,om,if_neg (by omega),if_pos rfl,hx,oneF,if_neg (by omega)]
     have h3:=h2 0 (by omega)
     rw [show oneF 0=1 from rfl] at h3
     have:(at' (cR m d a c) 0 * -at' (cR m d a c) (c+1)+at' (cR m d a c) (c+1))%m=(1 * -at' (cR m d a c) (c+1)+at' (cR m d a c) (c+1))%m:=
      Bh (Af h3 rfl) rfl
     rw [this,Int.one_mul,show -at' (cR m d a c) (c+1)+at' (cR m d a c) (c+1)=0 by omega]
    ·rw [Cd (p:=k) (by omega) (fun i h3 h4=>by rw [ho (k-i) (by omega) (by omega),Int.mul_zero]),Nat.sub_self,show om (at' (cL m a d) c) (c+1) 0=1 from rfl,Int.mul_one]
     exact h2 k h
 obtain ⟨h1,h2⟩:=key d (Nat.le_refl d)
 refine h1.symm.trans (eqm.trans (eqm.cv (f':=oneF) (fun k hk=>h2 k hk) eqm.rfl') (eqm.of_eq (I5 _)))
theorem Rep.coords {m:Int} {d:Nat} {a:List Int} {G:Nat→Int} (hm:1<m) (h:Rep m d a G) (h0:at' a 0=1):∃ x:Nat→Int,(∀ i,i<d→at' (cL m a d) i%m=x i%m)∧∀ k,1≤k→k≤d→gZ x d k=G k:=by
 obtain ⟨ha,f,f0,f1,f2⟩:=h
 obtain ⟨x,hx⟩:=Aa1 f f0 d
 refine ⟨x,Al8 ((Ajc hm ha h0).symm.trans (f1.trans fun k hk=>by rw [hx k hk])),?_⟩
 exact Gh.ghosts f0 ((Gh.oZ d x d).congr hx (fun _ _ _=>rfl)) f2
theorem Rep.at0 {m:Int} {d:Nat} {a:List Int} {G:Nat→Int} (hm:1<m) (h:Rep m d a G):at' a 0=1:=by
 obtain ⟨ha,f,f0,f1,_⟩:=h
 have h1:=f1 0 (by omega)
 have h2:=A4 ha.2 (by omega) 0
 rwa [f0,Int.emod_eq_of_lt h2.1 h2.2,Int.emod_eq_of_lt (by omega) hm] at h1
theorem Rep.one {m:Int} {d:Nat} (hm:1<m):Rep m d (oneL d) (fun _=>0):=⟨⟨V4 d,Ago d hm⟩,oneF,rfl,Ajy m d,Gh.one d⟩
theorem Rep.ghosts {m:Int} {d:Nat} {a:List Int} {G:Nat→Int} (hm:1<m) (h:Rep m d a G):ghL m (cL m a d) d=tab d (fun i=>G (i+1)%m):=by
 obtain ⟨x,hx,gx⟩:=h.coords hm (h.at0 hm)
 refine Bn fun i hi=>?_
 rw [← gx (i+1) (by omega) (by omega),gZ,Df (n:=d) (c:=i+1) (by omega)]
 ·refine Be fun e he=>?_
  rw [ghF,gH]
  split
  ·exact Af rfl (Jx (hx e (by omega)) _)
  ·rfl
 ·intro e h1 h2
  rw [gH,if_neg]
  rw [Nat.mod_eq_of_lt (by omega)];omega
def fZ (N d2:Nat) (x:Nat→Int):Nat→Nat→Int
 | 0=>oneF
 | c+1=>if (c+1)/Nat.gcd N (c+1)≤d2 then cv (fZ N d2 x c) (pwF (gS (x c^(N/Nat.gcd N (c+1))) ((c+1)/Nat.gcd N (c+1))) (Nat.gcd N (c+1))) else fZ N d2 x c
theorem Rs (N c:Nat) (hN:0<N) (hc:0<c):0<Nat.gcd N c∧0<c/Nat.gcd N c∧c/Nat.gcd N c*Nat.gcd N c=c∧N/Nat.gcd N c*Nat.gcd N c=N∧Nat.Coprime (c/Nat.gcd N c) (N/Nat.gcd N c):=by
 have hg:0<Nat.gcd N c:=Nat.gcd_pos_of_pos_left _ hN
 refine ⟨hg,Nat.div_pos (Nat.le_of_dvd hc (Nat.gcd_dvd_right N c)) hg,Nat.div_mul_cancel (Nat.gcd_dvd_right N c),Nat.div_mul_cancel (Nat.gcd_dvd_left N c),?_⟩
 have:=Nat.coprime_div_gcd_div_gcd hg
 exact this.symm
theorem Ac0 (x : Int) {N c k d2 : Nat} (hN : 0 < N) (hc : 0 < c) (h1 : 1 ≤ k) (hk : k ≤ d2) :
  (if c/Nat.gcd N c≤d2 then (Nat.gcd N c:Int)*gH (x^(N/Nat.gcd N c)) (c/Nat.gcd N c) k else 0)=gH x c (N*k):=by
 obtain ⟨g1,g2,g3,g4,g5⟩:=Rs N c hN hc
 generalize hg:Nat.gcd N c=g at *
 generalize hcg:c/g=q at *
 generalize hng:N/g=p at *
 by_cases h:q∣k
 ·have hle:q≤d2:=Nat.le_trans (Nat.le_of_dvd (by omega) h) hk
  obtain ⟨e,rfl⟩:=h
  have e1:N*(q*e)=c*(p*e):=by
   rw [← g3,← g4]
   simp only [Nat.mul_assoc,Nat.mul_left_comm,Nat.mul_comm]
  rw [if_pos hle,gH,gH,e1,Nat.mul_mod_right,if_pos rfl,Nat.mul_mod_right,if_pos rfl,Nat.mul_div_cancel_left _ g2,Nat.mul_div_cancel_left _ hc,← Int.pow_mul,← Int.mul_assoc,← Int.natCast_mul,Nat.mul_comm g q,g3]
 ·have hn : ¬ N * k % c = 0 := by
   intro h0
   apply h
   have h2:q*g∣p*g*k:=by rw [g3,g4];exact Nat.dvd_of_mod_eq_zero h0
   have h3:q∣p*k:=by
    rw [Nat.mul_assoc,Nat.mul_comm g k,← Nat.mul_assoc] at h2
    exact Nat.dvd_of_mul_dvd_mul_right g1 h2
   exact g5.dvd_of_dvd_mul_left h3
  rw [gH,gH,if_neg hn,if_neg (fun e=>h (Nat.dvd_of_mod_eq_zero e)),Int.mul_zero]
  split <;> rfl
theorem Gh.fZ {N d2:Nat} (hN:0<N) (x:Nat→Int):∀ c,Gh d2 (fZ N d2 x c) (fun k=>gZ x c (N*k))
 | 0=>Gh.one d2
 | c+1=>by
  have ih:=Gh.fZ (d2:=d2) hN x c
  obtain ⟨g1,g2,_⟩:=Rs N (c+1) hN (by omega)
  have one:=fun k h1 h2=>Ac0 (x c) (N:=N) (c:=c+1) (k:=k) (d2:=d2) hN (by omega) h1 h2
  rw [Go.Proofs.YtapdekacpecgiaaGreat.fZ]
  split
  ·rename_i hle
   refine (ih.mul ((Gh.geo d2 _ g2).pw _)).congr (fun _ _=>rfl) (fun k h1 h2=>?_)
   have:=one k h1 h2
   rw [if_pos hle] at this
   rw [this];rfl
  ·rename_i hle
   refine ih.congr (fun _ _=>rfl) (fun k h1 h2=>?_)
   have:=one k h1 h2
   rw [if_neg hle] at this
   show gZ x c (N*k)=gZ x c (N*k)+gH (x c) (c+1) (N*k)
   rw [← this,Int.add_zero]
def spS (f:Nat→Int) (n k:Nat):Int:=if k%n=0 then f (k/n) else 0
theorem Ajo {n:Nat} (hn:0<n) (F:Nat→Int) (q:Nat):sm (n*q) (fun i=>if (i+1)%n=0 then F ((i+1)/n) else 0)=sm q (fun j=>F (j+1)):=by
 induction q with
 | zero=>rfl
 | succ q ih=>
  obtain ⟨p,hp⟩:∃ p,n=p+1:=⟨n-1,by omega⟩
  have e1:n*(q+1)=n*q+p+1:=by rw [Nat.mul_succ];omega
  rw [e1,sm,Df (c:=n*q) (by omega),ih,sm]
  ·have e2:n*q+p+1=n*(q+1):=e1.symm
   rw [e2,Nat.mul_mod_right,if_pos rfl,Nat.mul_div_cancel_left _ hn]
  ·intro i h3 h4
   have:¬ (i+1)%n=0:=by
    intro h0
    obtain ⟨c,hc⟩:=Nat.dvd_of_mod_eq_zero h0
    have h5:n*q<n*c:=by omega
    have h6:n*c<n*(q+1):=by rw [Nat.mul_succ];omega
    have:=Nat.lt_of_mul_lt_mul_left h5
    have:=Nat.lt_of_mul_lt_mul_left h6
    omega
   rw [if_neg this]
theorem Gh.spread {d n:Nat} (hn:0<n) {f G:Nat→Int} (h:Gh d f G):Gh d (spS f n) (fun k=>if k%n=0 then (n:Int)*G (k/n) else 0):=by
 intro k hk
 by_cases hkn:k%n=0
 ·obtain ⟨q,rfl⟩:=Nat.dvd_of_mod_eq_zero hkn
  have hq:q≤d:=Nat.le_trans (Nat.le_mul_of_pos_left q hn) hk
  have e0:sm (n*q) (fun i=>(if (i+1)%n=0 then (n:Int)*G ((i+1)/n) else 0)*spS f n (n*q-1-i))=sm (n*q) (fun i=>if (i+1)%n=0 then (fun j=>(n:Int)*G j*f (q-j)) ((i+1)/n) else 0):=by
   refine As fun i hi=>?_
   split
   ·rename_i h0
    obtain ⟨j,hj⟩:=Nat.dvd_of_mod_eq_zero h0
    have e1:n*q-1-i=n*(q-j):=by rw [Nat.mul_sub];omega
    rw [e1,spS,Nat.mul_mod_right,if_pos rfl,Nat.mul_div_cancel_left _ hn,hj,Nat.mul_div_cancel_left _ hn]
   ·rw [Int.zero_mul]
  show ((n*q:Nat):Int)*spS f n (n*q)=sm (n*q) (fun i=>(if (i+1)%n=0 then (n:Int)*G ((i+1)/n) else 0)*spS f n (n*q-1-i))
  rw [e0,Ajo hn (fun j=>(n:Int)*G j*f (q-j)),spS,Nat.mul_mod_right,if_pos rfl,Nat.mul_div_cancel_left _ hn,Int.natCast_mul,Int.mul_assoc,h q hq,← Ch]
  exact As fun i hi=>by rw [Int.mul_assoc,show q-1-i=q-(i+1) by omega]
 ·rw [spS,if_neg hkn,Int.mul_zero,Az]
  intro i hi
  show (if (i+1)%n=0 then (n:Int)*G ((i+1)/n) else 0)*spS f n (k-1-i)=0
  split
  ·rename_i h0
   have:¬ (k-1-i)%n=0:=by
    intro h2
    apply hkn
    have:k=(i+1)+(k-1-i):=by omega
    rw [this,Nat.add_mod,h0,h2]
    simp
   rw [spS,if_neg this,Int.mul_zero]
  ·rw [Int.zero_mul]
theorem Rep.ver {m:Int} {d:Nat} {a:List Int} {G:Nat→Int} (hm:1<m) (h:Rep m d a G) {n:Nat} (hn:0<n):Rep m d (spreadL a n d) (fun k=>if k%n=0 then (n:Int)*G (k/n) else 0):=by
 obtain ⟨ha,f,f0,f1,f2⟩:=h
 refine ⟨⟨Q6 _ _ _,fun x hx=>?_⟩,spS f n,by simp [spS,f0],fun k hk=>?_,f2.spread hn⟩
 ·obtain ⟨i,_,rfl⟩:=D8.1 hx
  split
  ·exact A4 ha.2 (by omega) _
  ·omega
 ·rw [spreadL,Bl (by omega),spS]
  split
  ·exact f1 (k/n) (Nat.le_trans (Nat.div_le_self k n) hk)
  ·rfl
theorem Aje {l:List Int} {n i:Nat} (h:i<n):at' (l.take n) i=at' l i:=by
 rw [at',at',List.getD_eq_getElem?_getD,List.getD_eq_getElem?_getD,List.getElem?_take_of_lt h]
theorem Rep.cut {m:Int} {d e:Nat} {a:List Int} {G:Nat→Int} (h:Rep m d a G) (he:e≤d):Rep m e (a.take (e+1)) G:=by
 obtain ⟨ha,f,f0,f1,f2⟩:=h
 refine ⟨⟨by rw [List.length_take,ha.1];omega,fun x hx=>ha.2 x (List.mem_of_mem_take hx)⟩,f,f0,fun k hk=>?_,fun k hk=>f2 k (by omega)⟩
 rw [Aje (by omega)]
 exact f1 k (by omega)
end Go.Proofs.YtapdekacpecgiaaGreat
