import Derived.Test.YtapdekacpecgiaaGreatNk
import Derived.Test.YtapdekacpecgiaaGreatIa
import Derived.Test.YtapdekacpecgiaaGreatSyc
namespace Go.Proofs.YtapdekacpecgiaaGreat
open Go.RowKit
set_option linter.unusedSimpArgs false
set_option linter.unusedVariables false
set_option linter.unusedSectionVars false
set_option maxRecDepth 20000
set_option maxHeartbeats 1000000
def agR (la lb:List (List Int)) (n:Nat):Int:=if ∀ i,i<n+1→pc la i (n-i)=pc lb i (n-i) then (n:Int) else (n:Int)-1
theorem Ane (la lb:List (List Int)) (n:Nat):¬ agR la lb n<(n:Int)-1:=by unfold agR;split <;> omega
set_option maxHeartbeats 4000000 in
theorem Oy (m:Int) (la lb:List (List Int)) (n:Nat) (ha:Pl m (n+1) la) (hb:Pl m (n+1) lb) (hn:n≤100) (heq:∀ u v,u+v<n→pc la u v=pc lb u v):AFn Tryz.prog 205 [.agg [.int .i64 m,.sl false 27 (rowsF la)],.agg [.int .i64 m,.sl false 27 (rowsF lb)]] (.int .i64 (agR la lb n)):=by
 refine fO Tryz.func205 Tryz.ntmps205 (by rw [Tryz.results205]) fun C hP hM hC=>?_
 have hD:=A3 m la (by rw [ha.len];omega)
 rw [ha.len,show ((n+1:Nat):Int)-1=(n:Int) by omega] at hD
 (repeat (first|((with_reducible refine rC rfl fun K hK=>?_);simp only [go_sem,seval,↓reduceIte];refine hK _ _ _ ?_;clear hK K)|refine sT ?_))
 refine AWP.loop (fun j:Nat=>[(5,⟨0,.val (.int .i64 j)⟩),(2,⟨1,.own (.box 26 (.agg [.int .i64 m,.sl false 27 (rowsF la)]))⟩),(3,⟨1,.own (.box 26 (.agg [.int .i64 m,.sl false 27 (rowsF lb)]))⟩),(4,⟨0,.val (.int .i64 0)⟩)]) (fun j=>j≤n+1∧(j=n+1→∀ i,i<n+1→pc la i (n-i)=pc lb i (n-i))) (fun j=>n+1-j) 0 ⟨Nat.zero_le _,fun e=>by omega⟩ (fun j=>rfl) ?_ (fun j hj=>?_)
 ·simp [Sub,lk]
 ·by_cases h:j<n+1
  ·have zq1:(j:Int)≤(n:Int):=(by omega)
   (repeat (first|((with_reducible refine rC rfl fun K hK=>?_);simp only [go_sem,seval,↓reduceIte,zq1];(first|refine hK _ _ _ ?_|refine ⟨_,hD,hK _ _ _ ?_⟩);clear hK K)|refine sT ?_))
   refine AWP.loop (fun i:Nat=>[(6,⟨0,.val (.int .i64 i)⟩),(5,⟨0,.val (.int .i64 j)⟩),(2,⟨1,.own (.box 26 (.agg [.int .i64 m,.sl false 27 (rowsF la)]))⟩),(3,⟨1,.own (.box 26 (.agg [.int .i64 m,.sl false 27 (rowsF lb)]))⟩),(4,⟨0,.val (.int .i64 0)⟩)]) (fun i=>i≤j+1∧(j=n→∀ x,x<i→pc la x (n-x)=pc lb x (n-x))) (fun i=>j+1-i) 0 ⟨Nat.zero_le _,fun _ x hx=>by omega⟩ (fun i=>rfl) ?_ (fun i hi=>?_)
   ·simp [Sub,lk]
   ·by_cases hij:i<j+1
    ·have r1:=ha.row i (by omega)
     have r2:=hb.row i (by omega)
     have s1:IntKind.i64.wrap ((j:Int)-(i:Int))=((j-i:Nat):Int):=by rw [wid _ (by omega) (by omega)];omega
     by_cases he:pc la i (j-i)=pc lb i (j-i)
     ·have hne:(pc la i (j-i) != pc lb i (j-i))=false:=by rw [he];simp
      have zq2:(i:Int)≤(j:Int):=(by omega);have zq3:=Ad la i (by rw [ha.len];omega);have zq4:=Ad lb i (by rw [hb.len];omega);have zq5:(i:Int)<((n+1:Nat):Int):=(by omega);have zq6:=Ac (la.getD i []) (j-i) (by omega);have zq7:=Ac (lb.getD i []) (j-i) (by omega);have zq8:((j-i:Nat):Int)<((n+1-i:Nat):Int):=(by omega);have zq9:(la.getD i []).getD (j-i) 0=pc la i (j-i):=rfl;have zq10:(lb.getD i []).getD (j-i) 0=pc lb i (j-i):=rfl;have zq11:=wid ((i:Int)+1) (by omega) (by omega)
      (repeat (first|((with_reducible refine rC rfl fun K hK=>?_);simp only [go_sem,seval,↓reduceIte,zq2,s1,zq3,zq4,Aa,ha.len,hb.len,Int.toNat_natCast,Int.natCast_nonneg,zq5,zq6,zq7,r1,r2,zq8,zq9,zq10,hne,zq11];refine hK _ _ _ ?_;clear hK K)|refine sT ?_))
      refine ⟨i+1,⟨by omega,fun e x hx=>?_⟩,by omega,by simp [Sub,lk]⟩
      by_cases hxi:x=i
      ·rw [hxi,← e];exact he
      ·exact hi.2 e x (by omega)
     ·have hjn:j=n:=Nat.le_antisymm (by omega) (Nat.le_of_not_lt fun h2=>he (heq i (j-i) (by omega)))
      have hne:(pc la i (j-i) != pc lb i (j-i))=true:=by simpa using he
      have zq12:(i:Int)≤(j:Int):=(by omega);have zq13:=Ad la i (by rw [ha.len];omega);have zq14:=Ad lb i (by rw [hb.len];omega);have zq15:(i:Int)<((n+1:Nat):Int):=(by omega);have zq16:=Ac (la.getD i []) (j-i) (by omega);have zq17:=Ac (lb.getD i []) (j-i) (by omega);have zq18:((j-i:Nat):Int)<((n+1-i:Nat):Int):=(by omega);have zq19:(la.getD i []).getD (j-i) 0=pc la i (j-i):=rfl;have zq20:(lb.getD i []).getD (j-i) 0=pc lb i (j-i):=rfl;have zq21:=wid ((j:Int)-1) (by omega) (by omega)
      (repeat (first|((with_reducible refine rC rfl fun K hK=>?_);simp only [go_sem,seval,↓reduceIte,zq12,s1,zq13,zq14,Aa,ha.len,hb.len,Int.toNat_natCast,Int.natCast_nonneg,zq15,zq16,zq17,r1,r2,zq18,zq19,zq20,hne,zq21];refine hK _ _ _ ?_;clear hK K)|refine sT ?_))
      refine rt1 ?_
      rw [agR,if_neg (fun h3=>he (by rw [hjn];exact h3 i (by omega))),hjn]
    ·obtain rfl:i=j+1:=by omega
     have zq22:¬ ((j+1:Nat):Int)≤(j:Int):=(by omega);have zq23:=wid ((j:Int)+1) (by omega) (by omega)
     (repeat (first|((with_reducible refine rC rfl fun K hK=>?_);simp only [go_sem,seval,↓reduceIte,zq22,zq23];refine hK _ _ _ ?_;clear hK K)|refine sT ?_))
     refine ⟨j+1,⟨by omega,fun e x hx=>hi.2 (by omega) x (by omega)⟩,by omega,by simp [Sub,lk]⟩
  ·obtain rfl:j=n+1:=by omega
   have zq24:¬ ((n+1:Nat):Int)≤(n:Int):=(by omega)
   (repeat (first|((with_reducible refine rC rfl fun K hK=>?_);simp only [go_sem,seval,↓reduceIte,zq24];(first|refine hK _ _ _ ?_|refine ⟨_,hD,hK _ _ _ ?_⟩);clear hK K)|refine sT ?_))
   refine rt1 ?_
   rw [agR,if_pos (hj.2 rfl)]
def prm (l:List Int) (K k:Nat):List Int:=tab K (fun i=>if i<k then at' l i else 0)
theorem Y2 {l:List Int} {m:Int} (hm:0<m) (hl0:∀ x∈l,0≤x∧x<m) (K k:Nat):∀ x∈prm l K k,0≤x∧x<m:=fun x hx=>by
 obtain ⟨i,_,rfl⟩:=D8.1 hx
 split
 ·exact A4 hl0 hm i
 ·omega
theorem Ajd {l:List Int} {K k:Nat}:(prm l K k).set k (at' l k)=prm l K (k+1):=H0 fun j _=>by
 by_cases e:j=k
 ·rw [if_pos e,if_pos (by omega),e]
 ·rw [if_neg e]
  by_cases e2:j<k
  ·rw [if_pos e2,if_pos (by omega)]
  ·rw [if_neg e2,if_neg (by omega)]
theorem Qc {l:List Int} {K k:Nat} (hk:k≤K):at' (ty3 (prm l K k))=trn (at' (ty3 l)) k:=by
 funext i
 rw [Hw,trn,Hw]
 by_cases h:i<K
 ·rw [prm,Bl h]
 ·rw [if_neg (by omega),at',List.getD_eq_getElem?_getD,List.getElem?_eq_none (by rw [prm,Ae];omega)];rfl
theorem Amz {p k d : Nat} (pr : p = 2 ∨ p = 3 ∨ p = 5 ∨ p = 7) (hk : p ^ (k + 1) ≤ d) (hd : d ≤ 10) {K : Nat} (hkK : k ≤ K) {m : Int} (hm : 1 < m) (l : List Int) {u v : Nat} (huv : u + v ≤ p ^ (k + 1)) :
  (pc (tab2 (p^(k+1)+1) (pc (tyF p m l d))) u v-pc (tyF p m (prm l K k) (p^(k+1))) u v)%m=(0-at' l k)*tyC (p^(k+1)) u v%m:=by
 rw [Bc (by omega),tyF,D5 (by omega),tyF,D5 (by omega),Qc hkK,Hz pr (by omega) (at' (ty3 l)) huv,Hw,Int.sub_emod,Int.emod_emod,Int.emod_emod,← Int.sub_emod]
 congr 1
 rw [Int.sub_mul];omega
theorem Alt {p k d:Nat} (pr:p=2∨p=3∨p=5∨p=7) (hk:p^(k+1)≤d) (hd:d≤10) {K:Nat} (hkK:k≤K) {m:Int} (l:List Int) {u v:Nat} (huv:u+v<p^(k+1)):pc (tab2 (p^(k+1)+1) (pc (tyF p m l d))) u v=pc (tyF p m (prm l K k) (p^(k+1))) u v:=by
 rw [Bc (by omega),tyF,D5 (by omega),tyF,D5 (by omega),Qc hkK,Hz pr (by omega) (at' (ty3 l)) (Nat.le_of_lt huv),Yt huv,Int.mul_zero,Int.sub_zero]
theorem Ajk {p d K:Nat} (pr:p=2∨p=3∨p=5∨p=7) (hd:d≤10) (hK:p^K≤d) (hK2:d<p^(K+1)) (m:Int) (l:List Int):tyF p m (prm l K K) d=tyF p m l d:=by
 rw [tyF,tyF,Qc (Nat.le_refl K)]
 exact A5 fun u v h=>by rw [← Akh pr hd hK hK2 (at' (ty3 l)) (by omega)]
set_option maxHeartbeats 16000000 in
theorem H8 (p:Nat) (m:Int) (d K:Nat) (l:List Int) (pr:p=2∨p=3∨p=5∨p=7) (hm:1<m) (hm2:m≤10000) (h1:1≤d) (hd:d≤10) (hK:p^K≤d) (hK2:d<p^(K+1)) (hK3:K≤3) (hl0:∀ x∈l,0≤x∧x<m):AFn Tryz.prog 117 [.int .i64 p,.agg [.int .i64 m,.sl false 27 (rowsF (tyF p m l d))]] (.tup [.sl true 2 (intL (prm l K K)),.bool true]):=by
 refine fO Tryz.func117 Tryz.ntmps117 (by rw [Tryz.results117]) fun C hP hM hC=>?_
 have hp:2≤p:=by omega
 have pF:=Jo (p:=p) (m:=m) (by omega) l d
 have hD:=A3 m (tyF p m l d) (by rw [pF.len];omega)
 rw [pF.len,show ((d+1:Nat):Int)-1=(d:Int) by omega] at hD
 have cW:=E8 p d K hp (by omega) hd hK3 hK hK2
 have hpl:(pwsL p K).length=K:=Ae _ _
 have e0:intL (tab K (fun _=>0))=intL (prm l K 0):=congrArg intL (Bn fun i _=>by rw [if_neg (by omega)])
 have hprl:∀ k,(prm l K k).length=K:=fun k=>Ae _ _
 have zq1:(0:Int)≤(K:Int):=(by omega);have zq2:(K:Int)≤1099511627776:=(by omega)
 (repeat (first|((with_reducible refine rC rfl fun K hK=>?_);simp only [go_sem,seval,↓reduceIte,Bf,hpl,zq1,Int.toNat_natCast,zq2,C6,Fk,e0];(first|refine hK _ _ _ ?_|refine ⟨_,hD,hK _ _ _ ?_⟩|refine ⟨_,cW,hK _ _ _ ?_⟩);clear hK K)|refine sT ?_))
 refine AWP.loop (fun k:Nat=>[(21,⟨0,.val (.int .i64 k)⟩),(20,⟨0,.val (.int .i64 K)⟩),(19,⟨0,.val (.ref 6 1 [])⟩),(6,⟨1,.own (.sl true 3 (intL (pwsL p K)))⟩),(7,⟨1,.own (.sl true 2 (intL (prm l K k)))⟩),(3,⟨1,.own (.box 26 (.agg [.int .i64 m,.sl false 27 (rowsF (tyF p m l d))]))⟩),(0,⟨0,.val (.int .i64 p)⟩)]) (fun k=>k≤K) (fun k=>K-k) 0 (Nat.zero_le _) (fun k=>rfl) ?_ (fun k hk=>?_)
 ·simp [Sub,lk]
 ·by_cases h:k<K
  ·have hn10:p^(k+1)≤d:=Nat.le_trans (Nat.pow_le_pow_right (by omega) (by omega)) hK
   have hn1:=G2 hp (k+1)
   have kk:p^(k+1)<p^(k+1+1):=Nat.pow_lt_pow_right (by omega) (by omega)
   have c1:=E5 p m (p^(k+1)) (k+1) (prm l K k) pr hm hm2 (by omega) (by omega) (Nat.le_refl _) kk (by omega) (by rw [hprl];exact hK3) (Y2 (by omega) hl0 K k)
   have pH:=Jo (p:=p) (m:=m) (by omega) (prm l K k) (p^(k+1))
   have c2:=Ln m (tyF p m l d) (d+1) (p^(k+1)) pF (by omega) (by omega)
   have pG:=U2 (k:=p^(k+1)+1) pF (by omega)
   have hlow:=fun u v (huv:u+v<p^(k+1))=>Alt (m:=m) pr hn10 hd (Nat.le_of_lt h) l huv
   have htop:=fun u v (huv:u+v≤p^(k+1))=>Amz pr hn10 hd (Nat.le_of_lt h) hm l huv
   have c3:=Oy m _ _ (p^(k+1)) pG pH (by omega) hlow
   have hag:=Ane (tab2 (p^(k+1)+1) (pc (tyF p m l d))) (tyF p m (prm l K k) (p^(k+1))) (p^(k+1))
   have c4:=Lr m _ _ (p^(k+1)+1) (by omega) hm2 pG pH (by omega) (by omega)
   have pM:Pl m (p^(k+1)+1) (tab2 (p^(k+1)+1) (fun u v=>(pc (tab2 (p^(k+1)+1) (pc (tyF p m l d))) u v-pc (tyF p m (prm l K k) (p^(k+1))) u v)%m)):=Pl.tab2 (by omega) fun _ _ _=>Ag _ m (by omega)
   have c5:=Of m _ (p^(k+1)) pM (by omega)
   have hTop:∀ i,i<p^(k+1)+1→at' (tab (p^(k+1)+1) (fun i=>pc (tab2 (p^(k+1)+1) (fun u v=>(pc (tab2 (p^(k+1)+1) (pc (tyF p m l d))) u v-pc (tyF p m (prm l K k) (p^(k+1))) u v)%m)) i (p^(k+1)-i))) i=(0-at' l k)*at' (cocL (p^(k+1))) i%m:=fun i hi=>by
    rw [Bl hi,Bc (by omega),htop i (p^(k+1)-i) (by omega),tyC,if_pos (by omega)]
   have hTn:∀ x∈tab (p^(k+1)+1) (fun i=>pc (tab2 (p^(k+1)+1) (fun u v=>(pc (tab2 (p^(k+1)+1) (pc (tyF p m l d))) u v-pc (tyF p m (prm l K k) (p^(k+1))) u v)%m)) i (p^(k+1)-i)),0≤x∧x<m:=fun x hx=>by
    obtain ⟨i,_,rfl⟩:=D8.1 hx
    exact pM.num _ _
   obtain ⟨z1,z2⟩:=Aeu pr (show p^(k+1)≤10 by omega)
   have cZ:=So (p^(k+1)) p (by omega) (by omega) z1 (by omega)
   rw [z2] at cZ
   obtain ⟨q1,q2⟩:=Alx pr (show p^(k+1)≤10 by omega)
   obtain ⟨y1,y2,y3⟩:=Yn pr (show p^(k+1)≤10 by omega) hm hTop
   have c6:=Pw m _ (cocL (p^(k+1))) (p^(k+1)) ((0-at' l k)%m).toNat hm hm2 (by omega) (Ae _ _) hTn q1 q2 cZ y1 y2 y3
   have bn0:=Ag (0-at' l k) m (by omega)
   have bv:=A4 hl0 (by omega) k
   rw [show ((((0-at' l k)%m).toNat:Nat):Int)=(0-at' l k)%m by omega] at c6
   have c7:=Cr (0-(0-at' l k)%m) m (by omega) (by omega)
   rw [show (0-(0-at' l k)%m)%m=at' l k by
    rw [Int.sub_emod,Int.emod_emod,← Int.sub_emod,show 0-(0-at' l k)=at' l k by omega,Int.emod_eq_of_lt bv.1 bv.2]] at c7
   generalize hGG:tab2 (p^(k+1)+1) (pc (tyF p m l d))=G at *
   generalize hHH:tyF p m (prm l K k) (p^(k+1))=H at *
   generalize hMq:tab2 (p^(k+1)+1) (fun u v=>(pc G u v-pc H u v)%m)=M at *
   generalize hTT:tab (p^(k+1)+1) (fun i=>pc M i (p^(k+1)-i))=W at *
   have hlen:k<(prm l K k).length:=by rw [hprl];exact h
   have gk:(pwsL p K).getD k 0=((p^(k+1):Nat):Int):=Es h
   have zq3:(k:Int)<(K:Int):=(by omega);have zq4:=Ao (pwsL p K) k (by rw [hpl];exact h);have zq5:=Ai (pwsL p K) k (by rw [hpl];omega);have zq6:=wid (((p^(k+1):Nat):Int)-1) (by omega) (by omega);have zq7:=wid (0-(0-at' l k)%m) (by omega) (by omega);have zq8:=wid ((k:Int)+1) (by omega) (by omega)
   (repeat (first|((with_reducible refine rC rfl fun K hK=>?_);simp only [go_sem,seval,↓reduceIte,zq3,hpl,Bf,Int.natCast_nonneg,Int.toNat_natCast,Nat.mul_one,zq4,zq5,gk,zq6,hag,hprl,Ao _ _ hlen,Ai _ _ (Nat.le_of_lt hlen),B7,Ajd,zq7,zq8];(first|refine hK _ _ _ ?_|refine ⟨_,c1,hK _ _ _ ?_⟩|refine ⟨_,c2,hK _ _ _ ?_⟩|refine ⟨_,c3,hK _ _ _ ?_⟩|refine ⟨_,c4,hK _ _ _ ?_⟩|refine ⟨_,c5,hK _ _ _ ?_⟩|refine ⟨_,c6,hK _ _ _ ?_⟩|refine ⟨_,c7,hK _ _ _ ?_⟩);clear hK K)|refine sT ?_))
   exact ⟨k+1,by omega,by omega,by simp [Sub,lk]⟩
  ·obtain rfl:k=K:=by omega
   have c1:=E5 p m d k (prm l k k) pr hm hm2 h1 hd hK hK2 hK3 (by rw [hprl];exact hK3) (Y2 (by omega) hl0 k k)
   rw [Ajk pr hd hK hK2] at c1
   have c2:=Nf m (d+1) (fun u v=>tyT p (at' (ty3 l)) u v%m) (fun u v=>tyT p (at' (ty3 l)) u v%m) (by omega)
   rw [decide_eq_true rfl,show tab2 (d+1) (fun u v=>tyT p (at' (ty3 l)) u v%m)=tyF p m l d from rfl] at c2
   have zq9:¬ (k:Int)<(k:Int):=(by omega)
   (repeat (first|((with_reducible refine rC rfl fun K hK=>?_);simp only [go_sem,seval,↓reduceIte,zq9];(first|refine hK _ _ _ ?_|refine ⟨_,c1,hK _ _ _ ?_⟩|refine ⟨_,hD,hK _ _ _ ?_⟩|refine ⟨_,c2,hK _ _ _ ?_⟩);clear hK K)|refine sT ?_))
   refine rt2 ?_
   rfl
theorem Ke (p:Int) (m:Int) (ll:List (List Int)) (hs:Sm ll) (h:lawB m ll=true) (hp:typ4 p=true):AFn Tryz.prog 116 [.int .i64 p,.agg [.int .i64 m,.sl false 27 (rowsF ll)]] (.int .i64 0):=by
 refine fO Tryz.func116 Tryz.ntmps116 (by rw [Tryz.results116]) fun C hP hM hC=>?_
 have c1:=Lq m ll hs
 rw [h] at c1
 have c2:=Ey p
 rw [hp] at c2
 (repeat (first|((with_reducible refine rC rfl fun K hK=>?_);simp only [go_sem,seval,↓reduceIte];(first|refine hK _ _ _ ?_|refine ⟨_,c1,hK _ _ _ ?_⟩|refine ⟨_,c2,hK _ _ _ ?_⟩);clear hK K)|refine sT ?_))
 refine rt1 ?_
 rfl
theorem Gu (p:Nat) (m:Int) (d K:Nat) (l:List Int) (pr:p=2∨p=3∨p=5∨p=7) (hm:1<m) (hm2:m≤10000) (h1:1≤d) (hd:d≤10) (hK:p^K≤d) (hK2:d<p^(K+1)) (hK3:K≤3) (hl0:∀ x∈l,0≤x∧x<m) (hs:Sm (tyF p m l d)) (h:lawB m (tyF p m l d)=true):AFn Tryz.prog 35 [.int .i64 p,.agg [.int .i64 m,.sl false 27 (rowsF (tyF p m l d))]] (.tup [.sl true 2 (intL (prm l K K)),.int .i64 0]):=by
 refine fO Tryz.func35 Tryz.ntmps35 (by rw [Tryz.results35]) fun C hP hM hC=>?_
 have c1:=Ke (p:Int) m (tyF p m l d) hs h (by rcases pr with rfl|rfl|rfl|rfl <;> rfl)
 have c2:=H8 p m d K l pr hm hm2 h1 hd hK hK2 hK3 hl0
 have zq1:((0:Int) != 0)=false:=rfl
 (repeat (first|((with_reducible refine rC rfl fun K hK=>?_);simp only [go_sem,seval,↓reduceIte,zq1];(first|refine hK _ _ _ ?_|refine ⟨_,c1,hK _ _ _ ?_⟩|refine ⟨_,c2,hK _ _ _ ?_⟩);clear hK K)|refine sT ?_))
 refine rt2 ?_
 rfl
theorem Kn (m:Int) (la lb:List (List Int)) (ha:isPl m la=true) (hb:isPl m lb=true) (hl:lb.length=la.length) (hsa:Sm la) (hsb:Sm lb):AFn Tryz.prog 123 [.agg [.int .i64 m,.sl false 27 (rowsF la)],.agg [.int .i64 m,.sl false 27 (rowsF lb)]] (.int .i64 0):=by
 refine fO Tryz.func123 Tryz.ntmps123 (by rw [Tryz.results123]) fun C hP hM hC=>?_
 have c1:=Do m la hsa
 rw [ha] at c1
 have c2:=Do m lb hsb
 rw [hb] at c2
 have c3:=Mn m m la lb (by have:=hsa.1;omega) (by have:=hsb.1;omega)
 rw [decide_eq_true ⟨rfl,hl.symm⟩] at c3
 (repeat (first|((with_reducible refine rC rfl fun K hK=>?_);simp only [go_sem,seval,↓reduceIte];(first|refine hK _ _ _ ?_|refine ⟨_,c1,hK _ _ _ ?_⟩|refine ⟨_,c2,hK _ _ _ ?_⟩|refine ⟨_,c3,hK _ _ _ ?_⟩);clear hK K)|refine sT ?_))
 refine rt1 ?_
 rfl
theorem Li (m:Int) (la lb:List (List Int)) (ha:isPl m la=true) (hb:isPl m lb=true) (hl:lb.length=la.length) (hsa:Sm la) (hsb:Sm lb):AFn Tryz.prog 38 [.agg [.int .i64 m,.sl false 27 (rowsF la)],.agg [.int .i64 m,.sl false 27 (rowsF lb)]] (.tup [.agg [.int .i64 m,.sl true 27 (rowsO (tab2 la.length (fun u v=>(pc la u v+pc lb u v)%m)))],.int .i64 0]):=by
 refine fO Tryz.func38 Tryz.ntmps38 (by rw [Tryz.results38]) fun C hP hM hC=>?_
 obtain ⟨a1,a2,a3,a4,a5⟩:=Hs ha
 obtain ⟨_,_,_,_,b5⟩:=Hs hb
 rw [hl] at b5
 have c1:=Kn m la lb ha hb hl hsa hsb
 have c2:=Nd m la lb la.length (by omega) a2 a5 b5 (by omega) (by omega)
 have zq1:((0:Int) != 0)=false:=rfl
 (repeat (first|((with_reducible refine rC rfl fun K hK=>?_);simp only [go_sem,seval,↓reduceIte,zq1];(first|refine hK _ _ _ ?_|refine ⟨_,c1,hK _ _ _ ?_⟩|refine ⟨_,c2,hK _ _ _ ?_⟩);clear hK K)|refine sT ?_))
 refine rt2 ?_
 rfl
end Go.Proofs.YtapdekacpecgiaaGreat
