import Derived.Test.YtapdekacpecgiaaGreatBf
import Derived.Test.YtapdekacpecgiaaGreatVz
namespace Go.Proofs.YtapdekacpecgiaaGreat
open Go.RowKit
set_option linter.unusedSimpArgs false
set_option linter.unusedVariables false
set_option linter.unusedSectionVars false
set_option maxRecDepth 20000
set_option maxHeartbeats 1000000
def lnJ (w:List Int) (n:Nat) (s:List (List Int)):Nat→List (List Int)
 | 0=>s
 | j+1=>put2 (lnJ w n s j) j (n-1-j) (at' w n)
def lnN (w:List Int) (D:Nat):Nat→List (List Int)
 | 0=>zeT D
 | k+1=>lnJ w (k+1) (lnN w D k) (k+1)
theorem V6 {m:Int} (hm:1<m) {w:List Int} (hw:∀ x∈w,0≤x∧x<m) (n:Nat) {s:List (List Int)} {N:Nat} (hs:Pl m N s):∀ j,Pl m N (lnJ w n s j)
 | 0=>hs
 | j+1=>(V6 hm hw n hs j).put (An hw (by omega) n) j _
theorem Af3 {m:Int} (hm:1<m) {w:List Int} (hw:∀ x∈w,0≤x∧x<m) (D:Nat):∀ k,Pl m (D+1) (lnN w D k)
 | 0=>E4 (by omega) D
 | k+1=>V6 hm hw (k+1) (Af3 hm hw D k) (k+1)
def vN (w:List Int) (D:Nat):Nat→List (List Int)
 | 0=>zeT D
 | i+1=>put2 (vN w D i) i 0 (at' w i)
theorem Aiw {m:Int} (hm:1<m) {w:List Int} (hw:∀ x∈w,0≤x∧x<m) (D:Nat):∀ k,Pl m (D+1) (vN w D k)
 | 0=>E4 (by omega) D
 | k+1=>(Aiw hm hw D k).put (An hw (by omega) k) k 0
def sgL (m:Int) (k:Nat):List Int:=tab k (fun i=>if i%2=0 then 1 else m-1)
def blV (m:Int) (h w:List Int) (n:Nat):Int:=(m-(at' h 2*at' w n+(if n=1 then at' h 0 else 0))%m)%m
def blL (m:Int) (h w:List Int):Nat→List Int
 | 0=>[1]
 | n+1=>blL m h w n++[blV m h w (n+1)]
theorem Ai3 {m:Int} (hm:1<m) (h w:List Int):∀ n,(blL m h w n).length=n+1∧∀ x∈blL m h w n,0≤x∧x<m
 | 0=>⟨rfl,fun x hx=>by rw [blL] at hx;rw [List.mem_singleton.1 hx];omega⟩
 | n+1=>by
  have ih:=Ai3 hm h w n
  refine ⟨by rw [blL,List.length_append,ih.1];rfl,Nh ih.2 (Aq _ m (by omega))⟩
theorem Aix {m:Int} (hm:1<m) (k:Nat):(sgL m k).length=k∧∀ x∈sgL m k,0≤x∧x<m:=⟨Ah _ _,fun x hx=>by
 obtain ⟨i,_,rfl⟩:=Cr.1 hx
 split <;> omega⟩
def weW (m:Int) (h:List Int) (D:Nat):List Int:=wsL m h (D+1) (D-1)
def weF (D:Nat):List (List Int):=put2 (zeT D) 1 0 1
def weP (m:Int) (D:Nat) (a b:List (List Int)):List (List Int):=pmul m (D+1) (pc a) (pc b)
def weV (m:Int) (D:Nat) (L w0:List (List Int)):List (List Int):=sadT m (D+1) w0 (sscT m (m-1) (D+1) (weP m D L (weF D)))
def weT (m:Int) (D:Nat) (h:List Int) (L V Q:List (List Int)):List (List Int):=sadT m (D+1) (sadT m (D+1) (sadT m (D+1) (sadT m (D+1) (sscT m (at' h 0) (D+1) L) (sscT m (at' h 1) (D+1) V)) (sscT m (at' h 2) (D+1) Q)) (sscT m (2*at' h 3%m) (D+1) (weP m D L V))) (sscT m (3*at' h 4%m) (D+1) (weP m D Q V))
def weB (m:Int) (D:Nat) (h:List Int) (L Q:List (List Int)):List (List Int):=sadT m (D+1) (sadT m (D+1) (sscT m (at' h 1) (D+1) L) (sscT m (at' h 3) (D+1) Q)) (sscT m (at' h 4) (D+1) (weP m D Q L))
def weQ (m:Int) (D:Nat) (T B:List (List Int)):List (List Int):=weP m D T (aftL m (D+1) (pc B) (sgL m (D+1)) (sgL m (D+1)).length)
def weU (m:Int) (D:Nat) (q:List (List Int)):List (List Int):=sscT m (m-1) (D+1) (sadT m (D+1) (sadT m (D+1) (weF D) (trnI (weF D) (D+1) (D+1))) q)
def weC (m:Int) (D:Nat) (h w:List Int):List Int:=timesL m ((tab (D+1) (fun _=>0)).set 1 (m-1)) (invS m (blL m h w D) D) D
def weE (m:Int) (h:List Int) (D:Nat):List (List Int):=
 let w:=weW m h D
 let L:=lnN w D (D+1)
 let V:=weV m D L (vN w D (D+1))
 let Q:=weP m D L L
 let u:=weU m D (weQ m D (weT m D h L V Q) (weB m D h L Q))
 aftL m (D+1) (pc u) (weC m D h w) (weC m D h w).length
theorem Ado {m:Int} (hm:0<m) (h:List Int) (D:Nat):Pl m (D+1) (weE m h D):=Fb hm _ _ _ _
set_option maxHeartbeats 16000000 in
theorem F3 (m:Int) (h:List Int) (D:Nat) (hm:1<m) (hm2:m≤10000) (hl:h.length=5) (hh:∀ x∈h,0≤x∧x<m) (h1:1≤D) (hD:D≤100):AFn Tryz.prog 269 [.int .i64 m,.int .i64 D,.sl false 2 (intL h)] (.sl true 27 (rowsO (weE m h D))):=by
 refine fO Tryz.func269 Tryz.ntmps269 (by rw [Tryz.results269]) fun C hP hM hC=>?_
 have z:(0:Int)<m:=by omega
 have hZ:AFn Tryz.prog 176 [.int .i64 D] (.sl true 27 (rowsO (zeT D))):=Bz D (by omega)
 have hS:=O1 m h (D+1) hm hm2 hl hh (by omega) (by omega)
 rw [show D+1-2=D-1 by omega] at hS
 have hwf:(weW m h D).length=D+2∧∀ x∈weW m h D,0≤x∧x<m:=Zu hm h (D+1) (D-1)
 have hS:AFn Tryz.prog 275 [.int .i64 m,.int .i64 (D+1:Nat),.sl false 2 (intL h)] (.sl true 2 (intL (weW m h D))):=hS
 have x0:=An hh z 0
 have x1:=An hh z 1
 have x2:=An hh z 2
 have x3:=An hh z 3
 have x4:=An hh z 4
 have iD:IntKind.i64.wrap ((D:Int)+1)=((D+1:Nat):Int):=by rw [wid _ (by omega) (by omega)];omega
 obtain ⟨w,ew⟩:∃ w,w=weW m h D:=⟨_,rfl⟩
 rw [← ew] at hS hwf
 have pN:=Af3 hm hwf.2 D
 have pV:=Aiw hm hwf.2 D
 have pF:Pl m (D+1) (weF D):=(E4 z D).put (by omega) 1 0
 have pZ:Pl m (D+1) (zeT D):=E4 z D
 obtain ⟨L,eL⟩:∃ L,L=lnN w D (D+1):=⟨_,rfl⟩
 have pL:Pl m (D+1) L:=by rw [eL];exact pN (D+1)
 have pW:=pV (D+1)
 obtain ⟨v0,ev0⟩:∃ v0,v0=vN w D (D+1):=⟨_,rfl⟩
 rw [← ev0] at pW
 have a1:=Ch m L (weF D) (D+1) z hm2 pL pF (by omega) (by omega)
 have p1:Pl m (D+1) (weP m D L (weF D)):=E0 z _ _ _
 have a2:=Bs m (m-1) (weP m D L (weF D)) (D+1) z hm2 (by omega) p1 (by omega)
 have p2:=Ef z (m-1) (D+1) (weP m D L (weF D))
 have a3:=Cn m v0 _ (D+1) z hm2 pW p2 (by omega)
 have pVV:Pl m (D+1) (weV m D L v0):=Ev z _ _ _
 obtain ⟨V,eV⟩:∃ V,V=weV m D L v0:=⟨_,rfl⟩
 have a3:AFn Tryz.prog 213 [.int .i64 m,.sl false 27 (rowsF v0),.sl false 27 (rowsF (sscT m (m-1) (D+1) (weP m D L (weF D))))] (.sl true 27 (rowsO V)):=by rw [eV];exact a3
 rw [← eV] at pVV
 have a4:=Ch m L L (D+1) z hm2 pL pL (by omega) (by omega)
 have pQ:Pl m (D+1) (weP m D L L):=E0 z _ _ _
 obtain ⟨Q,eqQ⟩:∃ Q,Q=weP m D L L:=⟨_,rfl⟩
 have a4:AFn Tryz.prog 192 [.int .i64 m,.sl false 27 (rowsF L),.sl false 27 (rowsF L)] (.sl true 27 (rowsO Q)):=by rw [eqQ];exact a4
 rw [← eqQ] at pQ
 have a1:AFn Tryz.prog 192 [.int .i64 m,.sl false 27 (rowsF L),.sl false 27 (rowsF (weF D))] (.sl true 27 (rowsO (weP m D L (weF D)))):=a1
 have wm:IntKind.i64.wrap (m-1)=m-1:=wid _ (by omega) (by omega)
 have w23:IntKind.i64.wrap (2*at' h 3)=2*at' h 3:=wid _ (by omega) (by omega)
 have w34:IntKind.i64.wrap (3*at' h 4)=3*at' h 4:=wid _ (by omega) (by omega)
 have m23:=Aq (2*at' h 3) m z
 have m34:=Aq (3*at' h 4) m z
 have b1:=Bs m (at' h 0) L (D+1) z hm2 x0 pL (by omega)
 have b2:=Bs m (at' h 1) V (D+1) z hm2 x1 pVV (by omega)
 have b3:=Cn m _ _ (D+1) z hm2 (Ef z (at' h 0) (D+1) L) (Ef z (at' h 1) (D+1) V) (by omega)
 have b4:=Bs m (at' h 2) Q (D+1) z hm2 x2 pQ (by omega)
 have b5:=Cn m _ _ (D+1) z hm2 (Ev z (D+1) (sscT m (at' h 0) (D+1) L) (sscT m (at' h 1) (D+1) V)) (Ef z (at' h 2) (D+1) Q) (by omega)
 have b6:AFn Tryz.prog 192 [.int .i64 m,.sl false 27 (rowsF L),.sl false 27 (rowsF V)] (.sl true 27 (rowsO (weP m D L V))):=Ch m L V (D+1) z hm2 pL pVV (by omega) (by omega)
 have q6:Pl m (D+1) (weP m D L V):=E0 z _ _ _
 have b7:=Bs m (2*at' h 3%m) _ (D+1) z hm2 m23 q6 (by omega)
 have b8:=Cn m _ _ (D+1) z hm2 (Ev z (D+1) (sadT m (D+1) (sscT m (at' h 0) (D+1) L) (sscT m (at' h 1) (D+1) V)) (sscT m (at' h 2) (D+1) Q)) (Ef z (2*at' h 3%m) (D+1) (weP m D L V)) (by omega)
 have b9:AFn Tryz.prog 192 [.int .i64 m,.sl false 27 (rowsF Q),.sl false 27 (rowsF V)] (.sl true 27 (rowsO (weP m D Q V))):=Ch m Q V (D+1) z hm2 pQ pVV (by omega) (by omega)
 have q9:Pl m (D+1) (weP m D Q V):=E0 z _ _ _
 have b10:=Bs m (3*at' h 4%m) _ (D+1) z hm2 m34 q9 (by omega)
 have b11:=Cn m _ _ (D+1) z hm2 (Ev z (D+1) (sadT m (D+1) (sadT m (D+1) (sscT m (at' h 0) (D+1) L) (sscT m (at' h 1) (D+1) V)) (sscT m (at' h 2) (D+1) Q)) (sscT m (2*at' h 3%m) (D+1) (weP m D L V))) (Ef z (3*at' h 4%m) (D+1) (weP m D Q V)) (by omega)
 have c1:=Bs m (at' h 1) L (D+1) z hm2 x1 pL (by omega)
 have c2:=Bs m (at' h 3) Q (D+1) z hm2 x3 pQ (by omega)
 have c3:=Cn m _ _ (D+1) z hm2 (Ef z (at' h 1) (D+1) L) (Ef z (at' h 3) (D+1) Q) (by omega)
 have c4:AFn Tryz.prog 192 [.int .i64 m,.sl false 27 (rowsF Q),.sl false 27 (rowsF L)] (.sl true 27 (rowsO (weP m D Q L))):=Ch m Q L (D+1) z hm2 pQ pL (by omega) (by omega)
 have q4:Pl m (D+1) (weP m D Q L):=E0 z _ _ _
 have c5:=Bs m (at' h 4) _ (D+1) z hm2 x4 q4 (by omega)
 have c6:=Cn m _ _ (D+1) z hm2 (Ev z (D+1) (sscT m (at' h 1) (D+1) L) (sscT m (at' h 3) (D+1) Q)) (Ef z (at' h 4) (D+1) (weP m D Q L)) (by omega)
 have pT:Pl m (D+1) (weT m D h L V Q):=Ev z _ _ _
 have pB:Pl m (D+1) (weB m D h L Q):=Ev z _ _ _
 obtain ⟨TT,eTT⟩:∃ TT,TT=weT m D h L V Q:=⟨_,rfl⟩
 obtain ⟨BB,eBB⟩:∃ BB,BB=weB m D h L Q:=⟨_,rfl⟩
 have eT2:=eTT
 have eB2:=eBB
 rw [weT] at eT2
 rw [weB] at eB2
 refine AWP.tailR 15 [(17,⟨2,.own (.sl true 27 (rowsO BB))⟩),(16,⟨4,.own (.sl true 27 (rowsO TT))⟩),(11,⟨1,.own (.sl true 27 (rowsO (weF D)))⟩),(7,⟨1,.own (.sl true 2 (intL w))⟩),(0,⟨0,.val (.int .i64 m)⟩),(1,⟨0,.val (.int .i64 D)⟩),(2,⟨0,.val (.sl false 2 (intL h))⟩)] ?_ (fun R tail=>?_)
 ·simp only [dropSeq]
  clear a1 a2 a3 a4 b1 b2 b3 b4 b5 b6 b7 b8 b9 b10 b11 c1 c2 c3 c4 c5 c6 eT2 eB2
  (repeat (first|((with_reducible refine rC rfl fun K hK=>?_);simp only [go_sem,seval,↓reduceIte];refine hK _ _ _ ?_;clear hK K)|refine sT ?_))
  rw [← eTT] at pT
  rw [← eBB] at pB
  have hsg:=Aix hm (D+1)
  have d1:=C9 m (sgL m (D+1)) BB (D+1) z hm2 pB hsg.2 (by omega) (by omega) (by omega)
  have pa:=Fb z (D+1) (pc BB) (sgL m (D+1)) (sgL m (D+1)).length
  have d2:AFn Tryz.prog 192 [.int .i64 m,.sl false 27 (rowsF TT),.sl false 27 (rowsF (aftL m (D+1) (pc BB) (sgL m (D+1)) (sgL m (D+1)).length))] (.sl true 27 (rowsO (weQ m D TT BB))):=Ch m TT _ (D+1) z hm2 pT pa (by omega) (by omega)
  have pq:Pl m (D+1) (weQ m D TT BB):=E0 z _ _ _
  have d3:=Ru m (weF D) (D+1) z pF (by omega) (by omega)
  have ptn:=Rc z pF (D+1)
  have d4:=Cn m (weF D) (trnI (weF D) (D+1) (D+1)) (D+1) z hm2 pF ptn (by omega)
  have p4:=Ev z (D+1) (weF D) (trnI (weF D) (D+1) (D+1))
  have d5:=Cn m (sadT m (D+1) (weF D) (trnI (weF D) (D+1) (D+1))) (weQ m D TT BB) (D+1) z hm2 p4 pq (by omega)
  have p5:=Ev z (D+1) (sadT m (D+1) (weF D) (trnI (weF D) (D+1) (D+1))) (weQ m D TT BB)
  have d6:AFn Tryz.prog 214 [.int .i64 m,.int .i64 (m-1),.sl false 27 (rowsF (sadT m (D+1) (sadT m (D+1) (weF D) (trnI (weF D) (D+1) (D+1))) (weQ m D TT BB)))] (.sl true 27 (rowsO (weU m D (weQ m D TT BB)))):=Bs m (m-1) _ (D+1) z hm2 (by omega) p5 (by omega)
  have pU:Pl m (D+1) (weU m D (weQ m D TT BB)):=Ef z _ _ _
  obtain ⟨U,eU⟩:∃ U,U=weU m D (weQ m D TT BB):=⟨_,rfl⟩
  rw [← eU] at d6 pU
  refine AWP.loop (fun v:Nat×Nat=>[(19,⟨0,.val (.int .i64 v.1)⟩),(18,⟨v.2,.own (.sl true 2 (intL (sgL m v.1)))⟩),(17,⟨2,.own (.sl true 27 (rowsO BB))⟩),(16,⟨4,.own (.sl true 27 (rowsO TT))⟩),(11,⟨1,.own (.sl true 27 (rowsO (weF D)))⟩),(7,⟨1,.own (.sl true 2 (intL w))⟩),(0,⟨0,.val (.int .i64 m)⟩),(1,⟨0,.val (.int .i64 D)⟩),(2,⟨0,.val (.sl false 2 (intL h))⟩)]) (fun v=>v.1≤D+1) (fun v=>D+1-v.1) (0,1) (Nat.zero_le _) (fun v=>rfl) ?_ (fun v hv=>?_)
  ·simp [Sub,lk,sgL,tab,intL]
  ·obtain ⟨j,u⟩:=v
   simp only at hv ⊢
   have hgl:=(Aix hm j).1
   by_cases hjt:j<D+1
   ·have e2:(j:Int).tmod 2=((j%2:Nat):Int):=by rw [tm _ _ (by omega)];omega
    have es:sgL m (j+1)=sgL m j++[if j%2=0 then 1 else m-1]:=(Kv j _).symm
    have jj:IntKind.i64.wrap ((j:Int)+1)=((j+1:Nat):Int):=by rw [wid _ (by omega) (by omega)];omega
    rcases Nat.mod_two_eq_zero_or_one j with e0|e0
    ·rw [if_pos e0] at es
     have e3:(j:Int).tmod 2=0:=by rw [e2];omega
     have zq1:(j:Int)≤(D:Int):=(by omega);have zq2:(2:Int)≠0:=(by decide);have zq3:=Aa [1,m-1] 1 (by simp);have zq4:([T.int .i64 1,T.int .i64 (m-1)]:List T)=intL [1,m-1]:=rfl;have zq5:=Ac [1,m-1] 0 (by simp);have zq6:=Ac [1,m-1] 1 (by simp);have zq7:=Ae [1,m-1] 0 (by simp);have zq8:=Ae [1,m-1] 1 (by simp);have zq9:([1,m-1]:List Int).getD 0 0=1:=rfl;have zq10:([1,m-1]:List Int).getD 1 0=m-1:=rfl;have zq11:([1,m-1]:List Int).length=2:=rfl;have zq12:(0:Int)<((2:Nat):Int):=(by omega);have zq13:(1:Int)<((2:Nat):Int):=(by omega);have zq14:(0:Int)≤1:=(by omega);have zq15:(1:Int).toNat=1:=rfl;have zq16:j+1≤1099511627776:=(by omega);have zq17:(j+1)*8≤140737488355328:=(by omega)
     (repeat (first|((with_reducible refine rC rfl fun K hK=>?_);simp only [go_sem,seval,↓reduceIte,zq1,wm,e3,zq2,Int.le_refl,Int.toNat_zero,zq3,zq4,zq5,zq6,zq7,zq8,zq9,zq10,zq11,zq12,zq13,zq14,zq15,List.take_zero,Nat.zero_mul,Nat.mul_one,jj,Bv,hgl,zq16,zq17];refine hK _ _ _ ?_;clear hK K)|refine sT ?_))
     exact ⟨(j+1,u+1),by simp only;omega,by simp only;omega,by simp only [es];simp [Sub,lk]⟩
    ·rw [if_neg (by omega)] at es
     have e3:(j:Int).tmod 2=1:=by rw [e2];omega
     have zq18:(j:Int)≤(D:Int):=(by omega);have zq19:(2:Int)≠0:=(by decide);have zq20:=Aa [1,m-1] 1 (by simp);have zq21:([T.int .i64 1,T.int .i64 (m-1)]:List T)=intL [1,m-1]:=rfl;have zq22:=Ac [1,m-1] 0 (by simp);have zq23:=Ac [1,m-1] 1 (by simp);have zq24:=Ae [1,m-1] 0 (by simp);have zq25:=Ae [1,m-1] 1 (by simp);have zq26:([1,m-1]:List Int).getD 0 0=1:=rfl;have zq27:([1,m-1]:List Int).getD 1 0=m-1:=rfl;have zq28:([1,m-1]:List Int).length=2:=rfl;have zq29:(0:Int)<((2:Nat):Int):=(by omega);have zq30:(1:Int)<((2:Nat):Int):=(by omega);have zq31:(0:Int)≤1:=(by omega);have zq32:(1:Int).toNat=1:=rfl;have zq33:j+1≤1099511627776:=(by omega);have zq34:(j+1)*8≤140737488355328:=(by omega)
     (repeat (first|((with_reducible refine rC rfl fun K hK=>?_);simp only [go_sem,seval,↓reduceIte,zq18,wm,e3,zq19,zq20,zq21,zq22,zq23,zq24,zq25,zq26,zq27,zq28,zq29,zq30,zq31,zq32,List.take_zero,Nat.zero_mul,Nat.mul_one,jj,Bv,hgl,zq33,zq34];refine hK _ _ _ ?_;clear hK K)|refine sT ?_))
     exact ⟨(j+1,u+1),by simp only;omega,by simp only;omega,by simp only [es];simp [Sub,lk]⟩
   ·obtain rfl:j=D+1:=by omega
    have zq35:¬ ((D+1:Nat):Int)≤(D:Int):=(by omega);have zq36:[T.int .i64 1]=intL (blL m h w 0):=rfl
    (repeat (first|((with_reducible refine rC rfl fun K hK=>?_);simp only [go_sem,seval,↓reduceIte,zq35,wm,zq36];(first|refine hK _ _ _ ?_|refine ⟨_,d1,hK _ _ _ ?_⟩|refine ⟨_,d2,hK _ _ _ ?_⟩|refine ⟨_,d3,hK _ _ _ ?_⟩|refine ⟨_,d4,hK _ _ _ ?_⟩|refine ⟨_,d5,hK _ _ _ ?_⟩|refine ⟨_,d6,hK _ _ _ ?_⟩);clear hK K)|refine sT ?_))
    refine AWP.loop (fun v:Nat×Nat=>[(23,⟨0,.val (.int .i64 (v.1+1:Nat))⟩),(22,⟨v.2,.own (.sl true 2 (intL (blL m h w v.1)))⟩),(21,⟨2,.own (.sl true 27 (rowsO U))⟩),(7,⟨1,.own (.sl true 2 (intL w))⟩),(0,⟨0,.val (.int .i64 m)⟩),(1,⟨0,.val (.int .i64 D)⟩),(2,⟨0,.val (.sl false 2 (intL h))⟩)]) (fun v=>v.1≤D) (fun v=>D-v.1) (0,1) (Nat.zero_le _) (fun v=>rfl) ?_ (fun v hv=>?_)
    ·simp [Sub,lk,blL,intL]
    ·obtain ⟨n,u⟩:=v
     simp only at hv ⊢
     have bf:=Ai3 hm h w n
     by_cases hnt:n<D
     ·have b0:=J9 hm2 x2 (An hwf.2 z (n+1))
      have nn:IntKind.i64.wrap (((n+1:Nat):Int)+1)=((n+1+1:Nat):Int):=by rw [wid _ (by omega) (by omega)];omega
      have es:blL m h w (n+1)=blL m h w n++[blV m h w (n+1)]:=rfl
      by_cases hn0:n=0
      ·have eb:blV m h w (n+1)=(m-(at' h 2*at' w (n+1)+at' h 0)%m)%m:=by rw [blV,if_pos (by omega)]
       have eb2:=Aq (at' h 2*at' w (n+1)+at' h 0) m z
       have zq37:((n+1:Nat):Int)≤(D:Int):=(by omega);have zq38:(0:Int)≤1:=(by omega);have zq39:(1:Int).toNat=1:=rfl;have zq40:(2:Int)<((5:Nat):Int):=(by omega);have zq41:(0:Int)≤2:=(by omega);have zq42:(2:Int).toNat=2:=rfl;have zq43:=Aa h 2 (by omega);have zq44:=Ac h 2 (by omega);have zq45:h.getD 2 0=at' h 2:=rfl;have zq46:(0:Int)<((5:Nat):Int):=(by omega);have zq47:=Ac h 0 (by omega);have zq48:h.getD 0 0=at' h 0:=rfl;have zq49:((n+1:Nat):Int)<((D+2:Nat):Int):=(by omega);have zq50:=Aa (w) (n+1) (by omega);have zq51:=Ae (w) (n+1) (by omega);have zq52:(w).getD (n+1) 0=at' (w) (n+1):=rfl;have zq53:(((n+1:Nat):Int)==1)=true:=(by rw [beq_iff_eq];omega);have zq54:=wid (at' h 2*at' w (n+1)) (by omega) (by omega);have zq55:=wid (at' h 2*at' w (n+1)+at' h 0) (by omega) (by omega);have zq56:=tm (at' h 2*at' w (n+1)+at' h 0) m (by omega);have zq57:m≠0:=(by omega);have zq58:=wid (m-(at' h 2*at' w (n+1)+at' h 0)%m) (by omega) (by omega);have zq59:=tm (m-(at' h 2*at' w (n+1)+at' h 0)%m) m (by omega);have zq60:n+1+1≤1099511627776:=(by omega);have zq61:(n+1+1)*8≤140737488355328:=(by omega)
       (repeat (first|((with_reducible refine rC rfl fun K hK=>?_);simp only [go_sem,seval,↓reduceIte,zq37,Int.natCast_nonneg,Int.toNat_natCast,Nat.mul_one,Int.le_refl,Int.toNat_zero,List.take_zero,Nat.zero_mul,zq38,zq39,Nat.sub_zero,hl,zq40,zq41,zq42,zq43,zq44,zq45,zq46,zq47,zq48,hwf.1,zq49,zq50,zq51,zq52,zq53,zq54,zq55,zq56,zq57,zq58,zq59,nn,Bv,bf.1,zq60,zq61];refine hK _ _ _ ?_;clear hK K)|refine sT ?_))
       exact ⟨(n+1,u+1),by simp only;omega,by simp only;omega,by simp only [es,eb];simp [Sub,lk]⟩
      ·have eb:blV m h w (n+1)=(m-(at' h 2*at' w (n+1))%m)%m:=by rw [blV,if_neg (by omega),Int.add_zero]
       have eb2:=Aq (at' h 2*at' w (n+1)) m z
       have zq62:((n+1:Nat):Int)≤(D:Int):=(by omega);have zq63:(0:Int)≤1:=(by omega);have zq64:(1:Int).toNat=1:=rfl;have zq65:(2:Int)<((5:Nat):Int):=(by omega);have zq66:(0:Int)≤2:=(by omega);have zq67:(2:Int).toNat=2:=rfl;have zq68:=Aa h 2 (by omega);have zq69:=Ac h 2 (by omega);have zq70:h.getD 2 0=at' h 2:=rfl;have zq71:((n+1:Nat):Int)<((D+2:Nat):Int):=(by omega);have zq72:=Aa (w) (n+1) (by omega);have zq73:=Ae (w) (n+1) (by omega);have zq74:(w).getD (n+1) 0=at' (w) (n+1):=rfl;have zq75:(((n+1:Nat):Int)==1)=false:=(by rw [beq_eq_false_iff_ne];omega);have zq76:=wid (at' h 2*at' w (n+1)) (by omega) (by omega);have zq77:=tm (at' h 2*at' w (n+1)) m (by omega);have zq78:m≠0:=(by omega);have zq79:=wid (m-(at' h 2*at' w (n+1))%m) (by omega) (by omega);have zq80:=tm (m-(at' h 2*at' w (n+1))%m) m (by omega);have zq81:n+1+1≤1099511627776:=(by omega);have zq82:(n+1+1)*8≤140737488355328:=(by omega)
       (repeat (first|((with_reducible refine rC rfl fun K hK=>?_);simp only [go_sem,seval,↓reduceIte,zq62,Int.natCast_nonneg,Int.toNat_natCast,Nat.mul_one,Int.le_refl,Int.toNat_zero,List.take_zero,Nat.zero_mul,zq63,zq64,Nat.sub_zero,hl,zq65,zq66,zq67,zq68,zq69,zq70,hwf.1,zq71,zq72,zq73,zq74,zq75,zq76,zq77,zq78,zq79,zq80,nn,Bv,bf.1,zq81,zq82];refine hK _ _ _ ?_;clear hK K)|refine sT ?_))
       exact ⟨(n+1,u+1),by simp only;omega,by simp only;omega,by simp only [es,eb];simp [Sub,lk]⟩
     ·obtain rfl:n=D:=by omega
      have hzl:(tab (n+1) (fun _=>0)).length=n+1:=Ah _ _
      have hz2:((tab (n+1) (fun _=>0)).set 1 (m-1)).length=n+1:=by rw [List.length_set];exact hzl
      have hz3:∀ x∈(tab (n+1) (fun _=>0)).set 1 (m-1),0≤x∧x<m:=Ng (fun x hx=>by obtain ⟨i,_,rfl⟩:=Cr.1 hx;omega) (by omega) 1
      have f1:=No m (blL m h w n) n hm hm2 bf.2 (by omega) (by omega) (by omega)
      have f2:AFn Tryz.prog 182 [.int .i64 m,.sl false 2 (intL ((tab (n+1) (fun _=>0)).set 1 (m-1))),.sl false 2 (intL (invS m (blL m h w n) n)),.int .i64 n] (.sl true 2 (intL (weC m n h w))):=Da m _ (invS m (blL m h w n) n) n z hm2 hz3 (Ahz z _ _) (by omega) (by rw [Wp];omega) (by omega)
      have hcf:(weC m n h w).length=n+1∧∀ x∈weC m n h w,0≤x∧x<m:=M6 z _ _ _
      have f3:=C9 m (weC m n h w) U (n+1) z hm2 pU hcf.2 (by omega) (by omega) (by omega)
      have zq83:¬ ((n+1:Nat):Int)≤(n:Int):=(by omega);have zq84:(0:Int)≤1:=(by omega);have zq85:(1:Int).toNat=1:=rfl;have zq86:((n+1:Nat):Int)≤1099511627776:=(by omega);have zq87:(1:Int)<((n+1:Nat):Int):=(by omega)
      (repeat (first|((with_reducible refine rC rfl fun K hK=>?_);simp only [go_sem,seval,↓reduceIte,zq83,iD,Int.natCast_nonneg,Int.toNat_natCast,Nat.mul_one,Int.le_refl,Int.toNat_zero,List.take_zero,Nat.zero_mul,zq84,zq85,Nat.sub_zero,zq86,Bd,Dd,hzl,zq87,Aa (tab (n+1) (fun _=>0)) 1 (by omega),Ae (tab (n+1) (fun _=>0)) 1 (by omega),Ax,wm];(first|refine hK _ _ _ ?_|refine ⟨_,f1,hK _ _ _ ?_⟩|refine ⟨_,f2,hK _ _ _ ?_⟩|refine ⟨_,f3,hK _ _ _ ?_⟩);clear hK K)|refine sT ?_))
      refine rt1 ?_
      rw [eU,eTT,eBB,eV,eqQ,ev0,eL,ew]
      rfl
 simp only [putSeq]
 (repeat (first|((with_reducible refine rC rfl fun K hK=>?_);simp only [go_sem,seval,↓reduceIte,iD];(first|refine hK _ _ _ ?_|refine ⟨_,hZ,hK _ _ _ ?_⟩|refine ⟨_,hS,hK _ _ _ ?_⟩);clear hK K)|refine sT ?_))
 refine AWP.loop (fun k:Nat=>[(9,⟨0,.val (.int .i64 (k+1:Nat))⟩),(8,⟨1,.own (.sl true 27 (rowsO (lnN w D k)))⟩),(7,⟨1,.own (.sl true 2 (intL w))⟩),(0,⟨0,.val (.int .i64 m)⟩),(1,⟨0,.val (.int .i64 D)⟩),(2,⟨0,.val (.sl false 2 (intL h))⟩)]) (fun k=>k≤D+1) (fun k=>D+1-k) 0 (Nat.zero_le _) (fun k=>rfl) ?_ (fun k hk=>?_)
 ·simp [Sub,lk,lnN]
 ·by_cases hlt:k<D+1
  ·have zq88:((k+1:Nat):Int)≤((D+1:Nat):Int):=(by omega)
   (repeat (first|((with_reducible refine rC rfl fun K hK=>?_);simp only [go_sem,seval,↓reduceIte,iD,zq88];refine hK _ _ _ ?_;clear hK K)|refine sT ?_))
   refine AWP.loop (fun j:Nat=>[(10,⟨0,.val (.int .i64 j)⟩),(9,⟨0,.val (.int .i64 (k+1:Nat))⟩),(8,⟨1,.own (.sl true 27 (rowsO (lnJ w (k+1) (lnN w D k) j)))⟩),(7,⟨1,.own (.sl true 2 (intL w))⟩),(0,⟨0,.val (.int .i64 m)⟩),(1,⟨0,.val (.int .i64 D)⟩),(2,⟨0,.val (.sl false 2 (intL h))⟩)]) (fun j=>j≤k+1) (fun j=>k+1-j) 0 (Nat.zero_le _) (fun j=>rfl) ?_ (fun j hj=>?_)
   ·simp [Sub,lk,lnJ]
   ·have p0:=V6 hm hwf.2 (k+1) (pN k) j
    by_cases hjt:j<k+1
    ·have k1:IntKind.i64.wrap (((k+1:Nat):Int)-1)=(k:Int):=by rw [wid _ (by omega) (by omega)];omega
     have k2:IntKind.i64.wrap ((k:Int)-(j:Int))=((k-j:Nat):Int):=by rw [wid _ (by omega) (by omega)];omega
     have zq89:(j:Int)<((k+1:Nat):Int):=(by omega);have zq90:(0:Int)≤1:=(by omega);have zq91:(1:Int).toNat=1:=rfl;have zq92:(j:Int)<((D+1:Nat):Int):=(by omega);have zq93:((k-j:Nat):Int)<((D+1-j:Nat):Int):=(by omega);have zq94:((k+1:Nat):Int)<((D+2:Nat):Int):=(by omega);have zq95:=Aa (w) (k+1) (by omega);have zq96:=Ae (w) (k+1) (by omega);have zq97:(w).getD (k+1) 0=at' (w) (k+1):=rfl;have zq98:=Aj (lnJ w (k+1) (lnN w D k) j) (j) (by rw [(p0).len];omega);have zq99:=Ap (lnJ w (k+1) (lnN w D k) j) (j) (by rw [(p0).len];omega);have zq100:=Bw (lnJ w (k+1) (lnN w D k) j) (j) (k-j) (at' w (k+1)) (by rw [(p0).len];omega);have zq101:=wid ((j:Int)+1) (by omega) (by omega)
     (repeat (first|((with_reducible refine rC rfl fun K hK=>?_);simp only [go_sem,seval,↓reduceIte,zq89,Int.natCast_nonneg,Int.toNat_natCast,Nat.mul_one,Int.le_refl,Int.toNat_zero,List.take_zero,Nat.zero_mul,zq90,zq91,Nat.sub_zero,k1,k2,zq92,zq93,hwf.1,zq94,zq95,zq96,zq97,Af,(p0).len,zq98,zq99,(p0).row (j) (by omega),Ae ((lnJ w (k+1) (lnN w D k) j).getD (j) []) (k-j) (by rw [(p0).row _ (by omega)];omega),Aa ((lnJ w (k+1) (lnN w D k) j).getD (j) []) (k-j) (by rw [(p0).row _ (by omega)];omega),zq100,zq101];refine hK _ _ _ ?_;clear hK K)|refine sT ?_))
     exact ⟨j+1,by omega,by omega,by simp [Sub,lk,lnJ]⟩
    ·have k3:IntKind.i64.wrap (((k+1:Nat):Int)+1)=((k+1+1:Nat):Int):=by rw [wid _ (by omega) (by omega)];omega
     have zq102:¬ (j:Int)<((k+1:Nat):Int):=(by omega)
     (repeat (first|((with_reducible refine rC rfl fun K hK=>?_);simp only [go_sem,seval,↓reduceIte,zq102,k3];refine hK _ _ _ ?_;clear hK K)|refine sT ?_))
     refine ⟨k+1,by omega,by omega,?_⟩
     rw [show j=k+1 by omega]
     simp [Sub,lk,lnN]
  ·have eF:put2 (zeT D) 1 0 1=weF D:=rfl
   have zq103:¬ ((k+1:Nat):Int)≤((D+1:Nat):Int):=(by omega);have zq104:(0:Int)≤1:=(by omega);have zq105:(1:Int).toNat=1:=rfl;have zq106:(1:Int)<((D+1:Nat):Int):=(by omega);have zq107:(0:Int)<((D+1-1:Nat):Int):=(by omega);have zq108:(0:Int)<(D:Int):=(by omega);have zq109:=Aj (zeT D) (1) (by rw [(pZ).len];omega);have zq110:=Ap (zeT D) (1) (by rw [(pZ).len];omega);have zq111:=Bw (zeT D) (1) (0) 1 (by rw [(pZ).len];omega)
   (repeat (first|((with_reducible refine rC rfl fun K hK=>?_);simp only [go_sem,seval,↓reduceIte,iD,zq103,Int.natCast_nonneg,Int.toNat_natCast,Nat.mul_one,Int.le_refl,Int.toNat_zero,List.take_zero,Nat.zero_mul,zq104,zq105,Nat.sub_zero,zq106,zq107,zq108,Af,(pZ).len,zq109,zq110,(pZ).row (1) (by omega),Ae ((zeT D).getD (1) []) (0) (by rw [(pZ).row _ (by omega)];omega),Aa ((zeT D).getD (1) []) (0) (by rw [(pZ).row _ (by omega)];omega),zq111,eF];(first|refine hK _ _ _ ?_|refine ⟨_,hZ,hK _ _ _ ?_⟩);clear hK K)|refine sT ?_))
   rw [show k=D+1 by omega,← eL]
   refine AWP.loop (fun i:Nat=>[(13,⟨0,.val (.int .i64 i)⟩),(12,⟨1,.own (.sl true 27 (rowsO (vN w D i)))⟩),(11,⟨1,.own (.sl true 27 (rowsO (weF D)))⟩),(8,⟨1,.own (.sl true 27 (rowsO L))⟩),(7,⟨1,.own (.sl true 2 (intL w))⟩),(0,⟨0,.val (.int .i64 m)⟩),(1,⟨0,.val (.int .i64 D)⟩),(2,⟨0,.val (.sl false 2 (intL h))⟩)]) (fun i=>i≤D+1) (fun i=>D+1-i) 0 (Nat.zero_le _) (fun i=>rfl) ?_ (fun i hi=>?_)
   ·simp [Sub,lk,vN]
   ·have p0:=pV i
    by_cases hit:i<D+1
    ·have zq112:(i:Int)≤(D:Int):=(by omega);have zq113:(0:Int)≤1:=(by omega);have zq114:(1:Int).toNat=1:=rfl;have zq115:(i:Int)<((D+1:Nat):Int):=(by omega);have zq116:(0:Int)<((D+1-i:Nat):Int):=(by omega);have zq117:((i:Nat):Int)<((D+2:Nat):Int):=(by omega);have zq118:=Aa (w) (i) (by omega);have zq119:=Ae (w) (i) (by omega);have zq120:(w).getD (i) 0=at' (w) (i):=rfl;have zq121:=Aj (vN w D i) (i) (by rw [(p0).len];omega);have zq122:=Ap (vN w D i) (i) (by rw [(p0).len];omega);have zq123:=Bw (vN w D i) (i) (0) (at' w i) (by rw [(p0).len];omega);have zq124:=wid ((i:Int)+1) (by omega) (by omega)
     (repeat (first|((with_reducible refine rC rfl fun K hK=>?_);simp only [go_sem,seval,↓reduceIte,zq112,Int.natCast_nonneg,Int.toNat_natCast,Nat.mul_one,Int.le_refl,Int.toNat_zero,List.take_zero,Nat.zero_mul,zq113,zq114,Nat.sub_zero,zq115,zq116,hwf.1,zq117,zq118,zq119,zq120,Af,(p0).len,zq121,zq122,(p0).row (i) (by omega),Ae ((vN w D i).getD (i) []) (0) (by rw [(p0).row _ (by omega)];omega),Aa ((vN w D i).getD (i) []) (0) (by rw [(p0).row _ (by omega)];omega),zq123,zq124];refine hK _ _ _ ?_;clear hK K)|refine sT ?_))
     exact ⟨i+1,by omega,by omega,by simp [Sub,lk,vN]⟩
    ·obtain rfl:i=D+1:=by omega
     have zq125:¬ ((D+1:Nat):Int)≤(D:Int):=(by omega);have zq126:(0:Int)≤1:=(by omega);have zq127:(1:Int).toNat=1:=rfl;have zq128:(0:Int)<((5:Nat):Int):=(by omega);have zq129:=Ac h 0 (by omega);have zq130:h.getD 0 0=at' h 0:=rfl;have zq131:(1:Int)<((5:Nat):Int):=(by omega);have zq132:(0:Int)≤1:=(by omega);have zq133:(1:Int).toNat=1:=rfl;have zq134:=Aa h 1 (by omega);have zq135:=Ac h 1 (by omega);have zq136:h.getD 1 0=at' h 1:=rfl;have zq137:(2:Int)<((5:Nat):Int):=(by omega);have zq138:(0:Int)≤2:=(by omega);have zq139:(2:Int).toNat=2:=rfl;have zq140:=Aa h 2 (by omega);have zq141:=Ac h 2 (by omega);have zq142:h.getD 2 0=at' h 2:=rfl;have zq143:(3:Int)<((5:Nat):Int):=(by omega);have zq144:(0:Int)≤3:=(by omega);have zq145:(3:Int).toNat=3:=rfl;have zq146:=Aa h 3 (by omega);have zq147:=Ac h 3 (by omega);have zq148:h.getD 3 0=at' h 3:=rfl;have zq149:(4:Int)<((5:Nat):Int):=(by omega);have zq150:(0:Int)≤4:=(by omega);have zq151:(4:Int).toNat=4:=rfl;have zq152:=Aa h 4 (by omega);have zq153:=Ac h 4 (by omega);have zq154:h.getD 4 0=at' h 4:=rfl;have zq155:=tm (2*at' h 3) m (by omega);have zq156:=tm (3*at' h 4) m (by omega);have zq157:m≠0:=(by omega)
     (repeat (first|((with_reducible refine rC rfl fun K hK=>?_);simp only [go_sem,seval,↓reduceIte,zq125,← ev0,wm,w23,w34,Int.natCast_nonneg,Int.toNat_natCast,Nat.mul_one,Int.le_refl,Int.toNat_zero,List.take_zero,Nat.zero_mul,zq126,zq127,Nat.sub_zero,hl,zq128,zq129,zq130,zq131,zq132,zq133,zq134,zq135,zq136,zq137,zq138,zq139,zq140,zq141,zq142,zq143,zq144,zq145,zq146,zq147,zq148,zq149,zq150,zq151,zq152,zq153,zq154,zq155,zq156,zq157];(first|refine hK _ _ _ ?_|refine ⟨_,a1,hK _ _ _ ?_⟩|refine ⟨_,a2,hK _ _ _ ?_⟩|refine ⟨_,a3,hK _ _ _ ?_⟩|refine ⟨_,a4,hK _ _ _ ?_⟩|refine ⟨_,b1,hK _ _ _ ?_⟩|refine ⟨_,b2,hK _ _ _ ?_⟩|refine ⟨_,b3,hK _ _ _ ?_⟩|refine ⟨_,b4,hK _ _ _ ?_⟩|refine ⟨_,b5,hK _ _ _ ?_⟩|refine ⟨_,b6,hK _ _ _ ?_⟩|refine ⟨_,b7,hK _ _ _ ?_⟩|refine ⟨_,b8,hK _ _ _ ?_⟩|refine ⟨_,b9,hK _ _ _ ?_⟩|refine ⟨_,b10,hK _ _ _ ?_⟩|refine ⟨_,b11,hK _ _ _ ?_⟩|refine ⟨_,c1,hK _ _ _ ?_⟩|refine ⟨_,c2,hK _ _ _ ?_⟩|refine ⟨_,c3,hK _ _ _ ?_⟩|refine ⟨_,c4,hK _ _ _ ?_⟩|refine ⟨_,c5,hK _ _ _ ?_⟩|refine ⟨_,c6,hK _ _ _ ?_⟩);clear hK K)|refine sT ?_))
     rw [← eT2,← eB2]
     refine AWP.sub ?_ (by rfl) tail
     simp [Sub,lk]
theorem Ii {l:List Int} (hB:Byt l) (s:Int×Int) (list:List Int) (h:0<list.length):pickX l s list∈list:=by
 have h1:=Bh hB s list.length
 have h2:=h1.2.1 (by omega)
 have h3:(nextX l s (list.length:Int)).toNat<list.length:=by omega
 rw [pickX,List.getD_eq_getElem?_getD,List.getElem?_eq_getElem h3]
 exact List.getElem_mem _
def d8X (l:List Int) (m:Int) (s:Int×Int):Int:=pickX l (nextS l s m) [0,0,1,nextX l s m]
def d8S (l:List Int) (m:Int) (s:Int×Int):Nat→Int×Int
 | 0=>s
 | i+1=>nextS l (nextS l (d8S l m s i) m) 4
def d8L (l:List Int) (m:Int) (s:Int×Int):Nat→List Int
 | 0=>[]
 | i+1=>d8L l m s i++[d8X l m (d8S l m s i)]
theorem Pg {l:List Int} {m:Int} {s:Int×Int} (hS:Sok l s):∀ n,Sok l (d8S l m s n)
 | 0=>hS
 | n+1=>Al (Al (Pg hS n) m) 4
theorem Tm {l:List Int} (hB:Byt l) {m:Int} (hm:1<m) (s:Int×Int):∀ n,(d8L l m s n).length=n∧∀ x∈d8L l m s n,0≤x∧x<m
 | 0=>⟨rfl,fun x hx=>absurd hx List.not_mem_nil⟩
 | n+1=>by
  have ih:=Tm hB hm s n
  have h1:=Bh hB (d8S l m s n) m
  have h2:=h1.2.1 (by omega)
  refine ⟨by rw [d8L,List.length_append,ih.1];rfl,Nh ih.2 ?_⟩
  have:=Ii hB (nextS l (d8S l m s n) m) [0,0,1,nextX l (d8S l m s n) m] (by simp)
  simp only [List.mem_cons,List.not_mem_nil,or_false] at this
  rw [d8X]
  omega
set_option maxHeartbeats 2000000 in
theorem Hf (a:Option Addr) (c:Nat) (l:List Int) (hB:Byt l) (s:Int×Int) (hS:Sok l s) (m:Int) (hm:1<m) (hm2:m≤10000):AFn Tryz.prog (5000000+270) [.str (.src a c l),.box 155 (.agg [.str (.raw a l.length c),.int .i64 s.1,.int .u64 s.2]),.int .i64 m] (.tup [.sl true 2 (intL (d8L l m s 5)),.box 155 (.agg [.str (.raw a l.length c),.int .i64 (d8S l m s 5).1,.int .u64 (d8S l m s 5).2])]):=by
 refine gO Tryz.func270 Tryz.ntmps270 (by rw [Tryz.results270]) fun C hP hM hC=>?_
 (repeat (first|((with_reducible refine rC rfl fun K hK=>?_);simp only [go_sem,seval,↓reduceIte];refine hK _ _ _ ?_;clear hK K)|refine sT ?_))
 refine AWP.loop (fun w:Nat×Nat=>[(6,⟨0,.val (.int .i64 w.1)⟩),(5,⟨w.2,.own (.sl true 2 (intL (d8L l m s w.1)))⟩),(1,⟨0,.val (.int .i64 m)⟩),(3000000,⟨0,.val (.str (.src a c l))⟩),(0,⟨0,.val (.addr 3000001 0 [] 0 [0])⟩),(3000001,⟨0,.own (.box 155 (.agg [.str (.raw a l.length c),.int .i64 (d8S l m s w.1).1,.int .u64 (d8S l m s w.1).2]))⟩)]) (fun w=>w.1≤5) (fun w=>5-w.1) (0,1) (Nat.zero_le _) (fun i=>rfl) ?_ (fun w hw=>?_)
 ·simp [Sub,lk,d8L,d8S,intL]
 ·obtain ⟨i,v⟩:=w
  simp only at hw ⊢
  by_cases hi:i<5
  ·have h1:=Pg (m:=m) hS i
   have h2:=Al h1 m
   have hll:=(Tm hB hm s i).1
   have zq1:(i:Int)<5:=(by omega);have zq2:i+1≤1099511627776:=(by omega);have zq3:(i+1)*8≤140737488355328:=(by omega);have zq4:=wid ((i:Int)+1) (by omega) (by omega);have zq5:=Ag a c l hB (d8S l m s i) h1 m;have zq6:=Cd a c l hB (nextS l (d8S l m s i) m) h2 [0,0,1,nextX l (d8S l m s i) m] (by simp) (by simp)
   (repeat (first|((with_reducible refine rC rfl fun K hK=>?_);simp only [go_sem,seval,↓reduceIte,zq1,Bv,hll,zq2,zq3,zq4];(first|refine hK _ _ _ ?_|refine ⟨_,zq5,hK _ _ _ ?_⟩|refine ⟨_,zq6,hK _ _ _ ?_⟩);clear hK K)|refine sT ?_))
   exact ⟨(i+1,v+1),by simp only;omega,by simp only;omega,by simp [Sub,lk,d8L,d8S,d8X]⟩
  ·obtain rfl:i=5:=by omega
   have zq7:¬ ((5:Nat):Int)<5:=(by omega);have zq8:¬ (5:Int)<5:=(by omega)
   (repeat (first|((with_reducible refine rC rfl fun K hK=>?_);simp only [go_sem,seval,↓reduceIte,zq7,zq8];refine hK _ _ _ ?_;clear hK K)|refine sT ?_))
   refine rg1 ?_
   rfl
set_option maxHeartbeats 2000000 in
theorem Py (a:Option Addr) (c:Nat) (l:List Int) (hB:Byt l) (s:Int×Int) (hS:Sok l s) (m:Int) (D:Nat) (h1:1≤D) (hD:D≤100) (h:nextX l s 6=0):AFn Tryz.prog (5000000+257) [.str (.src a c l),.box 155 (.agg [.str (.raw a l.length c),.int .i64 s.1,.int .u64 s.2]),.int .i64 m,.int .i64 D] (.tup [.sl true 27 (rowsO (mulU D 0)),.box 155 (.agg [.str (.raw a l.length c),.int .i64 (nextS l s 6).1,.int .u64 (nextS l s 6).2])]):=by
 refine gO Tryz.func257 Tryz.ntmps257 (by rw [Tryz.results257]) fun C hP hM hC=>?_
 have zq1:=Ag a c l hB s hS 6;have zq2:=Dl m 0 D h1 hD
 (repeat (first|((with_reducible refine rC rfl fun K hK=>?_);simp only [go_sem,seval,↓reduceIte,h];(first|refine hK _ _ _ ?_|refine ⟨_,zq1,hK _ _ _ ?_⟩|refine ⟨_,zq2,hK _ _ _ ?_⟩);clear hK K)|refine sT ?_))
 refine rg1 ?_
 rfl
set_option maxHeartbeats 2000000 in
theorem Qp (a:Option Addr) (c:Nat) (l:List Int) (hB:Byt l) (s:Int×Int) (hS:Sok l s) (m:Int) (D:Nat) (h1:1≤D) (hD:D≤100) (h:nextX l s 6=1):AFn Tryz.prog (5000000+257) [.str (.src a c l),.box 155 (.agg [.str (.raw a l.length c),.int .i64 s.1,.int .u64 s.2]),.int .i64 m,.int .i64 D] (.tup [.sl true 27 (rowsO (mulU D (nextX l (nextS l s 6) m))),.box 155 (.agg [.str (.raw a l.length c),.int .i64 (nextS l (nextS l s 6) m).1,.int .u64 (nextS l (nextS l s 6) m).2])]):=by
 refine gO Tryz.func257 Tryz.ntmps257 (by rw [Tryz.results257]) fun C hP hM hC=>?_
 have zq1:((1:Int)==0)=false:=rfl;have zq2:=Ag a c l hB s hS 6;have zq3:=Dl m (nextX l (nextS l s 6) m) D h1 hD
 (repeat (first|((with_reducible refine rC rfl fun K hK=>?_);simp only [go_sem,seval,↓reduceIte,h,zq1];(first|refine hK _ _ _ ?_|refine ⟨_,zq2,hK _ _ _ ?_⟩|refine ⟨_,Ag a c l hB _ (Al hS 6) m,hK _ _ _ ?_⟩|refine ⟨_,zq3,hK _ _ _ ?_⟩);clear hK K)|refine sT ?_))
 refine rg1 ?_
 rfl
set_option maxHeartbeats 2000000 in
theorem Pr (a:Option Addr) (c:Nat) (l:List Int) (hB:Byt l) (s:Int×Int) (hS:Sok l s) (m:Int) (D:Nat) (h1:1≤D) (hD:D≤100) (h:nextX l s 6=2):AFn Tryz.prog (5000000+257) [.str (.src a c l),.box 155 (.agg [.str (.raw a l.length c),.int .i64 s.1,.int .u64 s.2]),.int .i64 m,.int .i64 D] (.tup [.sl true 27 (rowsO (mulU D (nextX l (nextS l s 6) m))),.box 155 (.agg [.str (.raw a l.length c),.int .i64 (nextS l (nextS l s 6) m).1,.int .u64 (nextS l (nextS l s 6) m).2])]):=by
 refine gO Tryz.func257 Tryz.ntmps257 (by rw [Tryz.results257]) fun C hP hM hC=>?_
 have zq1:((2:Int)==0)=false:=rfl;have zq2:((2:Int)==1)=false:=rfl;have zq3:=Ag a c l hB s hS 6;have zq4:=Dl m (nextX l (nextS l s 6) m) D h1 hD
 (repeat (first|((with_reducible refine rC rfl fun K hK=>?_);simp only [go_sem,seval,↓reduceIte,h,zq1,zq2];(first|refine hK _ _ _ ?_|refine ⟨_,zq3,hK _ _ _ ?_⟩|refine ⟨_,Ag a c l hB _ (Al hS 6) m,hK _ _ _ ?_⟩|refine ⟨_,zq4,hK _ _ _ ?_⟩);clear hK K)|refine sT ?_))
 refine rg1 ?_
 rfl
set_option maxHeartbeats 2000000 in
theorem Qc (a:Option Addr) (c:Nat) (l:List Int) (hB:Byt l) (s:Int×Int) (hS:Sok l s) (m:Int) (D:Nat) (hm:1<m) (hm2:m≤10000) (h1:1≤D) (hD:D≤100) (h:nextX l s 6=3):AFn Tryz.prog (5000000+257) [.str (.src a c l),.box 155 (.agg [.str (.raw a l.length c),.int .i64 s.1,.int .u64 s.2]),.int .i64 m,.int .i64 D] (.tup [.sl true 27 (rowsO (tnT m (nextX l (nextS l s 6) m) D ((D+1)/2))),.box 155 (.agg [.str (.raw a l.length c),.int .i64 (nextS l (nextS l s 6) m).1,.int .u64 (nextS l (nextS l s 6) m).2])]):=by
 refine gO Tryz.func257 Tryz.ntmps257 (by rw [Tryz.results257]) fun C hP hM hC=>?_
 have hx:=Bh hB (nextS l s 6) m
 have hx2:=hx.2.1 (by omega)
 have zq1:((3:Int)==0)=false:=rfl;have zq2:((3:Int)==1)=false:=rfl;have zq3:((3:Int)==2)=false:=rfl;have zq4:=Ag a c l hB s hS 6;have zq5:=N1 m (nextX l (nextS l s 6) m) D hm hm2 ⟨hx.1,hx2⟩ h1 hD
 (repeat (first|((with_reducible refine rC rfl fun K hK=>?_);simp only [go_sem,seval,↓reduceIte,h,zq1,zq2,zq3];(first|refine hK _ _ _ ?_|refine ⟨_,zq4,hK _ _ _ ?_⟩|refine ⟨_,Ag a c l hB _ (Al hS 6) m,hK _ _ _ ?_⟩|refine ⟨_,zq5,hK _ _ _ ?_⟩);clear hK K)|refine sT ?_))
 refine rg1 ?_
 rfl
set_option maxHeartbeats 2000000 in
theorem Qe (a:Option Addr) (c:Nat) (l:List Int) (hB:Byt l) (s:Int×Int) (hS:Sok l s) (m:Int) (D:Nat) (hm:1<m) (hm2:m≤10000) (h1:1≤D) (hD:D≤100) (h:nextX l s 6=4) (ho:m%2=1):AFn Tryz.prog (5000000+257) [.str (.src a c l),.box 155 (.agg [.str (.raw a l.length c),.int .i64 s.1,.int .u64 s.2]),.int .i64 m,.int .i64 D] (.tup [.sl true 27 (rowsO (euT m (nextX l (nextS l s 6) m) (nextX l (nextS l (nextS l s 6) m) m) D)),.box 155 (.agg [.str (.raw a l.length c),.int .i64 (nextS l (nextS l (nextS l s 6) m) m).1,.int .u64 (nextS l (nextS l (nextS l s 6) m) m).2])]):=by
 refine gO Tryz.func257 Tryz.ntmps257 (by rw [Tryz.results257]) fun C hP hM hC=>?_
 have hx:=Bh hB (nextS l s 6) m
 have hx2:=hx.2.1 (by omega)
 have hy:=Bh hB (nextS l (nextS l s 6) m) m
 have hy2:=hy.2.1 (by omega)
 have zq1:((4:Int)==0)=false:=rfl;have zq2:((4:Int)==1)=false:=rfl;have zq3:((4:Int)==2)=false:=rfl;have zq4:((4:Int)==3)=false:=rfl;have zq5:=tm m 2 (by omega);have zq6:(2:Int)≠0:=(by decide);have zq7:=Ag a c l hB s hS 6;have zq8:=Ps m (nextX l (nextS l s 6) m) (nextX l (nextS l (nextS l s 6) m) m) D hm hm2 ⟨hx.1,hx2⟩ ⟨hy.1,hy2⟩ h1 hD
 (repeat (first|((with_reducible refine rC rfl fun K hK=>?_);simp only [go_sem,seval,↓reduceIte,h,zq1,zq2,zq3,zq4,zq5,ho,zq6];(first|refine hK _ _ _ ?_|refine ⟨_,zq7,hK _ _ _ ?_⟩|refine ⟨_,Ag a c l hB _ (Al hS 6) m,hK _ _ _ ?_⟩|refine ⟨_,Ag a c l hB _ (Al (Al hS 6) m) m,hK _ _ _ ?_⟩|refine ⟨_,zq8,hK _ _ _ ?_⟩);clear hK K)|refine sT ?_))
 refine rg1 ?_
 rfl
set_option maxHeartbeats 2000000 in
theorem P0 (a:Option Addr) (c:Nat) (l:List Int) (hB:Byt l) (s:Int×Int) (hS:Sok l s) (m:Int) (D:Nat) (hm:1<m) (hm2:m≤10000) (h1:1≤D) (hD:D≤100) (h:nextX l s 6=4) (ho:¬ m%2=1):AFn Tryz.prog (5000000+257) [.str (.src a c l),.box 155 (.agg [.str (.raw a l.length c),.int .i64 s.1,.int .u64 s.2]),.int .i64 m,.int .i64 D] (.tup [.sl true 27 (rowsO (weE m (d8L l m (nextS l s 6) 5) D)),.box 155 (.agg [.str (.raw a l.length c),.int .i64 (d8S l m (nextS l s 6) 5).1,.int .u64 (d8S l m (nextS l s 6) 5).2])]):=by
 refine gO Tryz.func257 Tryz.ntmps257 (by rw [Tryz.results257]) fun C hP hM hC=>?_
 have hd:=Tm hB hm (nextS l s 6) 5
 have zq1:((4:Int)==0)=false:=rfl;have zq2:((4:Int)==1)=false:=rfl;have zq3:((4:Int)==2)=false:=rfl;have zq4:((4:Int)==3)=false:=rfl;have zq5:=tm m 2 (by omega);have zq6:(2:Int)≠0:=(by decide);have zq7:=Ag a c l hB s hS 6;have zq8:=F3 m (d8L l m (nextS l s 6) 5) D hm hm2 hd.1 hd.2 h1 hD
 (repeat (first|((with_reducible refine rC rfl fun K hK=>?_);simp only [go_sem,seval,↓reduceIte,h,zq1,zq2,zq3,zq4,zq5,beqF ho,zq6];(first|refine hK _ _ _ ?_|refine ⟨_,zq7,hK _ _ _ ?_⟩|refine ⟨_,Hf a c l hB _ (Al hS 6) m hm hm2,hK _ _ _ ?_⟩|refine ⟨_,zq8,hK _ _ _ ?_⟩);clear hK K)|refine sT ?_))
 refine rg1 ?_
 rfl
set_option maxHeartbeats 2000000 in
theorem Pz (a:Option Addr) (c:Nat) (l:List Int) (hB:Byt l) (s:Int×Int) (hS:Sok l s) (m:Int) (D:Nat) (hm:1<m) (hm2:m≤10000) (h1:1≤D) (hD:D≤100) (h0:¬ nextX l s 6=0) (g1:¬ nextX l s 6=1) (h2:¬ nextX l s 6=2) (h3:¬ nextX l s 6=3) (h4:¬ nextX l s 6=4):AFn Tryz.prog (5000000+257) [.str (.src a c l),.box 155 (.agg [.str (.raw a l.length c),.int .i64 s.1,.int .u64 s.2]),.int .i64 m,.int .i64 D] (.tup [.sl true 27 (rowsO (weE m (d8L l m (nextS l s 6) 5) D)),.box 155 (.agg [.str (.raw a l.length c),.int .i64 (d8S l m (nextS l s 6) 5).1,.int .u64 (d8S l m (nextS l s 6) 5).2])]):=by
 refine gO Tryz.func257 Tryz.ntmps257 (by rw [Tryz.results257]) fun C hP hM hC=>?_
 have hd:=Tm hB hm (nextS l s 6) 5
 have zq1:=Ag a c l hB s hS 6;have zq2:=F3 m (d8L l m (nextS l s 6) 5) D hm hm2 hd.1 hd.2 h1 hD
 (repeat (first|((with_reducible refine rC rfl fun K hK=>?_);simp only [go_sem,seval,↓reduceIte,beqF h0,beqF g1,beqF h2,beqF h3,beqF h4];(first|refine hK _ _ _ ?_|refine ⟨_,zq1,hK _ _ _ ?_⟩|refine ⟨_,Hf a c l hB _ (Al hS 6) m hm hm2,hK _ _ _ ?_⟩|refine ⟨_,zq2,hK _ _ _ ?_⟩);clear hK K)|refine sT ?_))
 refine rg1 ?_
 rfl
theorem Aed {a:Option Addr} {c:Nat} {l:List Int} (hB:Byt l) {s:Int×Int} (hS:Sok l s) (m:Int) (D:Nat) (hm:1<m) (hm2:m≤10000) (h1:1≤D) (hD:D≤100):∃ t s',Sok l s'∧Pl m (D+1) t∧AFn Tryz.prog (5000000+257) [.str (.src a c l),SRC a c l s,.int .i64 m,.int .i64 D] (.tup [.sl true 27 (rowsO t),SRC a c l s']):=by
 have q1:=Al hS 6
 have hx:=Bh hB (nextS l s 6) m
 have hx2:=hx.2.1 (by omega)
 by_cases h0:nextX l s 6=0
 ·exact ⟨_,_,q1,Q5 hm D (by omega),Py a c l hB s hS m D h1 hD h0⟩
 by_cases g1:nextX l s 6=1
 ·exact ⟨_,_,Al q1 m,Q5 hm D ⟨hx.1,hx2⟩,Qp a c l hB s hS m D h1 hD g1⟩
 by_cases h2:nextX l s 6=2
 ·exact ⟨_,_,Al q1 m,Q5 hm D ⟨hx.1,hx2⟩,Pr a c l hB s hS m D h1 hD h2⟩
 by_cases h3:nextX l s 6=3
 ·exact ⟨_,_,Al q1 m,Vo hm _ D _,Qc a c l hB s hS m D hm hm2 h1 hD h3⟩
 by_cases h4:nextX l s 6=4
 ·by_cases ho:m%2=1
  ·exact ⟨_,_,Al (Al q1 m) m,Akx (by omega) _ _ D,Qe a c l hB s hS m D hm hm2 h1 hD h4 ho⟩
  ·exact ⟨_,_,Pg q1 5,Ado (by omega) _ D,P0 a c l hB s hS m D hm hm2 h1 hD h4 ho⟩
 ·exact ⟨_,_,Pg q1 5,Ado (by omega) _ D,Pz a c l hB s hS m D hm hm2 h1 hD h0 g1 h2 h3 h4⟩
end Go.Proofs.YtapdekacpecgiaaGreat
