import Derived.Test.YtapdekacpecgiaaGreatLd
import Derived.Test.YtapdekacpecgiaaGreatLd
import Derived.Test.YtapdekacpecgiaaGreatKa
namespace Go.Proofs.YtapdekacpecgiaaGreat
open Go.RowKit
set_option linter.unusedSimpArgs false
set_option linter.unusedVariables false
set_option linter.unusedSectionVars false
set_option maxRecDepth 20000
set_option maxHeartbeats 1000000
def cmpL (m:Int) (a f:List Int) (d:Nat):Nat→List Int
 | 0=>tab (d+1) (fun _=>0)
 | k+1=>tab (d+1) (fun j=>(cv (at' (cmpL m a f d k)) (at' f) j%m+(if j=0 then at' a (d-k)%m else 0))%m)
theorem Nx (m:Int) (a f:List Int) (d k:Nat):(cmpL m a f d k).length=d+1:=by
 cases k <;> exact Ae _ _
theorem U9 {m:Int} (hm:0<m) (a f:List Int) (d k:Nat):∀ x∈cmpL m a f d k,0≤x∧x<m:=by
 intro x hx
 cases k with
 | zero=>obtain ⟨i,_,rfl⟩:=D8.1 hx;omega
 | succ k=>obtain ⟨i,_,rfl⟩:=D8.1 hx;exact Ag _ m hm
theorem Aic {n i:Nat} {f:Nat→Int}:(tab n (fun j=>if j<i then f j else 0)).set i (f i)=tab n (fun j=>if j<i+1 then f j else 0):=H0 fun j _=>by
 by_cases e:j=i
 ·subst e;simp
 ·rw [if_neg e]
  by_cases h:j<i
  ·rw [if_pos h,if_pos (by omega)]
  ·rw [if_neg h,if_neg (by omega)]
theorem Ahz {n i:Nat} {f:Nat→Int} (h:n≤i):tab n (fun j=>if j<i then f j else 0)=tab n f:=Bn fun j hj=>by rw [if_pos (by omega)]
theorem Ku (m:Int) (la lb:List Int) (d:Nat) (hm:0<m) (hm2:m≤1099511627776) (ha:∀ x∈la,0≤x∧x<m) (hb:∀ x∈lb,0≤x∧x<m) (hla:la.length=d+1) (hlb:lb.length=d+1) (hd:d≤1000000):AFn Tryz.prog 178 [.agg [.int .i64 m,.sl false 2 (intL la)],.agg [.int .i64 m,.sl false 2 (intL lb)]] (.agg [.int .i64 m,.sl true 2 (intL (tab (d+1) (fun j=>(at' la j+at' lb j)%m)))]):=by
 refine fO Tryz.func178 Tryz.ntmps178 (by rw [Tryz.results178]) fun C hP hM hC=>?_
 have hm0:m≠0:=by omega
 (repeat (first|((with_reducible refine rC rfl fun K hK=>?_);simp only [go_sem,seval,↓reduceIte];(first|refine hK _ _ _ ?_|refine ⟨_,Bb m la (by omega),hK _ _ _ ?_⟩|refine ⟨_,El m ((la.length:Int)-1) (d+1) (by omega) (by omega),hK _ _ _ ?_⟩);clear hK K)|refine sT ?_))
 refine AWP.loop (fun i:Nat=>[(15,⟨0,.val (.int .i64 i)⟩),(14,⟨0,.val (.int .i64 (d+1:Nat))⟩),(5,⟨2,.own (.box 29 (.agg [.int .i64 m,.sl true 2 (intL (tab (d+1) (fun j=>if j<i then (at' la j+at' lb j)%m else 0)))]))⟩),(2,⟨1,.own (.box 29 (.agg [.int .i64 m,.sl false 2 (intL la)]))⟩),(3,⟨1,.own (.box 29 (.agg [.int .i64 m,.sl false 2 (intL lb)]))⟩),(4,⟨1,.own (.box 29 (.agg [.int .i64 0,.nil]))⟩)]) (fun i=>i≤d+1) (fun i=>d+1-i) 0 (Nat.zero_le _) (fun i=>rfl) ?_ (fun i hi=>?_)
 ·simp [Sub,lk,Ae]
 ·by_cases hlt:i<d+1
  ·have hI:(i:Int)<((d+1:Nat):Int):=by omega
   have hx:=A4 ha hm i
   have hy:=A4 hb hm i
   have hlen:i<(tab (d+1) (fun j=>if j<i then (at' la j+at' lb j)%m else 0)).length:=by rw [Ae];exact hlt
   (repeat (first|((with_reducible refine rC rfl fun K hK=>?_);simp only [go_sem,seval,↓reduceIte,hI,hm0,hla,hlb,Ac la i (by omega),Ac lb i (by omega),show la.getD i 0=at' la i from rfl,show lb.getD i 0=at' lb i from rfl,Int.toNat_natCast,Int.natCast_nonneg,Ae,wid (at' la i+at' lb i) (by omega) (by omega),tm (at' la i+at' lb i) m (by omega),Ao _ _ hlen,Ai _ _ (Nat.le_of_lt hlen),Nat.mul_one,B7,Aic (f:=fun j=>(at' la j+at' lb j)%m),wid ((i:Int)+1) (by omega) (by omega)];refine hK _ _ _ ?_;clear hK K)|refine sT ?_))
   exact ⟨i+1,by omega,by omega,by simp [Sub,lk]⟩
  ·(repeat (first|((with_reducible refine rC rfl fun K hK=>?_);simp only [go_sem,seval,↓reduceIte,show ¬ (i:Int)<((d+1:Nat):Int) by omega];refine hK _ _ _ ?_;clear hK K)|refine sT ?_))
   refine rt1 ?_
   rw [Ahz (f:=fun j=>(at' la j+at' lb j)%m) (by omega)]
theorem Il (m:Int) (la lf:List Int) (d:Nat) (hm:1<m) (hm2:m≤1000000000000) (ha:∀ x∈la,0≤x∧x<m) (hf:∀ x∈lf,0≤x∧x<m) (hla:la.length=d+1) (hlf:lf.length=d+1) (hd:d≤999999):AFn Tryz.prog 96 [.agg [.int .i64 m,.sl false 2 (intL la)],.agg [.int .i64 m,.sl false 2 (intL lf)]] (.agg [.int .i64 m,.sl true 2 (intL (cmpL m la lf d (d+1)))]):=by
 refine fO Tryz.func96 Tryz.ntmps96 (by rw [Tryz.results96]) fun C hP hM hC=>?_
 have h0:=Fc m la 0 (by omega) (by omega) (by omega) (by omega)
 rw [hla,show tab (d+1) (fun j=>if j=0 then (0:Int)%m else 0)=cmpL m la lf d 0 from Bn fun j _=>by simp] at h0
 (repeat (first|((with_reducible refine rC rfl fun K hK=>?_);simp only [go_sem,seval,↓reduceIte,hla];(first|refine hK _ _ _ ?_|refine ⟨_,h0,hK _ _ _ ?_⟩|refine ⟨_,Bb m la (by omega),hK _ _ _ ?_⟩);clear hK K)|refine sT ?_))
 refine AWP.loop (fun w:Nat×Nat=>[(6,⟨0,.val (.int .i64 ((d:Int)-w.1))⟩),(5,⟨w.2,.own (.box 29 (.agg [.int .i64 m,.sl true 2 (intL (cmpL m la lf d w.1))]))⟩),(2,⟨1,.own (.box 29 (.agg [.int .i64 m,.sl false 2 (intL la)]))⟩),(3,⟨1,.own (.box 29 (.agg [.int .i64 m,.sl false 2 (intL lf)]))⟩),(4,⟨1,.own (.box 29 (.agg [.int .i64 0,.nil]))⟩)]) (fun w=>w.1≤d+1) (fun w=>d+1-w.1) (0,2) (Nat.zero_le _) (fun i=>rfl) ?_ (fun w hw=>?_)
 ·simp [Sub,lk,hla]
 ·obtain ⟨k,v⟩:=w
  simp only at hw ⊢
  by_cases hk:k≤d
  ·have hx:=A4 ha (show 0<m by omega) (d-k)
   have hT:=Jj m (cmpL m la lf d k) lf d (by omega) (by omega) (U9 (by omega) _ _ _ _) hf (Nx _ _ _ _ _) hlf (by omega)
   have hZ:=Fc m la (at' la (d-k)) (by omega) (by omega) (by omega) (by omega)
   rw [hla] at hZ
   have hP2:=Ku m (timesL m (cmpL m la lf d k) lf d) (tab (d+1) (fun j=>if j=0 then at' la (d-k)%m else 0)) d (by omega) (by omega) (Qb _ _ _ _ (by omega)) (fun x hx=>by obtain ⟨i,_,rfl⟩:=D8.1 hx;split <;> first|exact Ag _ m (by omega)|omega) (La _ _ _ _) (Ae _ _) (by omega)
   rw [show tab (d+1) (fun j=>(at' (timesL m (cmpL m la lf d k) lf d) j+at' (tab (d+1) (fun j=>if j=0 then at' la (d-k)%m else 0)) j)%m)=cmpL m la lf d (k+1) from Bn fun j hj=>by rw [timesL,Bl hj,Bl hj]] at hP2
   (repeat (first|((with_reducible refine rC rfl fun K hK=>?_);simp only [go_sem,seval,↓reduceIte,show (0:Int)≤(d:Int)-k by omega,show ((d:Int)-k).toNat=d-k by omega,hla,show (d:Int)-k<((d+1:Nat):Int) by omega,Ac la (d-k) (by omega),show la.getD (d-k) 0=at' la (d-k) from rfl,wid ((d:Int)-k-1) (by omega) (by omega)];(first|refine hK _ _ _ ?_|refine ⟨_,hT,hK _ _ _ ?_⟩|refine ⟨_,hZ,hK _ _ _ ?_⟩|refine ⟨_,hP2,hK _ _ _ ?_⟩);clear hK K)|refine sT ?_))
   exact ⟨(k+1,v+1),by simp only;omega,by simp only;omega,by simp [Sub,lk];omega⟩
  ·(repeat (first|((with_reducible refine rC rfl fun K hK=>?_);simp only [go_sem,seval,↓reduceIte,show ¬ (0:Int)≤(d:Int)-k by omega];refine hK _ _ _ ?_;clear hK K)|refine sT ?_))
   refine rt1 ?_
   rw [show k=d+1 by omega]
def addL (m:Int) (a b:List Int) (d:Nat):List Int:=tab (d+1) (fun j=>(at' a j+at' b j)%m)
def scL (m c:Int) (a:List Int) (d:Nat):List Int:=tab (d+1) (fun j=>c*at' a j%m)
theorem Po (m:Int) (la lb:List Int) (d:Nat) (hm:0<m) (hm2:m≤1000000) (ha:∀ x∈la,0≤x∧x<m) (hb:∀ x∈lb,0≤x∧x<m) (hla:la.length=d+1) (hlb:lb.length=d+1) (hd:d≤1000000):AFn Tryz.prog 180 [.int .i64 m,.sl false 2 (intL la),.sl false 2 (intL lb)] (.sl true 2 (intL (addL m la lb d))):=by
 refine fO Tryz.func180 Tryz.ntmps180 (by rw [Tryz.results180]) fun C hP hM hC=>?_
 (repeat (first|((with_reducible refine rC rfl fun K hK=>?_);simp only [go_sem,seval,↓reduceIte];refine hK _ _ _ ?_;clear hK K)|refine sT ?_))
 refine AWP.loop (fun w:Nat×Nat=>[(8,⟨0,.val (.int .i64 w.1)⟩),(7,⟨w.2,.own (.sl true 2 (intL (tab w.1 (fun j=>(at' la j+at' lb j)%m))))⟩),(0,⟨0,.val (.int .i64 m)⟩),(1,⟨0,.val (.sl false 2 (intL la))⟩),(2,⟨0,.val (.sl false 2 (intL lb))⟩)]) (fun w=>w.1≤d+1) (fun w=>d+1-w.1) (0,1) (Nat.zero_le _) (fun i=>rfl) ?_ (fun w hw=>?_)
 ·simp [Sub,lk,Ri,intL]
 ·obtain ⟨i,v⟩:=w
  simp only at hw ⊢
  by_cases hlt:i<d+1
  ·have hx:=A4 ha hm i
   have hy:=A4 hb hm i
   have hs:=Gn i (fun j=>(at' la j+at' lb j)%m)
   (repeat (first|((with_reducible refine rC rfl fun K hK=>?_);simp only [go_sem,seval,↓reduceIte,hla,hlb,show (i:Int)<((d+1:Nat):Int) by omega,Ac la i (by omega),Ac lb i (by omega),show la.getD i 0=at' la i from rfl,show lb.getD i 0=at' lb i from rfl,Int.toNat_natCast,Int.natCast_nonneg,wid (at' la i+at' lb i) (by omega) (by omega),tm (at' la i+at' lb i) m (by omega),show m≠0 by omega,Ae,Bt,hs,show i+1≤1099511627776 by omega,show (i+1)*8≤140737488355328 by omega,wid ((i:Int)+1) (by omega) (by omega)];refine hK _ _ _ ?_;clear hK K)|refine sT ?_))
   exact ⟨(i+1,v+1),by simp only;omega,by simp only;omega,by simp [Sub,lk]⟩
  ·(repeat (first|((with_reducible refine rC rfl fun K hK=>?_);simp only [go_sem,seval,↓reduceIte,hla,show ¬ (i:Int)<((d+1:Nat):Int) by omega];refine hK _ _ _ ?_;clear hK K)|refine sT ?_))
   refine rt1 ?_
   rw [show i=d+1 by omega];rfl
theorem Na (m c:Int) (l:List Int) (d:Nat) (hm:0<m) (hm2:m≤1000000) (ha:∀ x∈l,0≤x∧x<m) (hl:l.length=d+1) (hd:d≤1000000) (hc:0≤c) (hc2:c<m):AFn Tryz.prog 181 [.int .i64 m,.int .i64 c,.sl false 2 (intL l)] (.sl true 2 (intL (scL m c l d))):=by
 refine fO Tryz.func181 Tryz.ntmps181 (by rw [Tryz.results181]) fun C hP hM hC=>?_
 (repeat (first|((with_reducible refine rC rfl fun K hK=>?_);simp only [go_sem,seval,↓reduceIte];refine hK _ _ _ ?_;clear hK K)|refine sT ?_))
 refine AWP.loop (fun w:Nat×Nat=>[(8,⟨0,.val (.int .i64 w.1)⟩),(7,⟨w.2,.own (.sl true 2 (intL (tab w.1 (fun j=>c*at' l j%m))))⟩),(0,⟨0,.val (.int .i64 m)⟩),(1,⟨0,.val (.int .i64 c)⟩),(2,⟨0,.val (.sl false 2 (intL l))⟩)]) (fun w=>w.1≤d+1) (fun w=>d+1-w.1) (0,1) (Nat.zero_le _) (fun i=>rfl) ?_ (fun w hw=>?_)
 ·simp [Sub,lk,Ri,intL]
 ·obtain ⟨i,v⟩:=w
  simp only at hw ⊢
  by_cases hlt:i<d+1
  ·have hx:=A4 ha hm i
   have hxy:=Ee hc hc2 hx.1 hx.2 hm2
   have hs:=Gn i (fun j=>c*at' l j%m)
   (repeat (first|((with_reducible refine rC rfl fun K hK=>?_);simp only [go_sem,seval,↓reduceIte,hl,show (i:Int)<((d+1:Nat):Int) by omega,Ac l i (by omega),show l.getD i 0=at' l i from rfl,Int.toNat_natCast,Int.natCast_nonneg,wid (c*at' l i) (by omega) (by omega),tm (c*at' l i) m hxy.1,show m≠0 by omega,Ae,Bt,hs,show i+1≤1099511627776 by omega,show (i+1)*8≤140737488355328 by omega,wid ((i:Int)+1) (by omega) (by omega)];refine hK _ _ _ ?_;clear hK K)|refine sT ?_))
   exact ⟨(i+1,v+1),by simp only;omega,by simp only;omega,by simp [Sub,lk]⟩
  ·(repeat (first|((with_reducible refine rC rfl fun K hK=>?_);simp only [go_sem,seval,↓reduceIte,hl,show ¬ (i:Int)<((d+1:Nat):Int) by omega];refine hK _ _ _ ?_;clear hK K)|refine sT ?_))
   refine rt1 ?_
   rw [show i=d+1 by omega];rfl
def pwS (m:Int) (a:List Int) (d:Nat):Nat→List Int
 | 0=>oneL d
 | k+1=>timesL m (pwS m a d k) a d
def serO (m:Int) (L:List (List Int)):List T:=L.map fun l=>(.agg [.int .i64 m,.sl true 2 (intL l)])
def serF (m:Int) (L:List (List Int)):List T:=L.map fun l=>(.agg [.int .i64 m,.sl false 2 (intL l)])
theorem Wa (m:Int) (L:List (List Int)):(serO m L).length=L.length:=by simp [serO]
theorem Wh (m:Int) (L:List (List Int)):(serF m L).length=L.length:=by simp [serF]
theorem Lu (m:Int):∀ (L:List (List Int)),T.refFreeL (serO m L)=true
 | []=>rfl
 | l::L=>by
  have:=Lu m L
  simp only [serO,List.map_cons,T.refFreeL,T.refFree,Bool.and_true,Bool.true_and] at this ⊢
  simp [this,Ev]
theorem Nt (m:Int):∀ (L:List (List Int)),T.freezeL (serO m L)=serF m L
 | []=>rfl
 | l::L=>by
  have:=Nt m L
  have e:T.freezeL (intL l)=intL l:=B5 _ (Fs l)
  simp only [serO,serF,List.map_cons,T.freezeL,T.freeze,e] at this ⊢
  rw [this]
theorem Ip (m:Int):∀ (L:List (List Int)),T.pureL (serF m L)=true
 | []=>rfl
 | l::L=>by
  have:=Ip m L
  simp only [serF,List.map_cons,T.pureL,T.pure,Bool.and_true,Bool.true_and] at this ⊢
  simp [this,Fs]
theorem Aal (m:Int) (L:List (List Int)):T.noOwnL (serF m L)=true:=B9 _ (Ip m L)
theorem Tp (m:Int) (L:List (List Int)):T.refFreeL (serF m L)=true:=Bo _ (Ip m L)
theorem Va (m:Int):∀ (L:List (List Int)),T.noFL (serO m L)=true
 | []=>rfl
 | l::L=>by
  have:=Va m L
  simp only [serO,List.map_cons,T.noFL,T.noF,Bool.and_true,Bool.true_and] at this ⊢
  simp [this,J1]
attribute [go_sem] Nt Lu Va Ip Aal Tp Wa Wh
def putR (m:Int) (t:Nat→Nat→Int) (P Q:Nat→List Int) (d i:Nat) (acc:List Int):Nat→List Int
 | 0=>acc
 | j+1=>if t i j=0 then putR m t P Q d i acc j else addL m (putR m t P Q d i acc j) (scL m (t i j) (timesL m (P i) (Q j) d) d) d
def putO (m:Int) (t:Nat→Nat→Int) (P Q:Nat→List Int) (d:Nat):Nat→List Int
 | 0=>tab (d+1) (fun _=>0)
 | i+1=>putR m t P Q d i (putO m t P Q d i) (d+1-i)
def putL (m:Int) (t:Nat→Nat→Int) (a b:List Int) (d:Nat):List Int:=putO m t (pwS m a d) (pwS m b d) d (d+1)
end Go.Proofs.YtapdekacpecgiaaGreat
