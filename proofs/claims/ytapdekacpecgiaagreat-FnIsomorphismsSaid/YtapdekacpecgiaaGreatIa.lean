import Derived.Test.YtapdekacpecgiaaGreatKa
import Derived.Test.YtapdekacpecgiaaGreatQa
import Derived.Test.YtapdekacpecgiaaGreatCu
import Derived.Test.YtapdekacpecgiaaGreatRn
namespace Go.Proofs.YtapdekacpecgiaaGreat
open Go.RowKit
set_option linter.unusedSimpArgs false
set_option linter.unusedVariables false
set_option linter.unusedSectionVars false
set_option maxRecDepth 20000
set_option maxHeartbeats 1000000
def sij (n:Nat) (t p q:Nat→Nat→Int) (i j u v:Nat):Int:=sm i (fun a=>sm (n-a) (fun b=>t a b*(p a u*q b v)))+sm j (fun b=>t i b*(p i u*q b v))
theorem Vk (n:Nat) (t p q:Nat→Nat→Int) (u v:Nat):sij n t p q 0 0 u v=0:=rfl
theorem Uj (n:Nat) (t p q:Nat→Nat→Int) (i u v:Nat):sij n t p q i (n-i) u v=sij n t p q (i+1) 0 u v:=by
 show _=sm (i+1) _+0
 rw [Int.add_zero];rfl
theorem K0 (n:Nat) (t p q:Nat→Nat→Int) (i j u v:Nat):sij n t p q i (j+1) u v=sij n t p q i j u v+t i j*(p i u*q j v):=by
 show sm i _+(sm j _+_)=_
 rw [← Int.add_assoc];rfl
def bthT (m:Int) (n:Nat) (t p q:Nat→Nat→Int):List (List Int):=tab2 n (fun u v=>sij n t p q n 0 u v%m)
theorem Rl {m:Int} (hm:0<m) (n:Nat) (t p q:Nat→Nat→Int):Pl m n (bthT m n t p q):=Pl.tab2 hm fun _ _ _=>Aq _ m hm
def pwC (m:Int) (a:List Int) (d i u:Nat):Int:=at' (pwS m a d i) u
def hmB (m:Int) (n:Nat) (tf tg:Nat→Nat→Int) (a:List Int):Bool:=decide (aftL m n tf a a.length=bthT m n tg (pwC m a (n-1)) (pwC m a (n-1)))
theorem Age {n:Nat} {f g:Nat→Nat→Int}:tab2 n f=tab2 n g↔∀ u v,u+v<n→f u v=g u v:=
 ⟨fun h u v huv=>by rw [← Bi (f:=f) huv,← Bi (f:=g) huv,h],fun h=>Aw h⟩
theorem Y8 (n:Nat) (f:Nat→Nat→Int):tab2 n f=tab2 n (pc (tab2 n f)):=Aw fun u v h=>(Bi h).symm
theorem In {m:Int} {n:Nat} {t:Nat→Nat→Int} {c:List Int}:∀ k,aftL m n t c k=tab2 n (pc (aftL m n t c k))
 | 0=>by rw [aftL];exact Y8 n _
 | k+1=>by rw [aftL];exact Y8 n _
theorem Nc {m:Int} (hm:0<m) {n:Nat} {tf tg:Nat→Nat→Int} {a:List Int}:hmB m n tf tg a=true↔∀ u v,u+v<n→sm a.length (fun i=>at' a i*pc (pwP m n tf i) u v)%m=sij n tg (pwC m a (n-1)) (pwC m a (n-1)) n 0 u v%m:=by
 unfold hmB
 rw [decide_eq_true_eq,In,bthT,Age]
 exact ⟨fun h u v huv=>by rw [← Ir hm huv];exact h u v huv,fun h u v huv=>by rw [Ir hm huv];exact h u v huv⟩
theorem V8 {m:Int} {n k:Nat} {t t':Nat→Nat→Int} (hk:k≤n) (ht:∀ a b,a+b<k→t' a b=t a b):∀ i u v,u+v<k→pc (pwP m k t' i) u v=pc (pwP m n t i) u v
 | 0,u,v,h=>by rw [pwP,pwP,numP,numP,Bi h,Bi (by omega)]
 | i+1,u,v,h=>by
  rw [pwP,pwP,pmul,pmul,Bi h,Bi (by omega)]
  refine congrArg (· % m) ?_
  unfold cv2
  refine Av fun a ha=>Av fun b hb=>?_
  rw [V8 hk ht i a b (by omega),ht _ _ (by omega)]
theorem Y5 {m:Int} {n:Nat} {t:Nat→Nat→Int} (ht:t 0 0=0):∀ i u v,u+v<i→pc (pwP m n t i) u v=0
 | 0,u,v,h=>by omega
 | i+1,u,v,h=>by
  by_cases hn:n≤u+v
  ·rw [pwP,pmul,Tr hn]
  ·rw [pwP,pmul,Bi (by omega)]
   have:cv2 (pc (pwP m n t i)) t u v=0:=by
    unfold cv2
    refine Bo fun a ha=>Bo fun b hb=>?_
    by_cases e:a+b<i
    ·rw [Y5 ht i a b e,Int.zero_mul]
    ·rw [show u-a=0 by omega,show v-b=0 by omega,ht,Int.mul_zero]
   rw [this,Int.zero_emod]
theorem Oy {m:Int} {a:List Int} {d i u:Nat} (hu:u≤d):pwC m a d (i+1) u=cv (pwC m a d i) (at' a) u%m:=by
 unfold pwC
 rw [pwS,timesL,Bm (by omega)]
theorem J7 {m:Int} {a:List Int} {d:Nat} (h0:at' a 0=0):∀ i u,u<i→u≤d→pwC m a d i u=0
 | 0,u,h,_=>by omega
 | i+1,u,h,hu=>by
  rw [Oy hu]
  have:cv (pwC m a d i) (at' a) u=0:=by
   unfold cv
   refine Bo fun k hk=>?_
   by_cases e:k<i
   ·rw [J7 h0 i k e (by omega),Int.zero_mul]
   ·rw [show u-k=0 by omega,h0,Int.mul_zero]
  rw [this,Int.zero_emod]
theorem Ad5 {m:Int} {a b:List Int} {d e:Nat} (he:d≤e) (hab:∀ i,i≤d→at' b i=at' a i):∀ i u,u≤d→pwC m b e i u=pwC m a d i u
 | 0,u,h=>by
  unfold pwC
  rw [pwS,pwS,oneL,oneL,Bm (by omega),Bm (by omega)]
 | i+1,u,h=>by
  rw [Oy (by omega),Oy h]
  refine congrArg (· % m) ?_
  unfold cv
  exact Av fun k hk=>by rw [Ad5 he hab i k (by omega),hab _ (by omega)]
theorem Ai5 {m : Int} (hm : 0 < m) {N : Nat} {tf tg tf' tg' : Nat → Nat → Int} {a b : List Int} (hN : 1 ≤ N) (ha : a.length = N) (hb : b.length = N + 1) (hab : ∀ i, i < N → at' b i = at' a i) (h0 : at' a 0 = 0) (ht : tf 0 0 = 0)
  (hf:∀ u v,u+v<N→tf' u v=tf u v) (hg:∀ u v,u+v<N→tg' u v=tg u v) (h:hmB m (N+1) tf tg b=true):hmB m N tf' tg' a=true:=by
 rw [Nc hm] at h ⊢
 intro u v huv
 have h1:=h u v (by omega)
 have e1:sm b.length (fun i=>at' b i*pc (pwP m (N+1) tf i) u v)=sm a.length (fun i=>at' a i*pc (pwP m N tf' i) u v):=by
  rw [ha,hb]
  show sm N (fun i=>at' b i*pc (pwP m (N+1) tf i) u v)+at' b N*pc (pwP m (N+1) tf N) u v=_
  rw [Y5 ht N u v huv,Int.mul_zero,Int.add_zero]
  exact Av fun i hi=>by rw [hab i hi,V8 (show N≤N+1 by omega) hf i u v huv]
 have hb0:at' b 0=0:=by rw [hab 0 (by omega),h0]
 have e2:sij (N+1) tg (pwC m b (N+1-1)) (pwC m b (N+1-1)) (N+1) 0 u v=sij N tg' (pwC m a (N-1)) (pwC m a (N-1)) N 0 u v:=by
  have hp:∀ i w,w<N→pwC m b (N+1-1) i w=pwC m a (N-1) i w:=fun i w hw=>Ad5 (show N-1≤N+1-1 by omega) (fun i hi=>hab i (by omega)) i w (by omega)
  show sm (N+1) _+sm 0 _=sm N _+sm 0 _
  refine congrArg (· + (0:Int)) ?_
  show sm N _+sm (N+1-N) _=_
  rw [Bo (n:=N+1-N) (fun c hc=>by rw [J7 hb0 N u (by omega) (by omega),Int.zero_mul,Int.mul_zero]),Int.add_zero]
  refine Av fun i hi=>?_
  rw [show N+1-i=(N-i)+1 by omega]
  have e9:∀ (f:Nat→Int),f (N-i)=0→sm (N-i+1) f=sm (N-i) f:=fun f hf=>by
   show sm (N-i) f+f (N-i)=_
   rw [hf,Int.add_zero]
  have hz:tg i (N-i)*(pwC m b (N+1-1) i u*pwC m b (N+1-1) (N-i) v)=0:=by
   by_cases hu:u<i
   ·rw [J7 hb0 i u hu (by omega),Int.zero_mul,Int.mul_zero]
   ·rw [J7 hb0 (N-i) v (by omega) (by omega),Int.mul_zero,Int.mul_zero]
  rw [e9 _ hz]
  exact Av fun j hj=>by rw [hp i u (by omega),hp j v (by omega),hg i j (by omega)]
 rw [e1,e2] at h1
 exact h1
theorem Qz {m:Int} (hm:0<m) {N:Nat} {tf tg tf' tg':Nat→Nat→Int} {a:List Int} (hf:∀ u v,u+v<N→tf' u v=tf u v) (hg:∀ u v,u+v<N→tg' u v=tg u v):hmB m N tf' tg' a=hmB m N tf tg a:=by
 rw [Bool.eq_iff_iff,Nc hm,Nc hm]
 have key:∀ u v,u+v<N→(sm a.length (fun i=>at' a i*pc (pwP m N tf' i) u v)=sm a.length (fun i=>at' a i*pc (pwP m N tf i) u v))∧sij N tg' (pwC m a (N-1)) (pwC m a (N-1)) N 0 u v=sij N tg (pwC m a (N-1)) (pwC m a (N-1)) N 0 u v:=fun u v huv=>by
  refine ⟨Av fun i _=>by rw [V8 (Nat.le_refl N) hf i u v huv],?_⟩
  show sm N _+0=sm N _+0
  refine congrArg (· + (0:Int)) (Av fun i hi=>Av fun j hj=>?_)
  rw [hg i j (by omega)]
 exact ⟨fun h u v huv=>by rw [← (key u v huv).1,← (key u v huv).2];exact h u v huv,fun h u v huv=>by rw [(key u v huv).1,(key u v huv).2];exact h u v huv⟩
def al (M:Nat):Nat→List Int→List (List Int)
 | 0,p=>[p]
 | d+1,p=>(List.range M).flatMap (fun k:Nat=>al M d (p++[(k:Int)]))
theorem Gr {M:Nat}:∀ d p x,x∈al M d p→x.length=p.length+d∧x.take p.length=p∧((∀ z∈p,0≤z∧z<(M:Int))→∀ z∈x,0≤z∧z<(M:Int))
 | 0,p,x,h=>by
  rw [al,List.mem_singleton] at h
  subst h
  exact ⟨rfl,List.take_length,fun h=>h⟩
 | d+1,p,x,h=>by
  rw [al,List.mem_flatMap] at h
  obtain ⟨k,hk,hx⟩:=h
  rw [List.mem_range] at hk
  obtain ⟨h1,h2,h3⟩:=Gr d _ x hx
  simp only [List.length_append,List.length_cons,List.length_nil,Nat.zero_add] at h1 h2
  refine ⟨by omega,?_,fun hp=>h3 fun z hz=>?_⟩
  ·have h4:=congrArg (List.take p.length) h2
   rw [List.take_take,Nat.min_eq_left (by omega),List.take_append_of_le_length (Nat.le_refl _),List.take_length] at h4
   exact h4
  ·rcases List.mem_append.1 hz with h|h
   ·exact hp z h
   ·rw [List.mem_singleton] at h;omega
theorem I3 (M:Nat):∀ d p,(al M d p).length=M^d
 | 0,p=>rfl
 | d+1,p=>by
  have:∀ k,((List.range k).flatMap (fun k:Nat=>al M d (p++[(k:Int)]))).length=k*M^d:=by
   intro k
   induction k with
   | zero=>simp
   | succ k ih=>rw [List.range_succ,List.flatMap_append,List.length_append,ih,List.flatMap_singleton,I3 M d,Nat.succ_mul]
  rw [al,this,Nat.pow_succ,Nat.mul_comm]
def alK (M d:Nat) (p:List Int) (k:Nat):List (List Int):=(List.range k).flatMap (fun k:Nat=>al M d (p++[(k:Int)]))
theorem Lg (M d:Nat) (p:List Int):alK M d p 0=[]:=rfl
theorem G5 (M d:Nat) (p:List Int) (k:Nat):alK M d p (k+1)=alK M d p k++al M d (p++[(k:Int)]):=by
 unfold alK
 rw [List.range_succ,List.flatMap_append,List.flatMap_singleton]
theorem Zk (M d:Nat) (p:List Int):alK M d p M=al M (d+1) p:=rfl
def upt (F G:Nat→Nat→Int) (i j u v:Nat):Int:=if u<i∨(u=i∧v<j) then F u v else G u v
theorem Sh (F G:Nat→Nat→Int) (u v:Nat):upt F G 0 0 u v=G u v:=if_neg (by omega)
theorem Ala (F G:Nat→Nat→Int) (i j:Nat):upt F G i j i j=G i j:=if_neg (by omega)
theorem Y3 (F G:Nat→Nat→Int) (i j u v:Nat):(if u=i∧v=j then F i j else upt F G i j u v)=upt F G i (j+1) u v:=by
 unfold upt
 by_cases h:u=i∧v=j
 ·rw [if_pos h,if_pos (by omega),h.1,h.2]
 ·rw [if_neg h]
  by_cases h2:u<i∨(u=i∧v<j)
  ·rw [if_pos h2,if_pos (by omega)]
  ·rw [if_neg h2,if_neg (by omega)]
theorem Yx {F G:Nat→Nat→Int} {n i j u v:Nat} (h:n≤i+j) (huv:u+v<n):upt F G i j u v=upt F G (i+1) 0 u v:=by
 unfold upt
 by_cases h2:u<i∨(u=i∧v<j)
 ·rw [if_pos h2,if_pos (by omega)]
 ·rw [if_neg h2,if_neg (by omega)]
theorem Y6 {F G:Nat→Nat→Int} {n u v:Nat} (huv:u+v<n):upt F G n 0 u v=F u v:=if_pos (by omega)
theorem Ag4 (ll:List (List Int)) (h:0<ll.length):∃ x,x∈rowsO ll∧x.scalar=false:=by
 cases ll with
 | nil=>simp at h
 | cons x l=>exact ⟨_,List.mem_cons_self ..,rfl⟩
theorem Lt (m:Int) (la lb:List (List Int)) (n i j:Nat) (hm2:m≤10000) (ha:Pl m n la) (hb:Pl m n lb) (hij:i+j<n):AFn Tryz.prog 211 [.int .i64 i,.int .i64 j,.fptr (.agg [.int .i64 m,.sl false 27 (rowsF la)]),.fptr (.agg [.int .i64 m,.sl false 27 (rowsF lb)])] (.int .i64 (pc la i j+pc lb i j)):=by
 refine fO Tryz.func211 Tryz.ntmps211 (by rw [Tryz.results211]) fun C hP hM hC=>?_
 have h1:=ha.num i j
 have h2:=hb.num i j
 have r1:=ha.row i (by omega)
 have r2:=hb.row i (by omega)
 have k1:j<(la.getD i []).length:=by omega
 have k2:j<(lb.getD i []).length:=by omega
 (repeat (first|((with_reducible refine rC rfl fun K hK=>?_);simp only [go_sem,seval,↓reduceIte,Ak la i (by rw [ha.len];omega),Ak lb i (by rw [hb.len];omega),Ab,ha.len,hb.len,Int.toNat_natCast,Int.natCast_nonneg,show (i:Int)<(n:Int) by omega,Ac _ j k1,Ac _ j k2,r1,r2,show ((j:Nat):Int)<((n-i:Nat):Int) by omega,show (la.getD i []).getD j 0=pc la i j from rfl,show (lb.getD i []).getD j 0=pc lb i j from rfl,wid (pc la i j+pc lb i j) (by omega) (by omega)];refine hK _ _ _ ?_;clear hK K)|refine sT ?_))
 refine rt1 ?_
 rfl
set_option maxHeartbeats 4000000 in
theorem Ly (m:Int) (la lb:List (List Int)) (n:Nat) (hm:0<m) (hm2:m≤10000) (ha:Pl m n la) (hb:Pl m n lb) (hn:1≤n) (hn2:n≤1000):AFn Tryz.prog 201 [.agg [.int .i64 m,.sl false 27 (rowsF la)],.fn 211 [.fptr (.agg [.int .i64 m,.sl false 27 (rowsF la)]),.fptr (.agg [.int .i64 m,.sl false 27 (rowsF lb)])]] (.agg [.int .i64 m,.sl true 27 (rowsO (tab2 n (fun u v=>(pc la u v+pc lb u v)%m)))]):=by
 refine fO Tryz.func201 Tryz.ntmps201 (by rw [Tryz.results201]) fun C hP hM hC=>?_
 have hZ0:=Fi m (n-1) (by omega)
 rw [show n-1+1=n by omega] at hZ0
 have e0:tab2 n (fun _ _=>0)=tab2 n (upt (fun u v=>(pc la u v+pc lb u v)%m) (fun _ _=>0) 0 0):=Aw fun u v _=>by rw [Sh]
 rw [e0] at hZ0
 have hD:=A3 m la (by rw [ha.len];omega)
 rw [ha.len,show (n:Int)-1=((n-1:Nat):Int) by omega] at hD
 (repeat (first|((with_reducible refine rC rfl fun K hK=>?_);simp only [go_sem,seval,↓reduceIte,Af,Am];(first|refine hK _ _ _ ?_|refine ⟨_,hD,hK _ _ _ ?_⟩|refine ⟨_,hZ0,hK _ _ _ ?_⟩);clear hK K)|refine sT ?_))
 refine AWP.loop (fun i:Nat=>[(17,⟨0,.val (.int .i64 i)⟩),(16,⟨0,.val (.int .i64 n)⟩),(15,⟨0,.val (.ref 5 2 [0,1])⟩),(5,⟨2,.own (.box 26 (.agg [.int .i64 m,.sl true 27 (rowsO (tab2 n (upt (fun u v=>(pc la u v+pc lb u v)%m) (fun _ _=>0) i 0)))]))⟩),(1,⟨0,.val (.fn 211 [.fptr (.agg [.int .i64 m,.sl false 27 (rowsF la)]),.fptr (.agg [.int .i64 m,.sl false 27 (rowsF lb)])])⟩),(2,⟨1,.own (.box 26 (.agg [.int .i64 m,.sl false 27 (rowsF la)]))⟩),(4,⟨1,.own (.box 26 (.agg [.int .i64 0,.nil]))⟩)]) (fun i=>i≤n) (fun i=>n-i) 0 (Nat.zero_le _) (fun i=>rfl) ?_ (fun i hi=>?_)
 ·simp [Sub,lk]
 ·by_cases hin:i<n
  ·have hi1:i<(tab2 n (upt (fun u v=>(pc la u v+pc lb u v)%m) (fun _ _=>0) i 0)).length:=by rw [Am];exact hin
   (repeat (first|((with_reducible refine rC rfl fun K hK=>?_);simp only [go_sem,seval,↓reduceIte,show (i:Int)<(n:Int) by omega,Ap _ _ hi1,Aj _ _ (Nat.le_of_lt hi1),Af,Am,B5 hin,Ah,Nat.mul_one,Int.toNat_natCast,Int.natCast_nonneg];refine hK _ _ _ ?_;clear hK K)|refine sT ?_))
   refine AWP.loop (fun j:Nat=>[(24,⟨0,.val (.int .i64 j)⟩),(23,⟨0,.val (.int .i64 (n-i:Nat))⟩),(7,⟨0,.val (.ref 5 2 [0,1,i])⟩),(6,⟨0,.val (.int .i64 i)⟩),(17,⟨0,.val (.int .i64 i)⟩),(16,⟨0,.val (.int .i64 n)⟩),(15,⟨0,.val (.ref 5 2 [0,1])⟩),(5,⟨2,.own (.box 26 (.agg [.int .i64 m,.sl true 27 (rowsO (tab2 n (upt (fun u v=>(pc la u v+pc lb u v)%m) (fun _ _=>0) i j)))]))⟩),(1,⟨0,.val (.fn 211 [.fptr (.agg [.int .i64 m,.sl false 27 (rowsF la)]),.fptr (.agg [.int .i64 m,.sl false 27 (rowsF lb)])])⟩),(2,⟨1,.own (.box 26 (.agg [.int .i64 m,.sl false 27 (rowsF la)]))⟩),(4,⟨1,.own (.box 26 (.agg [.int .i64 0,.nil]))⟩)]) (fun j=>i+j≤n) (fun j=>n-j) 0 (by omega) (fun i=>rfl) ?_ (fun j hj=>?_)
   ·simp [Sub,lk]
   ·by_cases hjn:i+j<n
    ·have hi2:i<(tab2 n (upt (fun u v=>(pc la u v+pc lb u v)%m) (fun _ _=>0) i j)).length:=by rw [Am];exact hin
     have hc:j<(tab (n-i) (upt (fun u v=>(pc la u v+pc lb u v)%m) (fun _ _=>0) i j i)).length:=by rw [Ah];omega
     have hP1:=Lt m la lb n i j hm2 ha hb hjn
     have h1:=ha.num i j
     have h2:=hb.num i j
     have hMd:=Dv (pc la i j+pc lb i j) m hm (by omega)
     have hst:(tab2 n (upt (fun u v=>(pc la u v+pc lb u v)%m) (fun _ _=>0) i j)).set i ((tab (n-i) (upt (fun u v=>(pc la u v+pc lb u v)%m) (fun _ _=>0) i j i)).set j ((pc la i j+pc lb i j)%m))=tab2 n (upt (fun u v=>(pc la u v+pc lb u v)%m) (fun _ _=>0) i (j+1)):=Fw (fun a b _=>Y3 _ _ i j a b)
     (repeat (first|((with_reducible refine rC rfl fun K hK=>?_);simp only [go_sem,seval,↓reduceIte,show (j:Int)<((n-i:Nat):Int) by omega,Ap _ _ hi2,Aj _ _ (Nat.le_of_lt hi2),Af,Am,B5 hin,Nat.mul_one,Ae _ _ hc,Aa _ _ (Nat.le_of_lt hc),Ah,Int.toNat_natCast,Int.natCast_nonneg,Ck _ _ _ _ hi2,hst,wid ((j:Int)+1) (by omega) (by omega)];(first|refine hK _ _ _ ?_|refine ⟨_,hP1,hK _ _ _ ?_⟩|refine ⟨_,hMd,hK _ _ _ ?_⟩);clear hK K)|refine sT ?_))
     exact ⟨j+1,by omega,by omega,by simp [Sub,lk]⟩
    ·have hE:tab2 n (upt (fun u v=>(pc la u v+pc lb u v)%m) (fun _ _=>0) i j)=tab2 n (upt (fun u v=>(pc la u v+pc lb u v)%m) (fun _ _=>0) (i+1) 0):=Aw fun u v huv=>Yx (by omega) huv
     (repeat (first|((with_reducible refine rC rfl fun K hK=>?_);simp only [go_sem,seval,↓reduceIte,show ¬ (j:Int)<((n-i:Nat):Int) by omega,wid ((i:Int)+1) (by omega) (by omega)];refine hK _ _ _ ?_;clear hK K)|refine sT ?_))
     exact ⟨i+1,by omega,by omega,by simp only [hE];simp [Sub,lk]⟩
  ·have hie:i=n:=by omega
   subst hie
   (repeat (first|((with_reducible refine rC rfl fun K hK=>?_);simp only [go_sem,seval,↓reduceIte,show ¬ (i:Int)<(i:Int) by omega];refine hK _ _ _ ?_;clear hK K)|refine sT ?_))
   refine rt1 ?_
   rw [show tab2 i (upt (fun u v=>(pc la u v+pc lb u v)%m) (fun _ _=>0) i 0)=tab2 i (fun u v=>(pc la u v+pc lb u v)%m) from Aw fun u v huv=>Y6 huv]
theorem Nm (m:Int) (la lb:List (List Int)) (n:Nat) (hm:0<m) (hm2:m≤10000) (ha:Pl m n la) (hb:Pl m n lb) (hn:1≤n) (hn2:n≤1000):AFn Tryz.prog 124 [.agg [.int .i64 m,.sl false 27 (rowsF la)],.agg [.int .i64 m,.sl false 27 (rowsF lb)]] (.agg [.int .i64 m,.sl true 27 (rowsO (tab2 n (fun u v=>(pc la u v+pc lb u v)%m)))]):=by
 refine fO Tryz.func124 Tryz.ntmps124 (by rw [Tryz.results124]) fun C hP hM hC=>?_
 (repeat (first|((with_reducible refine rC rfl fun K hK=>?_);simp only [go_sem,seval,↓reduceIte];(first|refine hK _ _ _ ?_|refine ⟨_,Ly m la lb n hm hm2 ha hb hn hn2,hK _ _ _ ?_⟩);clear hK K)|refine sT ?_))
 refine rt1 ?_
 rfl
set_option maxHeartbeats 1000000 in
theorem Ij (m:Int) (c:List Int) (ll:List (List Int)) (n:Nat) (hm:0<m) (hm2:m≤10000) (hl:Pl m n ll) (hc:∀ x∈c,0≤x∧x<m) (hcl:c.length≤1000) (hn:1≤n) (hn2:n≤1000):AFn Tryz.prog 91 [.agg [.int .i64 m,.sl false 2 (intL c)],.agg [.int .i64 m,.sl false 27 (rowsF ll)]] (.agg [.int .i64 m,.sl true 27 (rowsO (aftL m n (pc ll) c c.length))]):=by
 refine fO Tryz.func91 Tryz.ntmps91 (by rw [Tryz.results91]) fun C hP hM hC=>?_
 have h0:=Dn m 0 ll n hm hm2 hl.len hn hn2
 have e0:numP m 0 n=aftL m n (pc ll) c 0:=Aw fun u v _=>by simp
 rw [e0] at h0
 (repeat (first|((with_reducible refine rC rfl fun K hK=>?_);simp only [go_sem,seval,↓reduceIte];(first|refine hK _ _ _ ?_|refine ⟨_,h0,hK _ _ _ ?_⟩|refine ⟨_,Bb m c (by omega),hK _ _ _ ?_⟩);clear hK K)|refine sT ?_))
 refine AWP.loop (fun w:Nat×Nat=>[(6,⟨0,.val (.int .i64 ((c.length:Int)-1-(w.1:Int)))⟩),(5,⟨w.2,.own (.box 26 (.agg [.int .i64 m,.sl true 27 (rowsO (aftL m n (pc ll) c w.1))]))⟩),(2,⟨1,.own (.box 29 (.agg [.int .i64 m,.sl false 2 (intL c)]))⟩),(3,⟨1,.own (.box 26 (.agg [.int .i64 m,.sl false 27 (rowsF ll)]))⟩),(4,⟨1,.own (.box 26 (.agg [.int .i64 0,.nil]))⟩)]) (fun w=>w.1≤c.length) (fun w=>c.length-w.1) (0,2) (Nat.zero_le _) (fun i=>rfl) ?_ (fun w hw=>?_)
 ·simp [Sub,lk]
 ·obtain ⟨k,v⟩:=w
  simp only at hw ⊢
  by_cases hk:k<c.length
  ·have hT:=Hm m (aftL m n (pc ll) c k) ll n hm hm2 (Fb hm n _ c k) hl hn hn2
   have hx:=An hc hm (c.length-1-k)
   have hN:=Dn m (at' c (c.length-1-k)) ll n hm hm2 hl.len hn hn2
   have hPs:=Nm m (pmul m n (pc (aftL m n (pc ll) c k)) (pc ll)) (numP m (at' c (c.length-1-k)) n) n hm hm2 (E0 hm n _ _) (Zi hm _ n) hn hn2
   have hE:tab2 n (fun u v=>(pc (pmul m n (pc (aftL m n (pc ll) c k)) (pc ll)) u v+pc (numP m (at' c (c.length-1-k)) n) u v)%m)=aftL m n (pc ll) c (k+1):=by
    rw [aftL]
    refine Aw fun u v huv=>?_
    rw [pmul,numP,Bi huv,Bi huv]
    by_cases h:u=0∧v=0
    ·rw [if_pos h,if_pos h,h.1,h.2,Int.emod_eq_of_lt hx.1 hx.2]
    ·rw [if_neg h,if_neg h,Int.add_zero,Int.emod_emod]
   rw [hE] at hPs
   have hlt:c.length-1-k<c.length:=by omega
   (repeat (first|((with_reducible refine rC rfl fun K hK=>?_);simp only [go_sem,seval,↓reduceIte,show (0:Int)≤(c.length:Int)-1-(k:Int) by omega,show ((c.length:Int)-1-(k:Int)).toNat=c.length-1-k by omega,show (c.length:Int)-1-(k:Int)<(c.length:Int) by omega,Ac c _ hlt,show c.getD (c.length-1-k) 0=at' c (c.length-1-k) from rfl,wid ((c.length:Int)-1-(k:Int)-1) (by omega) (by omega)];(first|refine hK _ _ _ ?_|refine ⟨_,hT,hK _ _ _ ?_⟩|refine ⟨_,hN,hK _ _ _ ?_⟩|refine ⟨_,hPs,hK _ _ _ ?_⟩);clear hK K)|refine sT ?_))
   exact ⟨(k+1,v+1),by simp only;omega,by simp only;omega,by simp [Sub,lk];omega⟩
  ·(repeat (first|((with_reducible refine rC rfl fun K hK=>?_);simp only [go_sem,seval,↓reduceIte,show ¬ (0:Int)≤(c.length:Int)-1-(k:Int) by omega];refine hK _ _ _ ?_;clear hK K)|refine sT ?_))
   refine rt1 ?_
   rw [show k=c.length by omega]
theorem Lr (la lb:List Int) (h:la.length=lb.length) (hl:la.length≤1000000000):AFn Tryz.prog 248 [.sl false 2 (intL la),.sl false 2 (intL lb)] (.bool (eqB la lb)):=by
 refine fO Tryz.func248 Tryz.ntmps248 (by rw [Tryz.results248]) fun C hP hM hC=>?_
 (repeat (first|((with_reducible refine rC rfl fun K hK=>?_);simp only [go_sem,seval,↓reduceIte];(first|refine hK _ _ _ ?_|refine ⟨_,Hr la lb h hl,hK _ _ _ ?_⟩);clear hK K)|refine sT ?_))
 refine rt1 ?_
 rfl
theorem Zp {n:Nat} {f g:Nat→Nat→Int} {i:Nat} (hi:i<n) (h:tab (n-i) (f i)≠tab (n-i) (g i)):tab2 n f≠tab2 n g:=fun e=>h (by rw [← B5 (f:=f) hi,← B5 (f:=g) hi,e])
theorem Zd {n:Nat} {f g:Nat→Nat→Int} (h:∀ i,i<n→tab (n-i) (f i)=tab (n-i) (g i)):tab2 n f=tab2 n g:=
 List.map_congr_left fun i hi=>h i (List.mem_range.1 hi)
theorem Ek (n:Nat) (f g:Nat→Nat→Int) (hn:n≤1000):AFn Tryz.prog 247 [.sl false 27 (rowsF (tab2 n f)),.sl false 27 (rowsF (tab2 n g)),.fn 248 []] (.bool (decide (tab2 n f=tab2 n g))):=by
 refine fO Tryz.func247 Tryz.ntmps247 (by rw [Tryz.results247]) fun C hP hM hC=>?_
 (repeat (first|((with_reducible refine rC rfl fun K hK=>?_);simp only [go_sem,seval,↓reduceIte,Ab,Am,show ((n:Int) != (n:Int))=false by simp];refine hK _ _ _ ?_;clear hK K)|refine sT ?_))
 refine AWP.loop (fun i:Nat=>[(17,⟨0,.val (.int .i64 i)⟩),(16,⟨0,.val (.int .i64 n)⟩),(15,⟨0,.val (.sl false 27 (rowsF (tab2 n f)))⟩),(0,⟨0,.val (.sl false 27 (rowsF (tab2 n f)))⟩),(1,⟨0,.val (.sl false 27 (rowsF (tab2 n g)))⟩),(2,⟨0,.val (.fn 248 [])⟩)]) (fun i=>i≤n∧∀ j,j<i→tab (n-j) (f j)=tab (n-j) (g j)) (fun i=>n-i) 0 ⟨Nat.zero_le _,fun j hj=>by omega⟩ (fun i=>rfl) ?_ (fun i hi=>?_)
 ·simp [Sub,lk]
 ·by_cases hin:i<n
  ·have hS:=Lr (tab (n-i) (f i)) (tab (n-i) (g i)) (by rw [Ah,Ah]) (by rw [Ah];omega)
   by_cases he:tab (n-i) (f i)=tab (n-i) (g i)
   ·rw [eqB,decide_eq_true he] at hS
    (repeat (first|((with_reducible refine rC rfl fun K hK=>?_);simp only [go_sem,seval,↓reduceIte,show (i:Int)<(n:Int) by omega,Ak (tab2 n f) i (by rw [Am];exact hin),Ak (tab2 n g) i (by rw [Am];exact hin),B5 hin,Ab,Am,Int.toNat_natCast,Int.natCast_nonneg,wid ((i:Int)+1) (by omega) (by omega)];(first|refine hK _ _ _ ?_|refine ⟨_,hS,hK _ _ _ ?_⟩);clear hK K)|refine sT ?_))
    refine ⟨i+1,⟨hin,fun j hj=>?_⟩,by omega,by simp [Sub,lk]⟩
    by_cases e:j=i
    ·rw [e];exact he
    ·exact hi.2 j (by omega)
   ·rw [eqB,decide_eq_false he] at hS
    (repeat (first|((with_reducible refine rC rfl fun K hK=>?_);simp only [go_sem,seval,↓reduceIte,show (i:Int)<(n:Int) by omega,Ak (tab2 n f) i (by rw [Am];exact hin),Ak (tab2 n g) i (by rw [Am];exact hin),B5 hin,Ab,Am,Int.toNat_natCast,Int.natCast_nonneg];(first|refine hK _ _ _ ?_|refine ⟨_,hS,hK _ _ _ ?_⟩);clear hK K)|refine sT ?_))
    refine rt1 ?_
    rw [decide_eq_false (Zp hin he)]
  ·(repeat (first|((with_reducible refine rC rfl fun K hK=>?_);simp only [go_sem,seval,↓reduceIte,show ¬ (i:Int)<(n:Int) by omega];refine hK _ _ _ ?_;clear hK K)|refine sT ?_))
   refine rt1 ?_
   rw [decide_eq_true (Zd fun j hj=>hi.2 j (by omega))]
theorem Nr (m:Int) (n:Nat) (f g:Nat→Nat→Int) (hn:n≤1000):AFn Tryz.prog 209 [.agg [.int .i64 m,.sl false 27 (rowsF (tab2 n f))],.agg [.int .i64 m,.sl false 27 (rowsF (tab2 n g))]] (.bool (decide (tab2 n f=tab2 n g))):=by
 refine fO Tryz.func209 Tryz.ntmps209 (by rw [Tryz.results209]) fun C hP hM hC=>?_
 (repeat (first|((with_reducible refine rC rfl fun K hK=>?_);simp only [go_sem,seval,↓reduceIte,show (m==m)=true by simp];(first|refine hK _ _ _ ?_|refine ⟨_,Ek n f g hn,hK _ _ _ ?_⟩);clear hK K)|refine sT ?_))
 refine rt1 ?_
 rfl
theorem Ry (la lb:List Int) (h:la.length=lb.length) (hl:la.length≤1000000000):AFn Tryz.prog 271 [.sl false 2 (intL la),.sl false 2 (intL lb)] (.bool (eqB la lb)):=by
 refine fO Tryz.func271 Tryz.ntmps271 (by rw [Tryz.results271]) fun C hP hM hC=>?_
 (repeat (first|((with_reducible refine rC rfl fun K hK=>?_);simp only [go_sem,seval,↓reduceIte,show ((la.length:Int) != (lb.length:Int))=false by rw [h];simp];refine hK _ _ _ ?_;clear hK K)|refine sT ?_))
 refine AWP.loop (fun i:Nat=>[(5,⟨0,.val (.int .i64 i)⟩),(0,⟨0,.val (.sl false 2 (intL la))⟩),(1,⟨0,.val (.sl false 2 (intL lb))⟩)]) (fun i=>i≤la.length∧∀ j,j<i→la.getD j 0=lb.getD j 0) (fun i=>la.length-i) 0 ⟨Nat.zero_le _,fun j hj=>by omega⟩ (fun i=>rfl) ?_ (fun i hi=>?_)
 ·simp [Sub,lk]
 ·by_cases hlt:i<la.length
  ·by_cases hx:la.getD i 0=lb.getD i 0
   ·(repeat (first|((with_reducible refine rC rfl fun K hK=>?_);simp only [go_sem,seval,↓reduceIte,show (i:Int)<(la.length:Int) by omega,show (i:Int)<(lb.length:Int) by omega,Ac la i hlt,Ac lb i (by omega),Int.toNat_natCast,Int.natCast_nonneg,show (la.getD i 0 != lb.getD i 0)=false by rw [hx];simp,wid ((i:Int)+1) (by omega) (by omega)];refine hK _ _ _ ?_;clear hK K)|refine sT ?_))
    refine ⟨i+1,⟨hlt,fun j hj=>?_⟩,by omega,by simp [Sub,lk]⟩
    by_cases e:j=i
    ·rw [e];exact hx
    ·exact hi.2 j (by omega)
   ·(repeat (first|((with_reducible refine rC rfl fun K hK=>?_);simp only [go_sem,seval,↓reduceIte,show (i:Int)<(la.length:Int) by omega,show (i:Int)<(lb.length:Int) by omega,Ac la i hlt,Ac lb i (by omega),Int.toNat_natCast,Int.natCast_nonneg,show (la.getD i 0 != lb.getD i 0)=true by rw [bne_iff_ne];exact hx];refine hK _ _ _ ?_;clear hK K)|refine sT ?_))
    refine rt1 ?_
    rw [eqB,decide_eq_false (fun e=>hx (by rw [e]))]
  ·(repeat (first|((with_reducible refine rC rfl fun K hK=>?_);simp only [go_sem,seval,↓reduceIte,show ¬ (i:Int)<(la.length:Int) by omega];refine hK _ _ _ ?_;clear hK K)|refine sT ?_))
   refine rt1 ?_
   rw [eqB,decide_eq_true (Uf h (fun j hj=>hi.2 j (by omega)))]
theorem Qo (n:Nat) (f g:Nat→Nat→Int) (hn:n≤1000):AFn Tryz.prog 259 [.sl false 27 (rowsF (tab2 n f)),.sl false 27 (rowsF (tab2 n g))] (.bool (decide (tab2 n f=tab2 n g))):=by
 refine fO Tryz.func259 Tryz.ntmps259 (by rw [Tryz.results259]) fun C hP hM hC=>?_
 (repeat (first|((with_reducible refine rC rfl fun K hK=>?_);simp only [go_sem,seval,↓reduceIte,Ab,Am,show ((n:Int) != (n:Int))=false by simp];refine hK _ _ _ ?_;clear hK K)|refine sT ?_))
 refine AWP.loop (fun i:Nat=>[(5,⟨0,.val (.int .i64 i)⟩),(0,⟨0,.val (.sl false 27 (rowsF (tab2 n f)))⟩),(1,⟨0,.val (.sl false 27 (rowsF (tab2 n g)))⟩)]) (fun i=>i≤n∧∀ j,j<i→tab (n-j) (f j)=tab (n-j) (g j)) (fun i=>n-i) 0 ⟨Nat.zero_le _,fun j hj=>by omega⟩ (fun i=>rfl) ?_ (fun i hi=>?_)
 ·simp [Sub,lk]
 ·by_cases hin:i<n
  ·have hS:=Ry (tab (n-i) (f i)) (tab (n-i) (g i)) (by rw [Ah,Ah]) (by rw [Ah];omega)
   by_cases he:tab (n-i) (f i)=tab (n-i) (g i)
   ·rw [eqB,decide_eq_true he] at hS
    (repeat (first|((with_reducible refine rC rfl fun K hK=>?_);simp only [go_sem,seval,↓reduceIte,show (i:Int)<(n:Int) by omega,Ak (tab2 n f) i (by rw [Am];exact hin),Ak (tab2 n g) i (by rw [Am];exact hin),B5 hin,Ab,Am,Int.toNat_natCast,Int.natCast_nonneg,wid ((i:Int)+1) (by omega) (by omega)];(first|refine hK _ _ _ ?_|refine ⟨_,hS,hK _ _ _ ?_⟩);clear hK K)|refine sT ?_))
    refine ⟨i+1,⟨hin,fun j hj=>?_⟩,by omega,by simp [Sub,lk]⟩
    by_cases e:j=i
    ·rw [e];exact he
    ·exact hi.2 j (by omega)
   ·rw [eqB,decide_eq_false he] at hS
    (repeat (first|((with_reducible refine rC rfl fun K hK=>?_);simp only [go_sem,seval,↓reduceIte,show (i:Int)<(n:Int) by omega,Ak (tab2 n f) i (by rw [Am];exact hin),Ak (tab2 n g) i (by rw [Am];exact hin),B5 hin,Ab,Am,Int.toNat_natCast,Int.natCast_nonneg];(first|refine hK _ _ _ ?_|refine ⟨_,hS,hK _ _ _ ?_⟩);clear hK K)|refine sT ?_))
    refine rt1 ?_
    rw [decide_eq_false (Zp hin he)]
  ·(repeat (first|((with_reducible refine rC rfl fun K hK=>?_);simp only [go_sem,seval,↓reduceIte,Ab,Am,show ¬ (i:Int)<(n:Int) by omega];refine hK _ _ _ ?_;clear hK K)|refine sT ?_))
   refine rt1 ?_
   rw [decide_eq_true (Zd fun j hj=>hi.2 j (by omega))]
set_option maxHeartbeats 4000000 in
theorem Kd (m:Int) (ll:List (List Int)) (a b:List Int) (n:Nat) (hm:0<m) (hm2:m≤10000) (hl:Pl m n ll) (ha:∀ x∈a,0≤x∧x<m) (hal:a.length=n) (hb:∀ x∈b,0≤x∧x<m) (hbl:b.length=n) (hn:1≤n) (hn2:n≤1000):AFn Tryz.prog (8000000+174) [.int .i64 0,.agg [.int .i64 m,.sl true 27 (rowsO ll)],.agg [.int .i64 m,.sl false 2 (intL a)],.agg [.int .i64 m,.sl false 2 (intL b)]] (.tup [.tup [],.agg [.int .i64 m,.sl true 27 (rowsO (tab2 n (fun u v=>(pc ll u v+at' a u*at' b v%m)%m)))]]):=by
 have hm0:m≠0:=by omega
 refine (Air (by decide)).2 (AFx.ofBox' (d:=3) ttOk md Tryz.func174 Tryz.ntmps174 (by rw [Tryz.results174]) (by rfl) (by rfl) (by decide) (by simp) (by decide) (by rfl) (by rfl) (by rfl) (by kernel_rfl) (by kernel_rfl) (by rw [Af,Af,Am,hl.len]) (by simp only [T.noF,I1,Bool.and_self]) rfl mixed (fun C hP hM hC=>?_))
 obtain ⟨t,ht⟩:∃ t,t=pc ll:=⟨_,rfl⟩
 have e0:ll=tab2 n (upt (fun u v=>(t u v+at' a u*at' b v%m)%m) t 0 0):=by
  rw [show tab2 n (upt (fun u v=>(t u v+at' a u*at' b v%m)%m) t 0 0)=tab2 n t from Aw fun u v _=>Sh _ _ _ _,ht]
  exact hl.eq
 have hnum:∀ i j,0≤t i j∧t i j<m:=by rw [ht];exact hl.num
 rw [← ht]
 generalize (pc ll)=t9 at *
 rw [e0]
 (repeat (first|((with_reducible refine rC rfl fun K hK=>?_);simp only [go_sem,seval,↓reduceIte,Af,Am];refine hK _ _ _ ?_;clear hK K)|refine sT ?_))
 refine AWP.loop (fun i:Nat=>[(12,⟨0,.val (.int .i64 i)⟩),(11,⟨0,.val (.int .i64 n)⟩),(10,⟨0,.val (.ref 3 0 [0,1])⟩),(3,⟨0,.own (.box 26 (.agg [.int .i64 m,.sl true 27 (rowsO (tab2 n (upt (fun u v=>(t u v+at' a u*at' b v%m)%m) t i 0)))]))⟩),(4,⟨1,.own (.box 29 (.agg [.int .i64 m,.sl false 2 (intL a)]))⟩),(5,⟨1,.own (.box 29 (.agg [.int .i64 m,.sl false 2 (intL b)]))⟩)]) (fun i=>i≤n) (fun i=>n-i) 0 (Nat.zero_le _) (fun i=>rfl) ?_ (fun i hi=>?_)
 ·simp [Sub,lk]
 ·by_cases hin:i<n
  ·have hi1:i<(tab2 n (upt (fun u v=>(t u v+at' a u*at' b v%m)%m) t i 0)).length:=by rw [Am];exact hin
   (repeat (first|((with_reducible refine rC rfl fun K hK=>?_);simp only [go_sem,seval,↓reduceIte,show (i:Int)<(n:Int) by omega,Ap _ _ hi1,Aj _ _ (Nat.le_of_lt hi1),Af,Am,B5 hin,Ah,Nat.mul_one,Int.toNat_natCast,Int.natCast_nonneg];refine hK _ _ _ ?_;clear hK K)|refine sT ?_))
   refine AWP.loop (fun j:Nat=>[(19,⟨0,.val (.int .i64 j)⟩),(18,⟨0,.val (.int .i64 (n-i:Nat))⟩),(7,⟨0,.val (.ref 3 0 [0,1,i])⟩),(6,⟨0,.val (.int .i64 i)⟩),(12,⟨0,.val (.int .i64 i)⟩),(11,⟨0,.val (.int .i64 n)⟩),(10,⟨0,.val (.ref 3 0 [0,1])⟩),(3,⟨0,.own (.box 26 (.agg [.int .i64 m,.sl true 27 (rowsO (tab2 n (upt (fun u v=>(t u v+at' a u*at' b v%m)%m) t i j)))]))⟩),(4,⟨1,.own (.box 29 (.agg [.int .i64 m,.sl false 2 (intL a)]))⟩),(5,⟨1,.own (.box 29 (.agg [.int .i64 m,.sl false 2 (intL b)]))⟩)]) (fun j=>i+j≤n) (fun j=>n-j) 0 (by omega) (fun i=>rfl) ?_ (fun j hj=>?_)
   ·simp [Sub,lk]
   ·by_cases hjn:i+j<n
    ·have hi2:i<(tab2 n (upt (fun u v=>(t u v+at' a u*at' b v%m)%m) t i j)).length:=by rw [Am];exact hin
     have hc:j<(tab (n-i) (upt (fun u v=>(t u v+at' a u*at' b v%m)%m) t i j i)).length:=by rw [Ah];omega
     have g1:(tab (n-i) (upt (fun u v=>(t u v+at' a u*at' b v%m)%m) t i j i)).getD j 0=t i j:=by rw [D0 (by omega),Ala]
     have h1:=hnum i j
     have h2:=An ha hm i
     have h3:=An hb hm j
     have hMl:=Gc m (at' a i) (at' b j) hm (by omega) h2.1 h2.2 h3.1 h3.2
     have h4:=Aq (at' a i*at' b j) m hm
     have hst:(tab2 n (upt (fun u v=>(t u v+at' a u*at' b v%m)%m) t i j)).set i ((tab (n-i) (upt (fun u v=>(t u v+at' a u*at' b v%m)%m) t i j i)).set j ((t i j+at' a i*at' b j%m)%m))=tab2 n (upt (fun u v=>(t u v+at' a u*at' b v%m)%m) t i (j+1)):=Fw (fun x y _=>Y3 _ _ i j x y)
     (repeat (first|((with_reducible refine rC rfl fun K hK=>?_);simp only [go_sem,seval,↓reduceIte,show (j:Int)<((n-i:Nat):Int) by omega,Ap _ _ hi2,Aj _ _ (Nat.le_of_lt hi2),Af,Am,B5 hin,Nat.mul_one,Ae _ _ hc,Aa _ _ (Nat.le_of_lt hc),Ah,g1,Int.toNat_natCast,Int.natCast_nonneg,hal,hbl,show (i:Int)<(n:Int) by omega,show (j:Int)<(n:Int) by omega,Ac a i (by omega),Ac b j (by omega),show a.getD i 0=at' a i from rfl,show b.getD j 0=at' b j from rfl,wid (t i j+at' a i*at' b j%m) (by omega) (by omega),tm (t i j+at' a i*at' b j%m) m (by omega),hm0,Ck _ _ _ _ hi2,hst,wid ((j:Int)+1) (by omega) (by omega)];(first|refine hK _ _ _ ?_|refine ⟨_,hMl,hK _ _ _ ?_⟩);clear hK K)|refine sT ?_))
     exact ⟨j+1,by omega,by omega,by simp [Sub,lk]⟩
    ·have hE:tab2 n (upt (fun u v=>(t u v+at' a u*at' b v%m)%m) t i j)=tab2 n (upt (fun u v=>(t u v+at' a u*at' b v%m)%m) t (i+1) 0):=Aw fun u v huv=>Yx (by omega) huv
     (repeat (first|((with_reducible refine rC rfl fun K hK=>?_);simp only [go_sem,seval,↓reduceIte,show ¬ (j:Int)<((n-i:Nat):Int) by omega,wid ((i:Int)+1) (by omega) (by omega)];refine hK _ _ _ ?_;clear hK K)|refine sT ?_))
     exact ⟨i+1,by omega,by omega,by simp only [hE];simp [Sub,lk]⟩
  ·have hie:i=n:=by omega
   subst hie
   (repeat (first|((with_reducible refine rC rfl fun K hK=>?_);simp only [go_sem,seval,↓reduceIte,show ¬ (i:Int)<(i:Int) by omega];refine hK _ _ _ ?_;clear hK K)|refine sT ?_))
   refine Acx ?_
   rw [show tab2 i (fun u v=>(t u v+at' a u*at' b v%m)%m)=tab2 i (upt (fun u v=>(t u v+at' a u*at' b v%m)%m) t i 0) from Aw fun u v huv=>by rw [Y6 huv]]
   rfl
set_option maxHeartbeats 4000000 in
theorem H1 (m:Int) (ll:List (List Int)) (a b:List Int) (n:Nat) (hm:1<m) (hm2:m≤10000) (hl:Pl m n ll) (ha:∀ x∈a,0≤x∧x<m) (hal:a.length=n) (hb:∀ x∈b,0≤x∧x<m) (hbl:b.length=n) (hn:1≤n) (hn2:n≤1000):AFn Tryz.prog 72 [.agg [.int .i64 m,.sl false 27 (rowsF ll)],.agg [.int .i64 m,.sl false 2 (intL a)],.agg [.int .i64 m,.sl false 2 (intL b)]] (.agg [.int .i64 m,.sl true 27 (rowsO (bthT m n (pc ll) (pwC m a (n-1)) (pwC m b (n-1))))]):=by
 refine fO Tryz.func72 Tryz.ntmps72 (by rw [Tryz.results72]) fun C hP hM hC=>?_
 have h0:=Dn m 0 ll n (by omega) hm2 hl.len hn hn2
 have e0:numP m 0 n=tab2 n (fun u v=>sij n (pc ll) (pwC m a (n-1)) (pwC m b (n-1)) 0 0 u v%m):=Aw fun u v _=>by rw [Vk,Int.zero_emod];split <;> simp
 rw [e0] at h0
 have hpa:=Ge m a (n-1) hm hm2 ha (by omega) (by omega)
 have hpb:=Ge m b (n-1) hm hm2 hb (by omega) (by omega)
 rw [show n-1+1=n by omega] at hpa hpb
 (repeat (first|((with_reducible refine rC rfl fun K hK=>?_);simp only [go_sem,seval,↓reduceIte,Ab,hl.len];(first|refine hK _ _ _ ?_|refine ⟨_,h0,hK _ _ _ ?_⟩|refine ⟨_,hpa,hK _ _ _ ?_⟩|refine ⟨_,hpb,hK _ _ _ ?_⟩);clear hK K)|refine sT ?_))
 refine AWP.loop (fun w:Nat×Nat=>[(23,⟨0,.val (.int .i64 w.1)⟩),(22,⟨0,.val (.int .i64 n)⟩),(21,⟨0,.val (.sl false 27 (rowsF ll))⟩),(7,⟨w.2,.own (.box 26 (.agg [.int .i64 m,.sl true 27 (rowsO (tab2 n (fun u v=>sij n (pc ll) (pwC m a (n-1)) (pwC m b (n-1)) w.1 0 u v%m)))]))⟩),(8,⟨1,.own (.sl true 29 (serO m (pwSL m a (n-1) n)))⟩),(9,⟨1,.own (.sl true 29 (serO m (pwSL m b (n-1) n)))⟩),(3,⟨1,.own (.box 26 (.agg [.int .i64 m,.sl false 27 (rowsF ll)]))⟩),(6,⟨1,.own (.box 26 (.agg [.int .i64 0,.nil]))⟩)]) (fun w=>w.1≤n) (fun w=>n-w.1) (0,2) (Nat.zero_le _) (fun i=>rfl) ?_ (fun w hw=>?_)
 ·simp [Sub,lk]
 ·obtain ⟨i,v⟩:=w
  simp only at hw ⊢
  by_cases hin:i<n
  ·have hrow:=hl.row i hin
   (repeat (first|((with_reducible refine rC rfl fun K hK=>?_);simp only [go_sem,seval,↓reduceIte,show (i:Int)<(n:Int) by omega,Ak ll i (by rw [hl.len];exact hin),Ab,hl.len,Int.toNat_natCast,Int.natCast_nonneg,hrow];refine hK _ _ _ ?_;clear hK K)|refine sT ?_))
   refine AWP.loop (fun w:Nat×Nat=>[(30,⟨0,.val (.int .i64 w.1)⟩),(29,⟨0,.val (.int .i64 (n-i:Nat))⟩),(28,⟨0,.val (.sl false 2 (intL (ll.getD i [])))⟩),(10,⟨0,.val (.int .i64 i)⟩),(23,⟨0,.val (.int .i64 i)⟩),(22,⟨0,.val (.int .i64 n)⟩),(21,⟨0,.val (.sl false 27 (rowsF ll))⟩),(7,⟨w.2,.own (.box 26 (.agg [.int .i64 m,.sl true 27 (rowsO (tab2 n (fun u v=>sij n (pc ll) (pwC m a (n-1)) (pwC m b (n-1)) i w.1 u v%m)))]))⟩),(8,⟨1,.own (.sl true 29 (serO m (pwSL m a (n-1) n)))⟩),(9,⟨1,.own (.sl true 29 (serO m (pwSL m b (n-1) n)))⟩),(3,⟨1,.own (.box 26 (.agg [.int .i64 m,.sl false 27 (rowsF ll)]))⟩),(6,⟨1,.own (.box 26 (.agg [.int .i64 0,.nil]))⟩)]) (fun w=>i+w.1≤n) (fun w=>n-w.1) (0,v) (by simp only;omega) (fun i=>rfl) ?_ (fun w hw=>?_)
   ·simp [Sub,lk]
   ·obtain ⟨j,v⟩:=w
    simp only at hw ⊢
    by_cases hjn:i+j<n
    ·have hj1:j<(ll.getD i []).length:=by omega
     have hx:=hl.num i j
     by_cases h00:pc ll i j=0
     ·have hE:tab2 n (fun u v=>sij n (pc ll) (pwC m a (n-1)) (pwC m b (n-1)) i (j+1) u v%m)=tab2 n (fun u v=>sij n (pc ll) (pwC m a (n-1)) (pwC m b (n-1)) i j u v%m):=Aw fun u v _=>by rw [K0,h00,Int.zero_mul,Int.add_zero]
      (repeat (first|((with_reducible refine rC rfl fun K hK=>?_);simp only [go_sem,seval,↓reduceIte,show (j:Int)<((n-i:Nat):Int) by omega,Int.toNat_natCast,Int.natCast_nonneg,Ac _ j hj1,hrow,show (ll.getD i []).getD j 0=pc ll i j from rfl,h00,show ((0:Int) != 0)=false from rfl,wid ((j:Int)+1) (by omega) (by omega)];refine hK _ _ _ ?_;clear hK K)|refine sT ?_))
      exact ⟨(j+1,v),by simp only;omega,by simp only;omega,by simp only [hE];simp [Sub,lk]⟩
     ·have hii:i<(pwSL m a (n-1) n).length:=by rw [Ct];exact hin
      have hjj:j<(pwSL m b (n-1) n).length:=by rw [Ct];omega
      have hp:=F9 hm a (n-1) i
      have hq:=F9 hm b (n-1) j
      have hS:=Kw m (pc ll i j) (pwS m a (n-1) i) (n-1) (by omega) hm2 hp.2 (by omega) (by omega) hx.1 hx.2
      have hs2:=Ajw (show 0<m by omega) (pc ll i j) (pwS m a (n-1) i) (n-1)
      have hT2:Pl m n (tab2 n (fun u v=>sij n (pc ll) (pwC m a (n-1)) (pwC m b (n-1)) i j u v%m)):=Pl.tab2 (by omega) fun _ _ _=>Aq _ m (by omega)
      have hO:=Kd m (tab2 n (fun u v=>sij n (pc ll) (pwC m a (n-1)) (pwC m b (n-1)) i j u v%m)) (scL m (pc ll i j) (pwS m a (n-1) i) (n-1)) (pwS m b (n-1) j) n (by omega) hm2 hT2 hs2.2 (by omega) hq.2 (by omega) hn hn2
      have hE:tab2 n (fun u v=>(pc (tab2 n (fun u v=>sij n (pc ll) (pwC m a (n-1)) (pwC m b (n-1)) i j u v%m)) u v+at' (scL m (pc ll i j) (pwS m a (n-1) i) (n-1)) u*at' (pwS m b (n-1) j) v%m)%m)=tab2 n (fun u v=>sij n (pc ll) (pwC m a (n-1)) (pwC m b (n-1)) i (j+1) u v%m):=Aw fun u v huv=>by
       rw [Bi huv,K0,scL,Bm (by omega),Int.add_emod_emod,Int.emod_add_emod]
       show (_+_*pwC m b (n-1) j v)%m=_
       rw [show at' (pwS m a (n-1) i) u=pwC m a (n-1) i u from rfl,← Int.mul_assoc,Int.add_emod,H6,← Int.add_emod]
      rw [hE] at hO
      (repeat (first|((with_reducible refine rC rfl fun K hK=>?_);simp only [go_sem,seval,↓reduceIte,show (j:Int)<((n-i:Nat):Int) by omega,Int.toNat_natCast,Int.natCast_nonneg,Ac _ j hj1,hrow,show (ll.getD i []).getD j 0=pc ll i j from rfl,show (pc ll i j != 0)=true by rw [bne_iff_ne];exact h00,Hb,Ct,show (i:Int)<(n:Int) by omega,show (j:Int)<(n:Int) by omega,Rm _ _ _ hii,Rm _ _ _ hjj,Lf _ _ _ (Nat.le_of_lt hii),Lf _ _ _ (Nat.le_of_lt hjj),F4 (show i<n by omega),F4 (show j<n by omega),wid ((j:Int)+1) (by omega) (by omega)];(first|refine hK _ _ _ ?_|refine ⟨_,hS,hK _ _ _ ?_⟩|refine ⟨_,hO,hK _ _ _ ?_⟩);clear hK K)|refine sT ?_))
      have hns:=Ag4 (tab2 n (fun u v=>sij n (pc ll) (pwC m a (n-1)) (pwC m b (n-1)) i (j+1) u v%m)) (by rw [Am];omega)
      exact ⟨(j+1,v+1),by simp only;omega,by simp only;omega,by simp [Sub,lk];exact hns⟩
    ·have hE:tab2 n (fun u v=>sij n (pc ll) (pwC m a (n-1)) (pwC m b (n-1)) i j u v%m)=tab2 n (fun u v=>sij n (pc ll) (pwC m a (n-1)) (pwC m b (n-1)) (i+1) 0 u v%m):=Aw fun u v _=>by rw [show j=n-i by omega,Uj]
     (repeat (first|((with_reducible refine rC rfl fun K hK=>?_);simp only [go_sem,seval,↓reduceIte,show ¬ (j:Int)<((n-i:Nat):Int) by omega,wid ((i:Int)+1) (by omega) (by omega)];refine hK _ _ _ ?_;clear hK K)|refine sT ?_))
     exact ⟨(i+1,v),by simp only;omega,by simp only;omega,by simp only [hE];simp [Sub,lk]⟩
  ·have hie:i=n:=by omega
   subst hie
   (repeat (first|((with_reducible refine rC rfl fun K hK=>?_);simp only [go_sem,seval,↓reduceIte,show ¬ (i:Int)<(i:Int) by omega];refine hK _ _ _ ?_;clear hK K)|refine sT ?_))
   refine rt1 ?_
   rfl
def sijL (n:Nat) (t p q:Nat→Nat→Int) (m:Int) (i j k l u v:Nat):Int:=if (i≤u∧u<k∧j≤v)∨(u=k∧j≤v∧v<l) then sij n t p q i (j+1) u v%m else sij n t p q i j u v%m
theorem Abp (n:Nat) (t p q:Nat→Nat→Int) (m:Int) (i j u v:Nat):sijL n t p q m i j i j u v=sij n t p q i j u v%m:=if_neg (by omega)
theorem Ajs (n:Nat) (t p q:Nat→Nat→Int) (m:Int) (i j k l:Nat):sijL n t p q m i j k l k l=sij n t p q i j k l%m:=if_neg (by omega)
theorem Aik (n:Nat) (t p q:Nat→Nat→Int) (m:Int) {i j k l:Nat} (hk:i≤k) (hl:j≤l) (u v:Nat):(if u=k∧v=l then sij n t p q i (j+1) k l%m else sijL n t p q m i j k l u v)=sijL n t p q m i j k (l+1) u v:=by
 unfold sijL
 by_cases h:u=k∧v=l
 ·rw [if_pos h,if_pos (by omega),h.1,h.2]
 ·rw [if_neg h]
  by_cases h2:(i≤u∧u<k∧j≤v)∨(u=k∧j≤v∧v<l)
  ·rw [if_pos h2,if_pos (by omega)]
  ·rw [if_neg h2,if_neg (by omega)]
theorem Ah6 {n:Nat} {t p q:Nat→Nat→Int} {m:Int} {i j k l u v:Nat} (hk:i≤k) (h:n≤k+l) (huv:u+v<n):sijL n t p q m i j k l u v=sijL n t p q m i j (k+1) j u v:=by
 unfold sijL
 by_cases h2:(i≤u∧u<k∧j≤v)∨(u=k∧j≤v∧v<l)
 ·rw [if_pos h2,if_pos (by omega)]
 ·rw [if_neg h2,if_neg (by omega)]
theorem Ah7 {n:Nat} {t p q:Nat→Nat→Int} {m:Int} {i j k u v:Nat} (h:n≤k∨t i j=0) (hp:∀ a b,b<a→b<n→p a b=0) (hq:∀ a b,b<a→b<n→q a b=0) (huv:u+v<n):sijL n t p q m i j k j u v=sij n t p q i (j+1) u v%m:=by
 unfold sijL
 split
 ·rfl
 ·rename_i h2
  rw [K0]
  rcases h with h|h
  ·have : p i u * q j v = 0 := by
    by_cases h3:u<i
    ·rw [hp i u h3 (by omega),Int.zero_mul]
    ·rw [hq j v (by omega) (by omega),Int.mul_zero]
   rw [this,Int.mul_zero,Int.add_zero]
  ·rw [h,Int.zero_mul,Int.add_zero]
set_option maxHeartbeats 4000000 in
theorem Rz (m:Int) (ll:List (List Int)) (a b:List Int) (n:Nat) (hm:1<m) (hm2:m≤10000) (hl:Pl m n ll) (ha:∀ x∈a,0≤x∧x<m) (hal:a.length=n) (hb:∀ x∈b,0≤x∧x<m) (hbl:b.length=n) (ha0:at' a 0=0) (hb0:at' b 0=0) (hn:1≤n) (hn2:n≤1000):AFn Tryz.prog 75 [.int .i64 m,.sl false 27 (rowsF ll),.sl false 2 (intL a),.sl false 2 (intL b)] (.sl true 27 (rowsO (bthT m n (pc ll) (pwC m a (n-1)) (pwC m b (n-1))))):=by
 refine fO Tryz.func75 Tryz.ntmps75 (by rw [Tryz.results75]) fun C hP hM hC=>?_
 have hm0:m≠0:=by omega
 have hZ0:=Bz (n-1) (by omega)
 rw [show n-1+1=n by omega] at hZ0
 have e0:tab2 n (fun _ _=>0)=tab2 n (fun u v=>sij n (pc ll) (pwC m a (n-1)) (pwC m b (n-1)) 0 0 u v%m):=Aw fun u v _=>by rw [Vk,Int.zero_emod]
 rw [e0] at hZ0
 have hpa:=Iy m a (n-1) hm hm2 ha (by omega) (by omega)
 have hpb:=Iy m b (n-1) hm hm2 hb (by omega) (by omega)
 rw [show n-1+1=n by omega] at hpa hpb
 have hlo:∀ (c:List Int),at' c 0=0→∀ x y,y<x→y<n→pwC m c (n-1) x y=0:=fun c hc x y h1 h2=>J7 hc x y h1 (by omega)
 (repeat (first|((with_reducible refine rC rfl fun K hK=>?_);simp only [go_sem,seval,↓reduceIte,Ab,hl.len,show IntKind.i64.wrap ((n:Int)-1)=((n-1:Nat):Int) by rw [wid _ (by omega) (by omega)];omega];(first|refine hK _ _ _ ?_|refine ⟨_,hpa,hK _ _ _ ?_⟩|refine ⟨_,hpb,hK _ _ _ ?_⟩|refine ⟨_,hZ0,hK _ _ _ ?_⟩);clear hK K)|refine sT ?_))
 refine AWP.loop (fun i:Nat=>[(13,⟨0,.val (.int .i64 i)⟩),(9,⟨0,.val (.int .i64 n)⟩),(10,⟨1,.own (.sl true 27 (rowsO (pwSL m a (n-1) n)))⟩),(11,⟨1,.own (.sl true 27 (rowsO (pwSL m b (n-1) n)))⟩),(12,⟨1,.own (.sl true 27 (rowsO (tab2 n (fun u v=>sij n (pc ll) (pwC m a (n-1)) (pwC m b (n-1)) i 0 u v%m))))⟩),(0,⟨0,.val (.int .i64 m)⟩),(1,⟨0,.val (.sl false 27 (rowsF ll))⟩)]) (fun i=>i≤n) (fun i=>n-i) 0 (Nat.zero_le _) (fun i=>rfl) ?_ (fun i hi=>?_)
 ·simp [Sub,lk]
 ·by_cases hin:i<n
  ·have hrow:=hl.row i hin
   (repeat (first|((with_reducible refine rC rfl fun K hK=>?_);simp only [go_sem,seval,↓reduceIte,show (i:Int)<(n:Int) by omega];refine hK _ _ _ ?_;clear hK K)|refine sT ?_))
   refine AWP.loop (fun j:Nat=>[(14,⟨0,.val (.int .i64 j)⟩),(13,⟨0,.val (.int .i64 i)⟩),(9,⟨0,.val (.int .i64 n)⟩),(10,⟨1,.own (.sl true 27 (rowsO (pwSL m a (n-1) n)))⟩),(11,⟨1,.own (.sl true 27 (rowsO (pwSL m b (n-1) n)))⟩),(12,⟨1,.own (.sl true 27 (rowsO (tab2 n (fun u v=>sij n (pc ll) (pwC m a (n-1)) (pwC m b (n-1)) i j u v%m))))⟩),(0,⟨0,.val (.int .i64 m)⟩),(1,⟨0,.val (.sl false 27 (rowsF ll))⟩)]) (fun j=>i+j≤n) (fun j=>n-j) 0 (by omega) (fun i=>rfl) ?_ (fun j hj=>?_)
   ·simp [Sub,lk]
   ·have w1:=widK (i+j) (by omega)
    by_cases hjn:i+j<n
    ·have hj1:j<(ll.getD i []).length:=by omega
     have hx:=hl.num i j
     have e1:tab2 n (fun u v=>sij n (pc ll) (pwC m a (n-1)) (pwC m b (n-1)) i j u v%m)=tab2 n (fun u v=>sijL n (pc ll) (pwC m a (n-1)) (pwC m b (n-1)) m i j i j u v):=Aw fun u v _=>(Abp _ _ _ _ _ _ _ _ _).symm
     (repeat (first|((with_reducible refine rC rfl fun K hK=>?_);simp only [go_sem,seval,↓reduceIte,← Int.natCast_add,w1,show ((i+j:Nat):Int)<(n:Int) by omega];refine hK _ _ _ ?_;clear hK K)|refine sT ?_))
     refine AWP.loop (fun k:Nat=>[(15,⟨0,.val (.int .i64 k)⟩),(14,⟨0,.val (.int .i64 j)⟩),(13,⟨0,.val (.int .i64 i)⟩),(9,⟨0,.val (.int .i64 n)⟩),(10,⟨1,.own (.sl true 27 (rowsO (pwSL m a (n-1) n)))⟩),(11,⟨1,.own (.sl true 27 (rowsO (pwSL m b (n-1) n)))⟩),(12,⟨1,.own (.sl true 27 (rowsO (tab2 n (fun u v=>sijL n (pc ll) (pwC m a (n-1)) (pwC m b (n-1)) m i j k j u v))))⟩),(0,⟨0,.val (.int .i64 m)⟩),(1,⟨0,.val (.sl false 27 (rowsF ll))⟩)]) (fun k=>i≤k∧k≤n) (fun k=>n-k) i ⟨Nat.le_refl _,by omega⟩ (fun i=>rfl) ?_ (fun k hk=>?_)
     ·simp [Sub,lk,← e1]
     ·by_cases hgo:k<n∧pc ll i j≠0
      ·have hkl:k<(tab2 n (fun u v=>sijL n (pc ll) (pwC m a (n-1)) (pwC m b (n-1)) m i j k j u v)).length:=by rw [Am];omega
       (repeat (first|((with_reducible refine rC rfl fun K hK=>?_);simp only [go_sem,seval,↓reduceIte,show (k:Int)<(n:Int) by omega,Ak ll i (by rw [hl.len];exact hin),Ab,hl.len,Int.toNat_natCast,Int.natCast_nonneg,show (i:Int)<(n:Int) by omega,Ac _ j hj1,hrow,show ((j:Nat):Int)<((n-i:Nat):Int) by omega,show (ll.getD i []).getD j 0=pc ll i j from rfl,show (pc ll i j != 0)=true by rw [bne_iff_ne];exact hgo.2,Ap _ _ hkl,Aj _ _ (Nat.le_of_lt hkl),Af,Am,Nat.mul_one];refine hK _ _ _ ?_;clear hK K)|refine sT ?_))
       refine AWP.loop (fun l:Nat=>[(17,⟨0,.val (.int .i64 l)⟩),(16,⟨0,.val (.ref 12 1 [k])⟩),(15,⟨0,.val (.int .i64 k)⟩),(14,⟨0,.val (.int .i64 j)⟩),(13,⟨0,.val (.int .i64 i)⟩),(9,⟨0,.val (.int .i64 n)⟩),(10,⟨1,.own (.sl true 27 (rowsO (pwSL m a (n-1) n)))⟩),(11,⟨1,.own (.sl true 27 (rowsO (pwSL m b (n-1) n)))⟩),(12,⟨1,.own (.sl true 27 (rowsO (tab2 n (fun u v=>sijL n (pc ll) (pwC m a (n-1)) (pwC m b (n-1)) m i j k l u v))))⟩),(0,⟨0,.val (.int .i64 m)⟩),(1,⟨0,.val (.sl false 27 (rowsF ll))⟩)]) (fun l=>j≤l∧(l≤n-k∨l=j)) (fun l=>n-l) j ⟨Nat.le_refl _,.inr rfl⟩ (fun i=>rfl) ?_ (fun l hl2=>?_)
       ·simp [Sub,lk]
       ·have w2:=widK (k+l) (by omega)
        by_cases hln:k+l<n
        ·have hkl2:k<(tab2 n (fun u v=>sijL n (pc ll) (pwC m a (n-1)) (pwC m b (n-1)) m i j k l u v)).length:=by rw [Am];omega
         have hc:l<(tab (n-k) (sijL n (pc ll) (pwC m a (n-1)) (pwC m b (n-1)) m i j k l k)).length:=by rw [Ah];omega
         have g1:(tab (n-k) (sijL n (pc ll) (pwC m a (n-1)) (pwC m b (n-1)) m i j k l k)).getD l 0=sij n (pc ll) (pwC m a (n-1)) (pwC m b (n-1)) i j k l%m:=by rw [D0 (by omega),Ajs]
         have hp:=F9 hm a (n-1) i
         have hq:=F9 hm b (n-1) j
         have hii:i<(pwSL m a (n-1) n).length:=by rw [Ct];exact hin
         have hjj:j<(pwSL m b (n-1) n).length:=by rw [Ct];omega
         have f1:0≤pwC m a (n-1) i k∧pwC m a (n-1) i k<m:=An hp.2 (by omega) k
         have f2:0≤pwC m b (n-1) j l∧pwC m b (n-1) j l<m:=An hq.2 (by omega) l
         have b1:=Fc hx.1 hx.2 f1.1 f1.2 hm2
         have e3:=Aq (pc ll i j*pwC m a (n-1) i k) m (by omega)
         have b2:=Fc e3.1 e3.2 f2.1 f2.2 hm2
         have e4:=Aq (sij n (pc ll) (pwC m a (n-1)) (pwC m b (n-1)) i j k l) m (by omega)
         have g3:(sij n (pc ll) (pwC m a (n-1)) (pwC m b (n-1)) i j k l%m+pc ll i j*pwC m a (n-1) i k%m*pwC m b (n-1) j l)%m=sij n (pc ll) (pwC m a (n-1)) (pwC m b (n-1)) i (j+1) k l%m:=by
          rw [K0,Int.emod_add_emod,← Int.mul_assoc,Int.add_emod,H6,← Int.add_emod]
         have hst:(tab2 n (fun u v=>sijL n (pc ll) (pwC m a (n-1)) (pwC m b (n-1)) m i j k l u v)).set k ((tab (n-k) (sijL n (pc ll) (pwC m a (n-1)) (pwC m b (n-1)) m i j k l k)).set l (sij n (pc ll) (pwC m a (n-1)) (pwC m b (n-1)) i (j+1) k l%m))=tab2 n (fun u v=>sijL n (pc ll) (pwC m a (n-1)) (pwC m b (n-1)) m i j k (l+1) u v):=Fw (fun x y _=>Aik _ _ _ _ _ hk.1 hl2.1 x y)
         (repeat (first|((with_reducible refine rC rfl fun K hK=>?_);simp only [go_sem,seval,↓reduceIte,← Int.natCast_add,w2,show ((k+l:Nat):Int)<(n:Int) by omega,Ap _ _ hkl2,Aj _ _ (Nat.le_of_lt hkl2),Af,Am,B5 (show k<n by omega),Nat.mul_one,Ae _ _ hc,Aa _ _ (Nat.le_of_lt hc),Ah,g1,show (l:Int)<((n-k:Nat):Int) by omega,Ak ll i (by rw [hl.len];exact hin),Ab,hl.len,Int.toNat_natCast,Int.natCast_nonneg,show (i:Int)<(n:Int) by omega,show (j:Int)<(n:Int) by omega,Ac _ j hj1,hrow,show ((j:Nat):Int)<((n-i:Nat):Int) by omega,show (ll.getD i []).getD j 0=pc ll i j from rfl,Ap _ _ hii,Aj _ _ (Nat.le_of_lt hii),Ap _ _ hjj,Aj _ _ (Nat.le_of_lt hjj),Ct,F4 (show i<n by omega),F4 (show j<n by omega),Ae (pwS m a (n-1) i) k (by omega),Ae (pwS m b (n-1) j) l (by omega),Aa (pwS m a (n-1) i) k (by omega),Aa (pwS m b (n-1) j) l (by omega),hp.1,hq.1,show (k:Int)<((n-1+1:Nat):Int) by omega,show (l:Int)<((n-1+1:Nat):Int) by omega,show (pwS m a (n-1) i).getD k 0=pwC m a (n-1) i k from rfl,show (pwS m b (n-1) j).getD l 0=pwC m b (n-1) j l from rfl,wid (pc ll i j*pwC m a (n-1) i k) (by omega) (by omega),tm (pc ll i j*pwC m a (n-1) i k) m (by omega),wid (pc ll i j*pwC m a (n-1) i k%m*pwC m b (n-1) j l) (by omega) (by omega),wid (sij n (pc ll) (pwC m a (n-1)) (pwC m b (n-1)) i j k l%m+pc ll i j*pwC m a (n-1) i k%m*pwC m b (n-1) j l) (by omega) (by omega),tm (sij n (pc ll) (pwC m a (n-1)) (pwC m b (n-1)) i j k l%m+pc ll i j*pwC m a (n-1) i k%m*pwC m b (n-1) j l) m (by omega),g3,hm0,Ck _ _ _ _ hkl2,hst,wid ((l:Int)+1) (by omega) (by omega)];refine hK _ _ _ ?_;clear hK K)|refine sT ?_))
         exact ⟨l+1,⟨by omega,.inl (by omega)⟩,by omega,by simp [Sub,lk]⟩
        ·have hE:tab2 n (fun u v=>sijL n (pc ll) (pwC m a (n-1)) (pwC m b (n-1)) m i j k l u v)=tab2 n (fun u v=>sijL n (pc ll) (pwC m a (n-1)) (pwC m b (n-1)) m i j (k+1) j u v):=Aw fun u v huv=>Ah6 hk.1 (by omega) huv
         (repeat (first|((with_reducible refine rC rfl fun K hK=>?_);simp only [go_sem,seval,↓reduceIte,← Int.natCast_add,w2,show ¬ ((k+l:Nat):Int)<(n:Int) by omega,wid ((k:Int)+1) (by omega) (by omega)];refine hK _ _ _ ?_;clear hK K)|refine sT ?_))
         exact ⟨k+1,⟨by omega,by omega⟩,by omega,by simp only [hE];simp [Sub,lk]⟩
      ·have hE : tab2 n (fun u v => sijL n (pc ll) (pwC m a (n - 1)) (pwC m b (n - 1)) m i j k j u v) = tab2 n (fun u v => sij n (pc ll) (pwC m a (n - 1)) (pwC m b (n - 1)) i (j + 1) u v % m) := Aw fun u v huv => Ah7 (by
        by_cases h9:pc ll i j=0
        ·exact .inr h9
        ·exact .inl (Nat.le_of_not_lt fun h=>hgo ⟨h,h9⟩)) (hlo a ha0) (hlo b hb0) huv
       by_cases hkn:k<n
       ·have h9:pc ll i j=0:=Classical.byContradiction fun h=>hgo ⟨hkn,h⟩
        (repeat (first|((with_reducible refine rC rfl fun K hK=>?_);simp only [go_sem,seval,↓reduceIte,show (k:Int)<(n:Int) by omega,Ak ll i (by rw [hl.len];exact hin),Ab,hl.len,Int.toNat_natCast,Int.natCast_nonneg,show (i:Int)<(n:Int) by omega,Ac _ j hj1,hrow,show ((j:Nat):Int)<((n-i:Nat):Int) by omega,show (ll.getD i []).getD j 0=pc ll i j from rfl,h9,show ((0:Int) != 0)=false from rfl,wid ((j:Int)+1) (by omega) (by omega)];refine hK _ _ _ ?_;clear hK K)|refine sT ?_))
        exact ⟨j+1,by omega,by omega,by simp only [hE];simp [Sub,lk]⟩
       ·(repeat (first|((with_reducible refine rC rfl fun K hK=>?_);simp only [go_sem,seval,↓reduceIte,show ¬ (k:Int)<(n:Int) by omega,wid ((j:Int)+1) (by omega) (by omega)];refine hK _ _ _ ?_;clear hK K)|refine sT ?_))
        exact ⟨j+1,by omega,by omega,by simp only [hE];simp [Sub,lk]⟩
    ·have hE:tab2 n (fun u v=>sij n (pc ll) (pwC m a (n-1)) (pwC m b (n-1)) i j u v%m)=tab2 n (fun u v=>sij n (pc ll) (pwC m a (n-1)) (pwC m b (n-1)) (i+1) 0 u v%m):=Aw fun u v _=>by rw [show j=n-i by omega,Uj]
     (repeat (first|((with_reducible refine rC rfl fun K hK=>?_);simp only [go_sem,seval,↓reduceIte,← Int.natCast_add,w1,show ¬ ((i+j:Nat):Int)<(n:Int) by omega,wid ((i:Int)+1) (by omega) (by omega)];refine hK _ _ _ ?_;clear hK K)|refine sT ?_))
     exact ⟨i+1,by omega,by omega,by simp only [hE];simp [Sub,lk]⟩
  ·have hie:i=n:=by omega
   subst hie
   (repeat (first|((with_reducible refine rC rfl fun K hK=>?_);simp only [go_sem,seval,↓reduceIte,show ¬ (i:Int)<(i:Int) by omega];refine hK _ _ _ ?_;clear hK K)|refine sT ?_))
   refine rt1 ?_
   rfl
theorem Jc (m:Int) (ll:List (List Int)) (a:List Int) (n:Nat) (hm:1<m) (hm2:m≤10000) (hl:Pl m n ll) (ha:∀ x∈a,0≤x∧x<m) (hal:a.length=n) (ha0:at' a 0=0) (hn:1≤n) (hn2:n≤1000):AFn Tryz.prog 258 [.int .i64 m,.sl false 27 (rowsF ll),.sl false 2 (intL a)] (.sl true 27 (rowsO (bthT m n (pc ll) (pwC m a (n-1)) (pwC m a (n-1))))):=by
 refine fO Tryz.func258 Tryz.ntmps258 (by rw [Tryz.results258]) fun C hP hM hC=>?_
 (repeat (first|((with_reducible refine rC rfl fun K hK=>?_);simp only [go_sem,seval,↓reduceIte];(first|refine hK _ _ _ ?_|refine ⟨_,Rz m ll a a n hm hm2 hl ha hal ha hal ha0 ha0 hn hn2,hK _ _ _ ?_⟩);clear hK K)|refine sT ?_))
 refine rt1 ?_
 rfl
theorem G4 (m:Int) (lf lg:List (List Int)) (a:List Int) (n:Nat) (hm:1<m) (hm2:m≤10000) (hf:Pl m n lf) (hg:Pl m n lg) (ha:∀ x∈a,0≤x∧x<m) (hal:a.length=n) (ha0:at' a 0=0) (hn:1≤n) (hn2:n≤1000):AFn Tryz.prog 233 [.int .i64 m,.sl false 27 (rowsF lf),.sl false 27 (rowsF lg),.sl false 2 (intL a)] (.bool (hmB m n (pc lf) (pc lg) a)):=by
 refine fO Tryz.func233 Tryz.ntmps233 (by rw [Tryz.results233]) fun C hP hM hC=>?_
 have h1:=C9 m a lf n (by omega) hm2 hf ha (by omega) hn hn2
 have h2:=Jc m lg a n hm hm2 hg ha hal ha0 hn hn2
 rw [In] at h1
 rw [bthT] at h2
 have h3:=Qo n (pc (aftL m n (pc lf) a a.length)) (fun u v=>sij n (pc lg) (pwC m a (n-1)) (pwC m a (n-1)) n 0 u v%m) hn2
 have hb:hmB m n (pc lf) (pc lg) a=decide (tab2 n (pc (aftL m n (pc lf) a a.length))=tab2 n (fun u v=>sij n (pc lg) (pwC m a (n-1)) (pwC m a (n-1)) n 0 u v%m)):=by
  unfold hmB
  rw [← In]
  rfl
 (repeat (first|((with_reducible refine rC rfl fun K hK=>?_);simp only [go_sem,seval,↓reduceIte];(first|refine hK _ _ _ ?_|refine ⟨_,h1,hK _ _ _ ?_⟩|refine ⟨_,h2,hK _ _ _ ?_⟩|refine ⟨_,h3,hK _ _ _ ?_⟩);clear hK K)|refine sT ?_))
 refine rt1 ?_
 rw [hb]
theorem Ej (m:Int) (lf lg:List (List Int)) (a:List Int) (n:Nat) (hm:1<m) (hm2:m≤10000) (hf:Pl m n lf) (hg:Pl m n lg) (ha:∀ x∈a,0≤x∧x<m) (hal:a.length=n) (hn:1≤n) (hn2:n≤1000):AFn Tryz.prog 149 [.agg [.int .i64 m,.sl false 27 (rowsF lf)],.agg [.int .i64 m,.sl false 27 (rowsF lg)],.agg [.int .i64 m,.sl false 2 (intL a)]] (.bool (hmB m n (pc lf) (pc lg) a)):=by
 refine fO Tryz.func149 Tryz.ntmps149 (by rw [Tryz.results149]) fun C hP hM hC=>?_
 have h1:=Ij m a lf n (by omega) hm2 hf ha (by omega) hn hn2
 have h2:=H1 m lg a a n hm hm2 hg ha hal ha hal hn hn2
 rw [In] at h1
 rw [bthT] at h2
 have h3:=Nr m n (pc (aftL m n (pc lf) a a.length)) (fun u v=>sij n (pc lg) (pwC m a (n-1)) (pwC m a (n-1)) n 0 u v%m) hn2
 have hb:hmB m n (pc lf) (pc lg) a=decide (tab2 n (pc (aftL m n (pc lf) a a.length))=tab2 n (fun u v=>sij n (pc lg) (pwC m a (n-1)) (pwC m a (n-1)) n 0 u v%m)):=by
  unfold hmB
  rw [← In]
  rfl
 (repeat (first|((with_reducible refine rC rfl fun K hK=>?_);simp only [go_sem,seval,↓reduceIte];(first|refine hK _ _ _ ?_|refine ⟨_,h1,hK _ _ _ ?_⟩|refine ⟨_,h2,hK _ _ _ ?_⟩|refine ⟨_,h3,hK _ _ _ ?_⟩);clear hK K)|refine sT ?_))
 refine rt1 ?_
 rw [hb]
def unB (m a:Int):Bool:=Nat.gcd a.toNat m.toNat==1
theorem Ln (m a:Nat) (hm:m≤10000) (ha:a≤10000):AFn Tryz.prog 151 [.int .i64 m,.int .i64 a] (.bool (unB m a)):=by
 refine fO Tryz.func151 Tryz.ntmps151 (by rw [Tryz.results151]) fun C hP hM hC=>?_
 have h1:=Aar a m (by omega) (by omega)
 obtain ⟨g,hg⟩:∃ g,Nat.gcd a m=g:=⟨_,rfl⟩
 rw [hg] at h1
 have hu:unB m a=(g==1):=by rw [unB,Int.toNat_natCast,Int.toNat_natCast,hg]
 by_cases e:g=1
 ·(repeat (first|((with_reducible refine rC rfl fun K hK=>?_);simp only [go_sem,seval,↓reduceIte,show ((g:Int)==1)=true by rw [beq_iff_eq];omega];(first|refine hK _ _ _ ?_|refine ⟨_,h1,hK _ _ _ ?_⟩);clear hK K)|refine sT ?_))
  refine rt1 ?_
  rw [hu,beq_iff_eq.2 e]
 ·(repeat (first|((with_reducible refine rC rfl fun K hK=>?_);simp only [go_sem,seval,↓reduceIte,show ((g:Int)==1)=false by rw [beq_eq_false_iff_ne];omega];(first|refine hK _ _ _ ?_|refine ⟨_,h1,hK _ _ _ ?_⟩);clear hK K)|refine sT ?_))
  refine rt1 ?_
  rw [hu,beq_eq_false_iff_ne.2 e]
theorem Ht (M:Nat) (x:List Int) (hm2:M≤10000) (hx:∀ z∈x,0≤z∧z<(M:Int)) (hxl:1≤x.length) (hl:x.length≤1000):AFn Tryz.prog 139 [.agg [.int .i64 (M:Int),.sl false 2 (intL (0::x))]] (.bool (unB M (at' x 0))):=by
 refine fO Tryz.func139 Tryz.ntmps139 (by rw [Tryz.results139]) fun C hP hM hC=>?_
 have hb:0≤at' x 0∧at' x 0<M:=by
  have h:=hx x[0] (List.getElem_mem _)
  rw [show at' x 0=x[0] by simp [at',List.getD_eq_getElem?_getD,show 0<x.length by omega]]
  exact h
 obtain ⟨y,hy⟩:=Int.eq_ofNat_of_zero_le hb.1
 have hU:=Ln M y hm2 (by omega)
 have g1:(0::x).getD 1 0=(y:Int):=by rw [← hy];rfl
 rw [hy]
 (repeat (first|((with_reducible refine rC rfl fun K hK=>?_);simp only [go_sem,seval,↓reduceIte,Int.le_refl,Int.toNat_zero,List.length_cons,show (0:Int)<((x.length+1:Nat):Int) by omega,show (1:Int)<((x.length+1:Nat):Int) by omega,Ac (0::x) 0 (by simp),show (0::x).getD 0 0=0 from rfl,show ((0:Int)==0)=true from rfl,Ac (0::x) 1 (by simp;omega),g1,show (1:Int).toNat=1 from rfl,show (0:Int)≤1 by omega];(first|refine hK _ _ _ ?_|refine ⟨_,hU,hK _ _ _ ?_⟩);clear hK K)|refine sT ?_))
 refine rt1 ?_
 rfl
end Go.Proofs.YtapdekacpecgiaaGreat
