import Derived.Test.YtapdekacpecgiaaGreatKa
import Derived.Test.YtapdekacpecgiaaGreatQa
import Derived.Test.YtapdekacpecgiaaGreatCu
import Derived.Test.YtapdekacpecgiaaGreatRn
namespace Go.Proofs.YtapdekacpecgiaaGreat
open Go.RowKit
set_option linter.unusedSimpArgs false
set_option linter.unusedVariables false
set_option linter.unusedSectionVars false
set_option maxRecDepth 20000
set_option maxHeartbeats 1000000
def upt (F G:Nat→Nat→Int) (i j u v:Nat):Int:=if u<i∨(u=i∧v<j) then F u v else G u v
theorem Afp (F G:Nat→Nat→Int) (u v:Nat):upt F G 0 0 u v=G u v:=if_neg (by omega)
theorem Ai4 (F G:Nat→Nat→Int) (i j u v:Nat):(if u=i∧v=j then F i j else upt F G i j u v)=upt F G i (j+1) u v:=by
 unfold upt
 by_cases h:u=i∧v=j
 ·rw [if_pos h,if_pos (by omega),h.1,h.2]
 ·rw [if_neg h]
  by_cases h2:u<i∨(u=i∧v<j)
  ·rw [if_pos h2,if_pos (by omega)]
  ·rw [if_neg h2,if_neg (by omega)]
theorem Aj3 {F G:Nat→Nat→Int} {n i j u v:Nat} (h:n≤i+j) (huv:u+v<n):upt F G i j u v=upt F G (i+1) 0 u v:=by
 unfold upt
 by_cases h2:u<i∨(u=i∧v<j)
 ·rw [if_pos h2,if_pos (by omega)]
 ·rw [if_neg h2,if_neg (by omega)]
theorem Aja {F G:Nat→Nat→Int} {n u v:Nat} (huv:u+v<n):upt F G n 0 u v=F u v:=if_pos (by omega)
theorem Jk (m:Int) (la lb:List (List Int)) (n i j:Nat) (hm2:m≤1099511627776) (ha:Pl m n la) (hb:Pl m n lb) (hij:i+j<n):AFn Tryz.prog 211 [.int .i64 i,.int .i64 j,.fptr (.agg [.int .i64 m,.sl false 27 (rowsF la)]),.fptr (.agg [.int .i64 m,.sl false 27 (rowsF lb)])] (.int .i64 (pc la i j+pc lb i j)):=by
 refine fO Tryz.func211 Tryz.ntmps211 (by rw [Tryz.results211]) fun C hP hM hC=>?_
 have h1:=ha.num i j
 have h2:=hb.num i j
 have r1:=ha.row i (by omega)
 have r2:=hb.row i (by omega)
 have k1:j<(la.getD i []).length:=by omega
 have k2:j<(lb.getD i []).length:=by omega
 (repeat (first|((with_reducible refine rC rfl fun K hK=>?_);simp only [go_sem,seval,↓reduceIte,Ad la i (by rw [ha.len];omega),Ad lb i (by rw [hb.len];omega),Aa,ha.len,hb.len,Int.toNat_natCast,Int.natCast_nonneg,show (i:Int)<(n:Int) by omega,Ac _ j k1,Ac _ j k2,r1,r2,show ((j:Nat):Int)<((n-i:Nat):Int) by omega,show (la.getD i []).getD j 0=pc la i j from rfl,show (lb.getD i []).getD j 0=pc lb i j from rfl,wid (pc la i j+pc lb i j) (by omega) (by omega)];refine hK _ _ _ ?_;clear hK K)|refine sT ?_))
 refine rt1 ?_
 rfl
set_option maxHeartbeats 4000000 in
theorem D6 (m:Int) (la:List (List Int)) (n:Nat) (f:Nat→Nat→Int) (g:FuncId) (ys:List T) (hgl:g<1000000) (hg:md g=[]) (hy:T.pureL ys=true) (hv:∀ c:List T→Rd,resolveL ys c=c ys) (hm:0<m) (hm2:m≤1099511627776) (ha:la.length=n) (hn:1≤n) (hn2:n≤1000) (hf:∀ i j,i+j<n→AFn Tryz.prog g ((.int .i64 i)::(.int .i64 j)::ys) (.int .i64 (f i j))):AFn Tryz.prog 201 [.agg [.int .i64 m,.sl false 27 (rowsF la)],.fn g ys] (.agg [.int .i64 m,.sl true 27 (rowsO (tab2 n (fun u v=>f u v%m)))]):=by
 have hg':=hg
 unfold md at hg'
 have hZ:T.freezeL ys=ys:=B5 ys hy
 have hR:T.refFreeL ys=true:=Bo ys hy
 have hN:T.noOwnL ys=true:=B9 ys hy
 refine AFn.of' ttOk (by decide) Tryz.func201 Tryz.ntmps201 (by rw [Tryz.results201]) (by rfl) (by rfl) (by simp) (by decide) (by simp only [go_sem,Nat.reduceAdd,↓reduceIte,hN];rfl) mixed (fun C hP hM hC=>?_)
 have hQ:∀ S,T.refsInL S ys=true:=fun S=>D3 S ys hy
 have hZ0:=Cf m (n-1) (by omega)
 rw [show n-1+1=n by omega] at hZ0
 have e0:tab2 n (fun _ _=>0)=tab2 n (upt (fun u v=>f u v%m) (fun _ _=>0) 0 0):=A5 fun u v _=>by rw [Afp]
 rw [e0] at hZ0
 have hD:=A3 m la (by rw [ha];omega)
 rw [ha,show (n:Int)-1=((n-1:Nat):Int) by omega] at hD
 (repeat (first|((with_reducible refine rC rfl fun K hK=>?_);simp only [go_sem,seval,↓reduceIte,At,Aq,hR,hN];(first|refine hK _ _ _ ?_|refine ⟨_,hD,hK _ _ _ ?_⟩|refine ⟨_,hZ0,hK _ _ _ ?_⟩);clear hK K)|refine sT ?_))
 refine AWP.loop (fun i:Nat=>[(17,⟨0,.val (.int .i64 i)⟩),(16,⟨0,.val (.int .i64 n)⟩),(15,⟨0,.val (.ref 5 2 [0,1])⟩),(5,⟨2,.own (.box 26 (.agg [.int .i64 m,.sl true 27 (rowsO (tab2 n (upt (fun u v=>f u v%m) (fun _ _=>0) i 0)))]))⟩),(1,⟨0,.val (.fn g ys)⟩),(2,⟨1,.own (.box 26 (.agg [.int .i64 m,.sl false 27 (rowsF la)]))⟩),(4,⟨1,.own (.box 26 (.agg [.int .i64 0,.nil]))⟩)]) (fun i=>i≤n) (fun i=>n-i) 0 (Nat.zero_le _) (fun i=>by simp [refsOk,SV.refsIn,T.refsIn,hQ];rfl) ?_ (fun i hi=>?_)
 ·simp [Sub,lk]
 ·by_cases hin:i<n
  ·have hi1:i<(tab2 n (upt (fun u v=>f u v%m) (fun _ _=>0) i 0)).length:=by rw [Aq];exact hin
   (repeat (first|((with_reducible refine rC rfl fun K hK=>?_);simp only [go_sem,seval,↓reduceIte,show (i:Int)<(n:Int) by omega,A2 _ _ hi1,Aw _ _ (Nat.le_of_lt hi1),At,Aq,B3 hin,Ae,Nat.mul_one,Int.toNat_natCast,Int.natCast_nonneg];refine hK _ _ _ ?_;clear hK K)|refine sT ?_))
   refine AWP.loop (fun j:Nat=>[(24,⟨0,.val (.int .i64 j)⟩),(23,⟨0,.val (.int .i64 (n-i:Nat))⟩),(7,⟨0,.val (.ref 5 2 [0,1,i])⟩),(6,⟨0,.val (.int .i64 i)⟩),(17,⟨0,.val (.int .i64 i)⟩),(16,⟨0,.val (.int .i64 n)⟩),(15,⟨0,.val (.ref 5 2 [0,1])⟩),(5,⟨2,.own (.box 26 (.agg [.int .i64 m,.sl true 27 (rowsO (tab2 n (upt (fun u v=>f u v%m) (fun _ _=>0) i j)))]))⟩),(1,⟨0,.val (.fn g ys)⟩),(2,⟨1,.own (.box 26 (.agg [.int .i64 m,.sl false 27 (rowsF la)]))⟩),(4,⟨1,.own (.box 26 (.agg [.int .i64 0,.nil]))⟩)]) (fun j=>i+j≤n) (fun j=>n-j) 0 (by omega) (fun i=>by simp [refsOk,SV.refsIn,T.refsIn,hQ];rfl) ?_ (fun j hj=>?_)
   ·simp [Sub,lk]
   ·by_cases hjn:i+j<n
    ·have hi2:i<(tab2 n (upt (fun u v=>f u v%m) (fun _ _=>0) i j)).length:=by rw [Aq];exact hin
     have hc:j<(tab (n-i) (upt (fun u v=>f u v%m) (fun _ _=>0) i j i)).length:=by rw [Ae];omega
     have hP1:=hf i j hjn
     have hMd:=Cr (f i j) m hm (by omega)
     have hst:(tab2 n (upt (fun u v=>f u v%m) (fun _ _=>0) i j)).set i ((tab (n-i) (upt (fun u v=>f u v%m) (fun _ _=>0) i j i)).set j (f i j%m))=tab2 n (upt (fun u v=>f u v%m) (fun _ _=>0) i (j+1)):=Fl (fun a b _=>Ai4 _ _ i j a b)
     (repeat (first|((with_reducible refine rC rfl fun K hK=>?_);simp only [go_sem,seval,↓reduceIte,show (j:Int)<((n-i:Nat):Int) by omega,A2 _ _ hi2,Aw _ _ (Nat.le_of_lt hi2),At,Aq,B3 hin,Nat.mul_one,Ao _ _ hc,Ai _ _ (Nat.le_of_lt hc),Ae,Int.toNat_natCast,Int.natCast_nonneg,C9 _ _ _ _ hi2,hst,hR,hN,hZ,hv,hg',hgl,wid ((j:Int)+1) (by omega) (by omega)];(first|refine hK _ _ _ ?_|refine ⟨_,hP1,hK _ _ _ ?_⟩|refine ⟨_,hMd,hK _ _ _ ?_⟩);clear hK K)|refine sT ?_))
     exact ⟨j+1,by omega,by omega,by simp [Sub,lk]⟩
    ·have hE:tab2 n (upt (fun u v=>f u v%m) (fun _ _=>0) i j)=tab2 n (upt (fun u v=>f u v%m) (fun _ _=>0) (i+1) 0):=A5 fun u v huv=>Aj3 (by omega) huv
     (repeat (first|((with_reducible refine rC rfl fun K hK=>?_);simp only [go_sem,seval,↓reduceIte,show ¬ (j:Int)<((n-i:Nat):Int) by omega,wid ((i:Int)+1) (by omega) (by omega)];refine hK _ _ _ ?_;clear hK K)|refine sT ?_))
     exact ⟨i+1,by omega,by omega,by simp only [hE];simp [Sub,lk]⟩
  ·have hie:i=n:=by omega
   subst hie
   (repeat (first|((with_reducible refine rC rfl fun K hK=>?_);simp only [go_sem,seval,↓reduceIte,show ¬ (i:Int)<(i:Int) by omega];refine hK _ _ _ ?_;clear hK K)|refine sT ?_))
   refine rt1 ?_
   rw [show tab2 i (upt (fun u v=>f u v%m) (fun _ _=>0) i 0)=tab2 i (fun u v=>f u v%m) from A5 fun u v huv=>Aja huv]
theorem Eo (m:Int) (la lb:List (List Int)) (n:Nat) (hm:0<m) (hm2:m≤1099511627776) (ha:Pl m n la) (hb:Pl m n lb) (hn:1≤n) (hn2:n≤1000):AFn Tryz.prog 124 [.agg [.int .i64 m,.sl false 27 (rowsF la)],.agg [.int .i64 m,.sl false 27 (rowsF lb)]] (.agg [.int .i64 m,.sl true 27 (rowsO (tab2 n (fun u v=>(pc la u v+pc lb u v)%m)))]):=by
 refine fO Tryz.func124 Tryz.ntmps124 (by rw [Tryz.results124]) fun C hP hM hC=>?_
 have cMp:AFn Tryz.prog 201 [.agg [.int .i64 m,.sl false 27 (rowsF la)],.fn 211 [.fptr (.agg [.int .i64 m,.sl false 27 (rowsF la)]),.fptr (.agg [.int .i64 m,.sl false 27 (rowsF lb)])]] (.agg [.int .i64 m,.sl true 27 (rowsO (tab2 n (fun u v=>(pc la u v+pc lb u v)%m)))]):=D6 m la n (fun i j=>pc la i j+pc lb i j) 211 [.fptr (.agg [.int .i64 m,.sl false 27 (rowsF la)]),.fptr (.agg [.int .i64 m,.sl false 27 (rowsF lb)])] (by decide) (by rfl) (by simp [T.pureL,T.pure,Ca]) (fun _=>rfl) hm hm2 ha.len hn hn2 (fun i j hij=>Jk m la lb n i j hm2 ha hb hij)
 (repeat (first|((with_reducible refine rC rfl fun K hK=>?_);simp only [go_sem,seval,↓reduceIte];(first|refine hK _ _ _ ?_|refine ⟨_,cMp,hK _ _ _ ?_⟩);clear hK K)|refine sT ?_))
 refine rt1 ?_
 rfl
theorem Nd (m:Int) (la lb:List (List Int)) (n:Nat) (hm:0<m) (hm2:m≤10000) (ha:Pl m n la) (hb:Pl m n lb) (hn:1≤n) (hn2:n≤1000):AFn Tryz.prog 124 [.agg [.int .i64 m,.sl false 27 (rowsF la)],.agg [.int .i64 m,.sl false 27 (rowsF lb)]] (.agg [.int .i64 m,.sl true 27 (rowsO (tab2 n (fun u v=>(pc la u v+pc lb u v)%m)))]):=Eo m la lb n hm (by omega) ha hb hn hn2
set_option maxHeartbeats 1000000 in
theorem Gx (m:Int) (c:List Int) (ll:List (List Int)) (n:Nat) (hm:0<m) (hm2:m≤1099511627776) (hl:Pl m n ll) (hc:∀ x∈c,0≤x∧x<m) (hcl:c.length≤1000) (hn:1≤n) (hn2:n≤1000):AFn Tryz.prog 91 [.agg [.int .i64 m,.sl false 2 (intL c)],.agg [.int .i64 m,.sl false 27 (rowsF ll)]] (.agg [.int .i64 m,.sl true 27 (rowsO (aftL m n (pc ll) c c.length))]):=by
 refine fO Tryz.func91 Tryz.ntmps91 (by rw [Tryz.results91]) fun C hP hM hC=>?_
 have h0:=D7 m 0 ll n hm hm2 hl.len hn hn2
 have e0:numP m 0 n=aftL m n (pc ll) c 0:=A5 fun u v _=>by simp
 rw [e0] at h0
 (repeat (first|((with_reducible refine rC rfl fun K hK=>?_);simp only [go_sem,seval,↓reduceIte];(first|refine hK _ _ _ ?_|refine ⟨_,h0,hK _ _ _ ?_⟩|refine ⟨_,Bb m c (by omega),hK _ _ _ ?_⟩);clear hK K)|refine sT ?_))
 refine AWP.loop (fun w:Nat×Nat=>[(6,⟨0,.val (.int .i64 ((c.length:Int)-1-(w.1:Int)))⟩),(5,⟨w.2,.own (.box 26 (.agg [.int .i64 m,.sl true 27 (rowsO (aftL m n (pc ll) c w.1))]))⟩),(2,⟨1,.own (.box 29 (.agg [.int .i64 m,.sl false 2 (intL c)]))⟩),(3,⟨1,.own (.box 26 (.agg [.int .i64 m,.sl false 27 (rowsF ll)]))⟩),(4,⟨1,.own (.box 26 (.agg [.int .i64 0,.nil]))⟩)]) (fun w=>w.1≤c.length) (fun w=>c.length-w.1) (0,2) (Nat.zero_le _) (fun i=>rfl) ?_ (fun w hw=>?_)
 ·simp [Sub,lk]
 ·obtain ⟨k,v⟩:=w
  simp only at hw ⊢
  by_cases hk:k<c.length
  ·have hT:=F2 m (aftL m n (pc ll) c k) ll n hm hm2 (Gj hm n _ c k) hl hn hn2
   have hx:=A4 hc hm (c.length-1-k)
   have hN:=D7 m (at' c (c.length-1-k)) ll n hm hm2 hl.len hn hn2
   have hPs:=Eo m (pmul m n (pc (aftL m n (pc ll) c k)) (pc ll)) (numP m (at' c (c.length-1-k)) n) n hm hm2 (Qy hm n _ _) (Y9 hm _ n) hn hn2
   have hE:tab2 n (fun u v=>(pc (pmul m n (pc (aftL m n (pc ll) c k)) (pc ll)) u v+pc (numP m (at' c (c.length-1-k)) n) u v)%m)=aftL m n (pc ll) c (k+1):=by
    rw [aftL]
    refine A5 fun u v huv=>?_
    rw [pmul,numP,Bc huv,Bc huv]
    by_cases h:u=0∧v=0
    ·rw [if_pos h,if_pos h,h.1,h.2,Int.emod_eq_of_lt hx.1 hx.2]
    ·rw [if_neg h,if_neg h,Int.add_zero,Int.emod_emod]
   rw [hE] at hPs
   have hlt:c.length-1-k<c.length:=by omega
   (repeat (first|((with_reducible refine rC rfl fun K hK=>?_);simp only [go_sem,seval,↓reduceIte,show (0:Int)≤(c.length:Int)-1-(k:Int) by omega,show ((c.length:Int)-1-(k:Int)).toNat=c.length-1-k by omega,show (c.length:Int)-1-(k:Int)<(c.length:Int) by omega,Ac c _ hlt,show c.getD (c.length-1-k) 0=at' c (c.length-1-k) from rfl,wid ((c.length:Int)-1-(k:Int)-1) (by omega) (by omega)];(first|refine hK _ _ _ ?_|refine ⟨_,hT,hK _ _ _ ?_⟩|refine ⟨_,hN,hK _ _ _ ?_⟩|refine ⟨_,hPs,hK _ _ _ ?_⟩);clear hK K)|refine sT ?_))
   exact ⟨(k+1,v+1),by simp only;omega,by simp only;omega,by simp [Sub,lk];omega⟩
  ·(repeat (first|((with_reducible refine rC rfl fun K hK=>?_);simp only [go_sem,seval,↓reduceIte,show ¬ (0:Int)≤(c.length:Int)-1-(k:Int) by omega];refine hK _ _ _ ?_;clear hK K)|refine sT ?_))
   refine rt1 ?_
   rw [show k=c.length by omega]
theorem Ol (m:Int) (c:List Int) (ll:List (List Int)) (n:Nat) (hm:0<m) (hm2:m≤10000) (hl:Pl m n ll) (hc:∀ x∈c,0≤x∧x<m) (hcl:c.length≤1000) (hn:1≤n) (hn2:n≤1000):AFn Tryz.prog 91 [.agg [.int .i64 m,.sl false 2 (intL c)],.agg [.int .i64 m,.sl false 27 (rowsF ll)]] (.agg [.int .i64 m,.sl true 27 (rowsO (aftL m n (pc ll) c c.length))]):=Gx m c ll n hm (by omega) hl hc hcl hn hn2
theorem Lj (la lb:List Int) (h:la.length=lb.length) (hl:la.length≤1000000000):AFn Tryz.prog 248 [.sl false 2 (intL la),.sl false 2 (intL lb)] (.bool (eqB la lb)):=by
 refine fO Tryz.func248 Tryz.ntmps248 (by rw [Tryz.results248]) fun C hP hM hC=>?_
 (repeat (first|((with_reducible refine rC rfl fun K hK=>?_);simp only [go_sem,seval,↓reduceIte];(first|refine hK _ _ _ ?_|refine ⟨_,Hd la lb h hl,hK _ _ _ ?_⟩);clear hK K)|refine sT ?_))
 refine rt1 ?_
 rfl
theorem Akk {n:Nat} {f g:Nat→Nat→Int} {i:Nat} (hi:i<n) (h:tab (n-i) (f i)≠tab (n-i) (g i)):tab2 n f≠tab2 n g:=fun e=>h (by rw [← B3 (f:=f) hi,← B3 (f:=g) hi,e])
theorem Aj0 {n:Nat} {f g:Nat→Nat→Int} (h:∀ i,i<n→tab (n-i) (f i)=tab (n-i) (g i)):tab2 n f=tab2 n g:=
 List.map_congr_left fun i hi=>h i (List.mem_range.1 hi)
theorem D9 (n:Nat) (f g:Nat→Nat→Int) (hn:n≤1000):AFn Tryz.prog 247 [.sl false 27 (rowsF (tab2 n f)),.sl false 27 (rowsF (tab2 n g)),.fn 248 []] (.bool (decide (tab2 n f=tab2 n g))):=by
 refine fO Tryz.func247 Tryz.ntmps247 (by rw [Tryz.results247]) fun C hP hM hC=>?_
 (repeat (first|((with_reducible refine rC rfl fun K hK=>?_);simp only [go_sem,seval,↓reduceIte,Aa,Aq,show ((n:Int) != (n:Int))=false by simp];refine hK _ _ _ ?_;clear hK K)|refine sT ?_))
 refine AWP.loop (fun i:Nat=>[(17,⟨0,.val (.int .i64 i)⟩),(16,⟨0,.val (.int .i64 n)⟩),(15,⟨0,.val (.sl false 27 (rowsF (tab2 n f)))⟩),(0,⟨0,.val (.sl false 27 (rowsF (tab2 n f)))⟩),(1,⟨0,.val (.sl false 27 (rowsF (tab2 n g)))⟩),(2,⟨0,.val (.fn 248 [])⟩)]) (fun i=>i≤n∧∀ j,j<i→tab (n-j) (f j)=tab (n-j) (g j)) (fun i=>n-i) 0 ⟨Nat.zero_le _,fun j hj=>by omega⟩ (fun i=>rfl) ?_ (fun i hi=>?_)
 ·simp [Sub,lk]
 ·by_cases hin:i<n
  ·have hS:=Lj (tab (n-i) (f i)) (tab (n-i) (g i)) (by rw [Ae,Ae]) (by rw [Ae];omega)
   by_cases he:tab (n-i) (f i)=tab (n-i) (g i)
   ·rw [eqB,decide_eq_true he] at hS
    (repeat (first|((with_reducible refine rC rfl fun K hK=>?_);simp only [go_sem,seval,↓reduceIte,show (i:Int)<(n:Int) by omega,Ad (tab2 n f) i (by rw [Aq];exact hin),Ad (tab2 n g) i (by rw [Aq];exact hin),B3 hin,Aa,Aq,Int.toNat_natCast,Int.natCast_nonneg,wid ((i:Int)+1) (by omega) (by omega)];(first|refine hK _ _ _ ?_|refine ⟨_,hS,hK _ _ _ ?_⟩);clear hK K)|refine sT ?_))
    refine ⟨i+1,⟨hin,fun j hj=>?_⟩,by omega,by simp [Sub,lk]⟩
    by_cases e:j=i
    ·rw [e];exact he
    ·exact hi.2 j (by omega)
   ·rw [eqB,decide_eq_false he] at hS
    (repeat (first|((with_reducible refine rC rfl fun K hK=>?_);simp only [go_sem,seval,↓reduceIte,show (i:Int)<(n:Int) by omega,Ad (tab2 n f) i (by rw [Aq];exact hin),Ad (tab2 n g) i (by rw [Aq];exact hin),B3 hin,Aa,Aq,Int.toNat_natCast,Int.natCast_nonneg];(first|refine hK _ _ _ ?_|refine ⟨_,hS,hK _ _ _ ?_⟩);clear hK K)|refine sT ?_))
    refine rt1 ?_
    rw [decide_eq_false (Akk hin he)]
  ·(repeat (first|((with_reducible refine rC rfl fun K hK=>?_);simp only [go_sem,seval,↓reduceIte,show ¬ (i:Int)<(n:Int) by omega];refine hK _ _ _ ?_;clear hK K)|refine sT ?_))
   refine rt1 ?_
   rw [decide_eq_true (Aj0 fun j hj=>hi.2 j (by omega))]
theorem Nf (m:Int) (n:Nat) (f g:Nat→Nat→Int) (hn:n≤1000):AFn Tryz.prog 209 [.agg [.int .i64 m,.sl false 27 (rowsF (tab2 n f))],.agg [.int .i64 m,.sl false 27 (rowsF (tab2 n g))]] (.bool (decide (tab2 n f=tab2 n g))):=by
 refine fO Tryz.func209 Tryz.ntmps209 (by rw [Tryz.results209]) fun C hP hM hC=>?_
 (repeat (first|((with_reducible refine rC rfl fun K hK=>?_);simp only [go_sem,seval,↓reduceIte,show (m==m)=true by simp];(first|refine hK _ _ _ ?_|refine ⟨_,D9 n f g hn,hK _ _ _ ?_⟩);clear hK K)|refine sT ?_))
 refine rt1 ?_
 rfl
def unB (m a:Int):Bool:=Nat.gcd a.toNat m.toNat==1
end Go.Proofs.YtapdekacpecgiaaGreat
