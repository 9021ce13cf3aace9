import Derived.Test.YtapdekacpecgiaaGreatZi
import Derived.Test.YtapdekacpecgiaaGreatZf
import Derived.Test.YtapdekacpecgiaaGreatBk
namespace Go.Proofs.YtapdekacpecgiaaGreat
open Go.RowKit
set_option linter.unusedSimpArgs false
set_option linter.unusedVariables false
set_option linter.unusedSectionVars false
set_option maxRecDepth 20000
set_option maxHeartbeats 1000000
set_option maxHeartbeats 2000000 in
theorem H2 (m:Int) (t:List (List Int)) (a:List Int) (D:Nat) (hm:1<m) (hm2:m≤10000) (ht:Pl m (D+1) t) (ha:∀ x∈a,0≤x∧x<m) (hal:a.length=D+1) (ha0:at' a 0=0) (h1:1≤D) (hD:D≤900):AFn Tryz.prog 169 [.agg [.int .i64 m,.sl false 27 (rowsF t)],.agg [.int .i64 m,.sl false 2 (intL a)]] (.agg [.int .i64 m,.sl true 27 (rowsO (inC m (pc t) a D))]):=by
 refine fO Tryz.func169 Tryz.ntmps169 (by rw [Tryz.results169]) fun C hP hM hC=>?_
 have z:(0:Int)<m:=by omega
 have hu:=Df m (at' a 1) z
 have f:=El z hu a D (D-1)
 have hR:=J1 m a D hm hm2 ha hal h1 (by omega)
 have hB2:=H1 m t (rvL m a D) (rvL m a D) (D+1) hm hm2 ht f.2 f.1 f.2 f.1 (by omega) (by omega)
 have hp:=Rl z (D+1) (pc t) (pwC m (rvL m a D) D) (pwC m (rvL m a D) D)
 have hA:=Ij m a (bthT m (D+1) (pc t) (pwC m (rvL m a D) D) (pwC m (rvL m a D) D)) (D+1) z hm2 hp ha (by omega) (by omega) (by omega)
 rw [Nat.add_sub_cancel] at hB2
 rw [hal] at hA
 (repeat (first|((with_reducible refine rC rfl fun K hK=>?_);simp only [go_sem,seval,↓reduceIte];(first|refine hK _ _ _ ?_|refine ⟨_,hR,hK _ _ _ ?_⟩|refine ⟨_,hB2,hK _ _ _ ?_⟩|refine ⟨_,hA,hK _ _ _ ?_⟩);clear hK K)|refine sT ?_))
 refine rt1 ?_
 rfl
set_option maxHeartbeats 2000000 in
theorem De (m:Int) (t:List (List Int)) (a:List Int) (hL:lawB m t=true) (ha:isSer m a=true) (hl:t.length=a.length) (h0:at' a 0=0) (hu:unB m (at' a 1)=true):AFn Tryz.prog 67 [.agg [.int .i64 m,.sl false 27 (rowsF t)],.agg [.int .i64 m,.sl false 2 (intL a)]] (.tup [.agg [.int .i64 m,.sl true 27 (rowsO (inC m (pc t) a (a.length-1)))],.int .i64 0]):=by
 refine fO Tryz.func67 Tryz.ntmps67 (by rw [Tryz.results67]) fun C hP hM hC=>?_
 have f:=Ga ha
 have pt:=Ba (A7 hL).1
 have p5:=pt.2.2.2.2
 have hC1:=Nq m m t a (p5.shp2 (by omega)).sm (by omega)
 rw [show cuC m t m a=0 by
  rw [cuC,if_pos hL,if_pos ha,if_pos]
  rw [cuB,decide_eq_true ⟨rfl,hl⟩,Bool.true_and,beq_iff_eq];exact h0] at hC1
 have hK2:=G1 m a ha
 rw [decide_eq_true h0,hu,Bool.true_and] at hK2
 rw [hl,show a.length=a.length-1+1 by omega] at p5
 have hI:=H2 m t a (a.length-1) (by omega) (by omega) p5 (Nf ha) (by omega) h0 (by omega) (by omega)
 have zq1:((0:Int) != 0)=false:=rfl
 (repeat (first|((with_reducible refine rC rfl fun K hK=>?_);simp only [go_sem,seval,↓reduceIte,zq1];(first|refine hK _ _ _ ?_|refine ⟨_,hC1,hK _ _ _ ?_⟩|refine ⟨_,hK2,hK _ _ _ ?_⟩|refine ⟨_,hI,hK _ _ _ ?_⟩);clear hK K)|refine sT ?_))
 refine rt2 ?_
 rfl
theorem Tp (m:Int) (t:List (List Int)) (hs:Sm t):AFn Tryz.prog 69 [.agg [.int .i64 m,.sl false 27 (rowsF t)]] (.bool (lawB m t)):=by
 refine fO Tryz.func69 Tryz.ntmps69 (by rw [Tryz.results69]) fun C hP hM hC=>?_
 have zq1:=Im m t hs
 (repeat (first|((with_reducible refine rC rfl fun K hK=>?_);simp only [go_sem,seval,↓reduceIte];(first|refine hK _ _ _ ?_|refine ⟨_,zq1,hK _ _ _ ?_⟩);clear hK K)|refine sT ?_))
 refine rt1 ?_
 rfl
theorem U2 {m n:Int} {la lb:List (List Int)} (h:stC m la n lb=0):n=m∧lawB m la=true∧lawB m lb=true∧lb.length=la.length∧isSer m (stV m la lb)=true∧(stV m la lb).length=la.length∧at' (stV m la lb) 0=0∧at' (stV m la lb) 1=1∧hmB m la.length (pc la) (pc lb) (stV m la lb)=true:=by
 obtain ⟨h1,_,x,hx⟩:=Kz h
 obtain ⟨l1,l2,hmn,hll⟩:=Cg h1
 have hl:=Ba (A7 l1).1
 obtain ⟨a1,a2,a3⟩:=Gr _ _ _ (List.mem_of_find?_eq_some (show (al m.toNat (la.length-1-1) [1]).find? _=some x from hx))
 have hb:=List.find?_some (show (al m.toNat (la.length-1-1) [1]).find? (stB m.toNat (la.length-1) (pc la) (pc lb))=some x from hx)
 simp only [List.length_cons,List.length_nil] at a1 a2
 have a3:=a3 (fun z hz=>by rw [List.mem_singleton] at hz;omega)
 have e1:at' x 0=1:=by
  cases x with
  | nil=>simp at a2
  | cons y ys=>simp at a2;rw [a2];rfl
 have hV:stV m la lb=0::x:=by rw [stV,hx];rfl
 have hlen:(0::x).length=la.length:=by simp only [List.length_cons];omega
 rw [stB,show ((m.toNat:Nat):Int)=m by omega,show la.length-1+1=la.length by omega] at hb
 rw [hV]
 exact ⟨hmn.symm,l1,by rw [← hmn] at l2;exact l2,hll.symm,Ky (by omega) (by omega) (by omega) (by omega) (fun z hz=>by
  rcases List.mem_cons.1 hz with e|e
  ·omega
  ·have:=a3 z e;omega),hlen,rfl,e1,hb⟩
theorem S3 {m n:Int} {la lb:List (List Int)} (h:isoC m la n lb=0):n=m∧lawB m la=true∧lawB m lb=true∧lb.length=la.length∧isSer m (isoV m la lb)=true∧(isoV m la lb).length=la.length∧at' (isoV m la lb) 0=0∧unB m (at' (isoV m la lb) 1)=true∧hmB m la.length (pc la) (pc lb) (isoV m la lb)=true:=by
 obtain ⟨h1,_,x,hx⟩:=Mn h
 obtain ⟨l1,l2,hmn,hll⟩:=Cg h1
 have hl:=Ba (A7 l1).1
 obtain ⟨a1,_,a3⟩:=Gr _ _ _ (List.mem_of_find?_eq_some (show (al m.toNat (la.length-1) []).find? _=some x from hx))
 have hb:=List.find?_some (show (al m.toNat (la.length-1) []).find? (isoB m.toNat (la.length-1) (pc la) (pc lb))=some x from hx)
 simp only [List.length_nil] at a1
 have a3:=a3 (fun z hz=>absurd hz List.not_mem_nil)
 have hV:isoV m la lb=0::x:=by rw [isoV,hx];rfl
 have hlen:(0::x).length=la.length:=by simp only [List.length_cons];omega
 rw [isoB,Bool.and_eq_true,show ((m.toNat:Nat):Int)=m by omega,show la.length-1+1=la.length by omega] at hb
 rw [hV]
 exact ⟨hmn.symm,l1,by rw [← hmn] at l2;exact l2,hll.symm,Ky (by omega) (by omega) (by omega) (by omega) (fun z hz=>by
  rcases List.mem_cons.1 hz with e|e
  ·omega
  ·have:=a3 z e;omega),hlen,rfl,hb.1,hb.2⟩
theorem Re {m:Int}:unB m 1=true:=by
 rw [unB,beq_iff_eq]
 exact Nat.gcd_one_left _
theorem Ajc {m n:Int} {la lb:List (List Int)} (h:stC m la n lb=0):isoC m la n lb≠4:=by
 obtain ⟨h1,_,x,hx⟩:=Kz h
 obtain ⟨l1,l2,hmn,hll⟩:=Cg h1
 have hl:=Ba (A7 l1).1
 have hf:=U2 h
 have hmem:=List.mem_of_find?_eq_some (show (al m.toNat (la.length-1-1) [1]).find? _=some x from hx)
 have hb:=List.find?_some (show (al m.toNat (la.length-1-1) [1]).find? (stB m.toNat (la.length-1) (pc la) (pc lb))=some x from hx)
 have hV:stV m la lb=0::x:=by rw [stV,hx];rfl
 have e1:at' x 0=1:=by
  have:=hf.2.2.2.2.2.2.2.1
  rw [hV] at this;exact this
 have hin:x∈al m.toNat (la.length-1) []:=by
  obtain ⟨k,hk⟩:∃ k,la.length-1=k+1:=⟨la.length-2,by omega⟩
  rw [hk,al,List.mem_flatMap]
  refine ⟨1,List.mem_range.2 (by omega),?_⟩
  rw [hk,Nat.add_sub_cancel] at hmem
  exact hmem
 rw [isoC,if_pos h1]
 split
 ·decide
 ·rw [if_neg]
  ·decide
  ·intro hn
   have hn':isoF m.toNat (la.length-1) (pc la) (pc lb)=none:=by simpa using hn
   rw [isoF,List.find?_eq_none] at hn'
   refine hn' x hin ?_
   rw [isoB,e1,show unB ((m.toNat:Nat):Int) 1=true from Re,Bool.true_and]
   exact hb
theorem O3 {m:Int} {la lb:List (List Int)} {v:List Int} (h1:lawB m la=true) (h2:lawB m lb=true) (hl:lb.length=la.length) (hs:isSer m v=true) (hv:v.length=la.length) (h0:at' v 0=0) (hu:unB m (at' v 1)=true) (hh:hmB m la.length (pc la) (pc lb) v=true):inC m (pc la) v (v.length-1)=lb:=by
 have p1:=(Ba (A7 h1).1).2.2
 have p2:=(Ba (A7 h2).1).2.2
 have hc:=Ak5 (Aie hs h0 hu)
 have e:v.length-1+1=la.length:=by omega
 exact Aki hc (by rw [e];exact p1.2.2) (by rw [e,← hl];exact p2.2.2) (by rw [e];exact hh)
theorem Akl {m:Int} {t:List (List Int)} (h:lawB m t=true) (pr:m=2∨m=3∨m=5∨m=7):isSer m (poL m (t.length-1))=true∧(poL m (t.length-1)).length=t.length∧at' (poL m (t.length-1)) 0=0∧hmB m (poL m (t.length-1)).length (pc t) (pc t) (poL m (t.length-1))=true:=by
 have hl:=Ba (A7 h).1
 have hw:=(A7 h).2
 have e:(poL m (t.length-1)).length=t.length:=by rw [poL,Ah];omega
 have h00:pc t 0 0=0:=by
  have:=hw.1 0 (by omega)
  rwa [ok1,if_neg (by omega)] at this
 refine ⟨Ky (by omega) (by omega) (by omega) (by omega) (fun z hz=>by
  rw [poL] at hz
  obtain ⟨i,_,rfl⟩:=Cr.1 hz
  split <;> omega),e,by rw [poL,Bm (by omega),if_neg (by omega)],?_⟩
 rw [e,show t.length=t.length-1+1 by omega]
 refine Ajg pr (by omega) h00 (fun i j hij=>?_)
 have p5:=hl.2.2.2.2
 rw [show t.length=t.length-1+1 by omega] at p5
 exact U0 p5 i j hij
theorem Ak2 {m:Int} {n:Nat} (hm:0≤m) (h1:1≤n):(if m<(n:Int) then (List.replicate n (0:Int)).set m.toNat 1 else List.replicate n 0)=poL m (n-1):=by
 have key:∀ L:List Int,L.length=n→(∀ i,i<n→at' L i=if (i:Int)=m then 1 else 0)→L=poL m (n-1):=fun L h2 h3=>by
  rw [← Io L,h2,poL,show n-1+1=n by omega]
  exact Bl h3
 refine key _ (by split <;> simp) (fun i hi=>?_)
 have hr:at' (List.replicate n (0:Int)) i=0:=by
  rw [at',List.getD_eq_getElem?_getD,List.getElem?_replicate,if_pos hi];rfl
 split
 ·rw [Afi,List.length_replicate]
  by_cases e:i=m.toNat
  ·rw [if_pos ⟨e,by omega⟩,if_pos (by omega)]
  ·rw [if_neg (fun h=>e h.1),if_neg (by omega),hr]
 ·rw [if_neg (by omega),hr]
end Go.Proofs.YtapdekacpecgiaaGreat
