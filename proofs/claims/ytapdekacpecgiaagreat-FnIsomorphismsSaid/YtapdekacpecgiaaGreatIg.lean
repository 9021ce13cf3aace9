import Derived.Test.YtapdekacpecgiaaGreatIf
import Derived.Test.YtapdekacpecgiaaGreatHz
namespace Go.Proofs.YtapdekacpecgiaaGreat
open Go.RowKit
set_option linter.unusedSimpArgs false
set_option linter.unusedVariables false
set_option linter.unusedSectionVars false
set_option maxRecDepth 20000
set_option maxHeartbeats 1000000
def isoF (M K:Nat) (tf tg:Nat→Nat→Int):Option (List Int):=(al M K []).find? (isoB M K tf tg)
set_option maxHeartbeats 4000000 in
theorem Gj (M K:Nat) (lf lg:List (List Int)) (hm:1<M) (hm2:M≤10000) (hK:1≤K) (hK2:K≤900) (hf:Pl (M:Int) (K+1) lf) (hg:Pl (M:Int) (K+1) lg):AFn Tryz.prog 167 [.agg [.int .i64 (M:Int),.sl false 27 (rowsF lf)],.agg [.int .i64 (M:Int),.sl false 27 (rowsF lg)],.bool true,.fn 139 []] (.sl true 29 (cuS M (isoF M K (pc lf) (pc lg)))):=by
 refine fO Tryz.func167 Tryz.ntmps167 (by rw [Tryz.results167]) fun C hP hM hC=>?_
 refine AWP.tailK 2 [(4,⟨1,.own (.box 26 (.agg [.int .i64 (M:Int),.sl false 27 (rowsF lf)]))⟩),(5,⟨1,.own (.box 26 (.agg [.int .i64 (M:Int),.sl false 27 (rowsF lg)]))⟩),(6,⟨1,.own (.box 4 (.bool true))⟩),(7,⟨1,.own (.box 85 (.fn 139 []))⟩),(9,⟨2,.own (.box 142 (.sl true 29 []))⟩)] ?_ (fun R tail=>?_)
 ·simp only [seqD]
  refine AWP.frz (s:=7) rfl ?_
  refine AWP.frz (s:=6) rfl ?_
  refine AWP.frz (s:=5) rfl ?_
  refine AWP.frz (s:=4) rfl ?_
  simp only [go_sem]
  have hcv:=S8 M K lf lg hm hm2 hK hK2 hf hg K 0 (tab K (fun _=>0)) (Ah _ _) (by omega) (fun z hz=>by
   obtain ⟨i,_,rfl⟩:=Cr.1 hz
   omega) (isoF M K (pc lf) (pc lg)) (by rw [List.take_zero,isoF])
  simp only [List.take_zero,List.nil_append,Nat.zero_add,Int.natCast_zero,Int.natCast_one] at hcv
  have hzr:tab (K+1) (fun _=>(0:Int))=0::tab K (fun _=>0):=by
   rw [tab,tab,List.range_succ_eq_map,List.map_cons,List.map_map];rfl
  have hZ:=D8 (M:Int) (K:Int) (K+1) (by omega) (by omega)
  rw [hzr] at hZ
  have hD:=A3 (M:Int) lf (by rw [hf.len];omega)
  rw [hf.len,show ((K+1:Nat):Int)-1=(K:Int) by omega] at hD
  cases hr:isoF M K (pc lf) (pc lg) with
  | none=>
   rw [hr] at hcv
   simp only [cuS,cuL,Option.isNone_none] at hcv ⊢
   (repeat (first|((with_reducible refine rC rfl fun K hK=>?_);simp only [go_sem,seval,↓reduceIte];(first|refine hK _ _ _ ?_|refine ⟨_,hD,hK _ _ _ ?_⟩|refine ⟨_,hZ,hK _ _ _ ?_⟩|refine ⟨_,hcv,hK _ _ _ ?_⟩);clear hK K)|refine sT ?_))
   refine rt1 ?_
   rfl
  | some h=>
   rw [hr] at hcv
   simp only [cuS,cuL,Option.isNone_some] at hcv ⊢
   (repeat (first|((with_reducible refine rC rfl fun K hK=>?_);simp only [go_sem,seval,↓reduceIte];(first|refine hK _ _ _ ?_|refine ⟨_,hD,hK _ _ _ ?_⟩|refine ⟨_,hZ,hK _ _ _ ?_⟩|refine ⟨_,hcv,hK _ _ _ ?_⟩);clear hK K)|refine sT ?_))
   refine rt1 ?_
   rfl
 ·simp only [seqP]
  (repeat (first|((with_reducible refine rC rfl fun K hK=>?_);simp only [go_sem,seval,↓reduceIte];refine hK _ _ _ ?_;clear hK K)|refine sT ?_))
  refine AWP.sub ?_ (by rfl) tail
  simp [Sub,lk]
noncomputable def isoC (m:Int) (la:List (List Int)) (n:Int) (lb:List (List Int)):Int:=if twC m la n lb=0 then (if szM m.toNat (la.length-1) 20000=20001 then 3 else if (isoF m.toNat (la.length-1) (pc la) (pc lb)).isNone=true then 4 else 0) else twC m la n lb
def isoV (m:Int) (la lb:List (List Int)):List Int:=0::(isoF m.toNat (la.length-1) (pc la) (pc lb)).getD []
theorem Mn {m n:Int} {la lb:List (List Int)} (h:isoC m la n lb=0):twC m la n lb=0∧szM m.toNat (la.length-1) 20000≠20001∧∃ x,isoF m.toNat (la.length-1) (pc la) (pc lb)=some x:=by
 unfold isoC at h
 split at h
 ·rename_i h1
  split at h
  ·cases h
  ·rename_i h2
   split at h
   ·cases h
   ·rename_i h3
    cases hx:isoF m.toNat (la.length-1) (pc la) (pc lb) with
    | none=>rw [hx] at h3;exact absurd rfl h3
    | some x=>exact ⟨h1,h2,x,rfl⟩
 ·rename_i h1;exact absurd h h1
theorem Eb (m n:Int) (la lb:List (List Int)) (k:Nat) (ha:Sm la) (hb:Sm lb) (hk:k≤1000):AFn Tryz.prog 163 [.agg [.int .i64 m,.sl false 27 (rowsF la)],.agg [.int .i64 n,.sl false 27 (rowsF lb)],.int .i64 k] (.int .i64 (if twC m la n lb=0 then (if szM m.toNat k 20000=20001 then 3 else 0) else twC m la n lb)):=by
 refine fO Tryz.func163 Tryz.ntmps163 (by rw [Tryz.results163]) fun C hP hM hC=>?_
 have hA:=I6 m n la lb ha hb
 by_cases h:twC m la n lb=0
 ·obtain ⟨l1,l2,hmn,hll⟩:=Cg h
  have hl:=Ba (A7 l1).1
  obtain ⟨M,rfl⟩:=Int.eq_ofNat_of_zero_le (show 0≤m by omega)
  have hB:=Mc M k 20000 (by omega) (by omega) hk (by omega) (by omega)
  rw [h,if_pos rfl,Int.toNat_natCast]
  rw [h] at hA
  by_cases hq:szM M k 20000=20001
  ·rw [hq] at hB
   rw [if_pos hq]
   (repeat (first|((with_reducible refine rC rfl fun K hK=>?_);simp only [go_sem,seval,↓reduceIte,show ((0:Int) != 0)=false from rfl,show ((20001:Nat):Int)>20000 by omega,show (20000:Int)<((20001:Nat):Int) by omega];(first|refine hK _ _ _ ?_|refine ⟨_,hA,hK _ _ _ ?_⟩|refine ⟨_,hB,hK _ _ _ ?_⟩);clear hK K)|refine sT ?_))
   refine rt1 ?_
   rfl
  ·have h2 : szM M k 20000 ≤ 20000 := by
    unfold szM at hq ⊢
    split <;> rename_i h9
    ·exact h9
    ·rw [if_neg h9] at hq;omega
   have h4:¬ (20000:Int)<((szM M k 20000:Nat):Int):=by omega
   rw [if_neg hq]
   (repeat (first|((with_reducible refine rC rfl fun K hK=>?_);simp only [go_sem,seval,↓reduceIte,show ((0:Int) != 0)=false from rfl,h4];(first|refine hK _ _ _ ?_|refine ⟨_,hA,hK _ _ _ ?_⟩|refine ⟨_,hB,hK _ _ _ ?_⟩);clear hK K)|refine sT ?_))
   refine rt1 ?_
   rfl
 ·rw [if_neg h]
  (repeat (first|((with_reducible refine rC rfl fun K hK=>?_);simp only [go_sem,seval,↓reduceIte,show (twC m la n lb != 0)=true by rw [bne_iff_ne];exact h];(first|refine hK _ _ _ ?_|refine ⟨_,hA,hK _ _ _ ?_⟩);clear hK K)|refine sT ?_))
  refine rt1 ?_
  rfl
theorem Gn (m n:Int) (la lb:List (List Int)) (k:Int) (ha:Sm la) (hb:Sm lb) (h:twC m la n lb≠0):AFn Tryz.prog 163 [.agg [.int .i64 m,.sl false 27 (rowsF la)],.agg [.int .i64 n,.sl false 27 (rowsF lb)],.int .i64 k] (.int .i64 (twC m la n lb)):=by
 refine fO Tryz.func163 Tryz.ntmps163 (by rw [Tryz.results163]) fun C hP hM hC=>?_
 have hA:=I6 m n la lb ha hb
 (repeat (first|((with_reducible refine rC rfl fun K hK=>?_);simp only [go_sem,seval,↓reduceIte,show (twC m la n lb != 0)=true by rw [bne_iff_ne];exact h];(first|refine hK _ _ _ ?_|refine ⟨_,hA,hK _ _ _ ?_⟩);clear hK K)|refine sT ?_))
 refine rt1 ?_
 rfl
theorem Fg (m n:Int) (la lb:List (List Int)) (ha:Sm la) (hb:Sm lb) (hc:isoC m la n lb=0):AFn Tryz.prog 65 [.agg [.int .i64 m,.sl false 27 (rowsF la)],.agg [.int .i64 n,.sl false 27 (rowsF lb)]] (.tup [.agg [.int .i64 m,.sl true 2 (intL (isoV m la lb))],.int .i64 0]):=by
 refine fO Tryz.func65 Tryz.ntmps65 (by rw [Tryz.results65]) fun C hP hM hC=>?_
 obtain ⟨h1,h2,x,hx⟩:=Mn hc
 obtain ⟨l1,l2,hmn,hll⟩:=Cg h1
 have hl:=Ba (A7 l1).1
 have hl2:=Ba (A7 l2).1
 obtain ⟨M,rfl⟩:=Int.eq_ofNat_of_zero_le (show 0≤m by omega)
 obtain ⟨K,hK⟩:∃ K,la.length=K+1:=⟨la.length-1,by omega⟩
 subst hmn
 have hD:=A3 (M:Int) la (by omega)
 rw [hK,show ((K+1:Nat):Int)-1=(K:Int) by omega] at hD
 have hS:=Eb (M:Int) (M:Int) la lb K ha hb (by omega)
 rw [hK,Nat.add_sub_cancel] at h2
 rw [if_pos h1,if_neg h2] at hS
 rw [Int.toNat_natCast,hK,Nat.add_sub_cancel] at hx
 have hH:=Gj M K la lb (by omega) (by omega) (by omega) (by omega) (by rw [← hK];exact hl.2.2.2.2) (by rw [← hK,hll];exact hl2.2.2.2.2)
 rw [hx] at hH
 simp only [cuS] at hH
 have hV:isoV (M:Int) la lb=0::x:=by rw [isoV,Int.toNat_natCast,hK,Nat.add_sub_cancel,hx];rfl
 rw [hV]
 (repeat (first|((with_reducible refine rC rfl fun K hK=>?_);simp only [go_sem,seval,↓reduceIte,show ((0:Int) != 0)=false from rfl,List.length_cons,List.length_nil,show (((0+1:Nat):Int)==0)=false from rfl,show ((1:Int)==0)=false from rfl,Int.le_refl,Int.toNat_zero,show (0:Int)<((0+1:Nat):Int) by omega,show (0:Int)<1 by omega,List.take_zero,Nat.zero_mul];(first|refine hK _ _ _ ?_|refine ⟨_,hD,hK _ _ _ ?_⟩|refine ⟨_,hS,hK _ _ _ ?_⟩|refine ⟨_,hH,hK _ _ _ ?_⟩);clear hK K)|refine sT ?_))
 refine rt2 ?_
 rfl
theorem Fe (m n:Int) (la lb:List (List Int)) (ha:Sm la) (hb:Sm lb) (hc:isoC m la n lb≠0):AFn Tryz.prog 65 [.agg [.int .i64 m,.sl false 27 (rowsF la)],.agg [.int .i64 n,.sl false 27 (rowsF lb)]] (.tup [.agg [.int .i64 0,.nil],.int .i64 (isoC m la n lb)]):=by
 refine fO Tryz.func65 Tryz.ntmps65 (by rw [Tryz.results65]) fun C hP hM hC=>?_
 have hD:=A3 m la (by have:=ha.1;omega)
 by_cases h1:twC m la n lb=0
 ·obtain ⟨l1,l2,hmn,hll⟩:=Cg h1
  have hl:=Ba (A7 l1).1
  have hl2:=Ba (A7 l2).1
  obtain ⟨M,rfl⟩:=Int.eq_ofNat_of_zero_le (show 0≤m by omega)
  obtain ⟨K,hK⟩:∃ K,la.length=K+1:=⟨la.length-1,by omega⟩
  subst hmn
  rw [hK,show ((K+1:Nat):Int)-1=(K:Int) by omega] at hD
  have hS:=Eb (M:Int) (M:Int) la lb K ha hb (by omega)
  rw [if_pos h1] at hS
  have hcE:isoC (M:Int) la (M:Int) lb=if szM M K 20000=20001 then 3 else if (isoF M K (pc la) (pc lb)).isNone=true then 4 else 0:=by
   rw [isoC,if_pos h1,Int.toNat_natCast,hK,Nat.add_sub_cancel]
  rw [Int.toNat_natCast] at hS
  by_cases h2:szM M K 20000=20001
  ·rw [if_pos h2] at hS hcE
   rw [hcE]
   (repeat (first|((with_reducible refine rC rfl fun K hK=>?_);simp only [go_sem,seval,↓reduceIte,show ((3:Int) != 0)=true from rfl];(first|refine hK _ _ _ ?_|refine ⟨_,hD,hK _ _ _ ?_⟩|refine ⟨_,hS,hK _ _ _ ?_⟩);clear hK K)|refine sT ?_))
   refine rt2 ?_
   rfl
  ·rw [if_neg h2] at hS hcE
   have hx:isoF M K (pc la) (pc lb)=none:=by
    cases hx:isoF M K (pc la) (pc lb) with
    | none=>rfl
    | some x=>
     rw [hx] at hcE
     exact absurd hcE hc
   rw [hx] at hcE
   have hH:=Gj M K la lb (by omega) (by omega) (by omega) (by omega) (by rw [← hK];exact hl.2.2.2.2) (by rw [← hK,hll];exact hl2.2.2.2.2)
   rw [hx] at hH
   simp only [cuS] at hH
   rw [hcE]
   (repeat (first|((with_reducible refine rC rfl fun K hK=>?_);simp only [go_sem,seval,↓reduceIte,show ((0:Int) != 0)=false from rfl,List.length_nil,show (((0:Nat):Int)==0)=true from rfl,show ((0:Int)==0)=true from rfl];(first|refine hK _ _ _ ?_|refine ⟨_,hD,hK _ _ _ ?_⟩|refine ⟨_,hS,hK _ _ _ ?_⟩|refine ⟨_,hH,hK _ _ _ ?_⟩);clear hK K)|refine sT ?_))
   refine rt2 ?_
   rfl
 ·have hS:=Gn m n la lb ((la.length:Int)-1) ha hb h1
  have hcE:isoC m la n lb=twC m la n lb:=by rw [isoC,if_neg h1]
  rw [hcE]
  (repeat (first|((with_reducible refine rC rfl fun K hK=>?_);simp only [go_sem,seval,↓reduceIte,show (twC m la n lb != 0)=true by rw [bne_iff_ne];exact h1];(first|refine hK _ _ _ ?_|refine ⟨_,hD,hK _ _ _ ?_⟩|refine ⟨_,hS,hK _ _ _ ?_⟩);clear hK K)|refine sT ?_))
  refine rt2 ?_
  rfl
end Go.Proofs.YtapdekacpecgiaaGreat
