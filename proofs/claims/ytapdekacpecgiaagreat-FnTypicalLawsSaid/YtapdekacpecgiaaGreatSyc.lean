import Derived.Test.YtapdekacpecgiaaGreatSv
import Derived.Test.YtapdekacpecgiaaGreatRl
namespace Go.Proofs.YtapdekacpecgiaaGreat
open Go.RowKit
set_option linter.unusedSimpArgs false
set_option linter.unusedVariables false
set_option linter.unusedSectionVars false
set_option maxRecDepth 20000
set_option maxHeartbeats 1000000
def cuR (k:Nat) (ll:List (List Int)) (i:Nat):List (List Int):=tab2 (k+1) (fun a b=>if a<i then pc ll a b else 0)
theorem Ajz {m:Int} {n k i:Nat} {ll:List (List Int)} (hl:Pl m n ll) (hk:k+1≤n) (hi:i≤k):(cuR k ll i).set i (tab (k+1-i) (pc ll i))=cuR k ll (i+1):=by
 apply List.ext_getElem?
 intro a
 by_cases e:a=i
 ·subst e
  rw [List.getElem?_set_self (by rw [cuR,Aq];omega)]
  have h1:=B3 (n:=k+1) (i:=a) (f:=fun a_1 b=>if a_1<a+1 then pc ll a_1 b else 0) (by omega)
  rw [List.getD_eq_getElem?_getD] at h1
  rw [cuR,List.getElem?_eq_getElem (by rw [Aq];omega)]
  rw [List.getElem?_eq_getElem (by rw [Aq];omega)] at h1
  simp only [Option.getD_some] at h1
  rw [h1]
  congr 1
  exact Bn fun j hj=>by rw [if_pos (by omega)]
 ·rw [List.getElem?_set_ne (fun h=>e h.symm)]
  unfold cuR tab2 tabR
  simp only [List.getElem?_map]
  by_cases ha:a<k+1
  ·rw [List.getElem?_range ha]
   simp only [Option.map_some]
   congr 1
   exact Bn fun j hj=>by
    by_cases h2:a<i
    ·rw [if_pos h2,if_pos (by omega)]
    ·rw [if_neg h2,if_neg (by omega)]
  ·rw [List.getElem?_eq_none (by simp;omega)];rfl
theorem Aet (L:List (List Int)) (i:Nat) (x:List Int) (f:T→T) (hf:f (.sl true 2 (intL (L.getD i [])))=(.sl true 2 (intL x))) (h:i<L.length):(rowsO L).modify i f=rowsO (L.set i x):=by
 apply List.ext_getElem?
 intro a
 rw [List.getElem?_modify]
 by_cases e:i=a
 ·subst e
  rw [A2 _ _ h,A2 _ _ (by rw [List.length_set];exact h)]
  have e2:(L.set i x).getD i []=x:=by
   rw [List.getD_eq_getElem?_getD,List.getElem?_set_self h];rfl
  simp only [if_true,Option.map_eq_map,Option.map_some]
  rw [e2,hf]
 ·simp only [rowsO,if_neg e,List.getElem?_map,List.getElem?_set_ne e,Option.map_eq_map]
  cases L[a]? <;> rfl
theorem Ln (m:Int) (ll:List (List Int)) (n k:Nat) (hl:Pl m n ll) (hk:k+1≤n) (hn:n≤1000):AFn Tryz.prog 104 [.agg [.int .i64 m,.sl false 27 (rowsF ll)],.int .i64 k] (.agg [.int .i64 m,.sl true 27 (rowsO (tab2 (k+1) (pc ll)))]):=by
 refine fO Tryz.func104 Tryz.ntmps104 (by rw [Tryz.results104]) fun C hP hM hC=>?_
 have h0:tab2 (k+1) (fun _ _=>0)=cuR k ll 0:=A5 fun i j _=>by rw [if_neg (by omega)]
 have hE:=Cf m k (by omega)
 rw [h0] at hE
 have hlen:∀ i,(cuR k ll i).length=k+1:=fun i=>Aq _ _
 (repeat (first|((with_reducible refine rC rfl fun K hK=>?_);simp only [go_sem,seval,↓reduceIte,At,hlen];(first|refine hK _ _ _ ?_|refine ⟨_,hE,hK _ _ _ ?_⟩);clear hK K)|refine sT ?_))
 refine AWP.loop (fun i:Nat=>[(15,⟨0,.val (.int .i64 i)⟩),(14,⟨0,.val (.int .i64 (k+1:Nat))⟩),(13,⟨0,.val (.ref 5 2 [0,1])⟩),(5,⟨2,.own (.box 26 (.agg [.int .i64 m,.sl true 27 (rowsO (cuR k ll i))]))⟩),(2,⟨1,.own (.box 26 (.agg [.int .i64 m,.sl false 27 (rowsF ll)]))⟩),(4,⟨1,.own (.box 26 (.agg [.int .i64 0,.nil]))⟩)]) (fun i=>i≤k+1) (fun i=>k+1-i) 0 (Nat.zero_le _) (fun i=>rfl) ?_ (fun i hi=>?_)
 ·simp [Sub,lk]
 ·by_cases hlt:i<k+1
  ·have hr:=hl.row i (by omega)
   have hx1:(cuR k ll i).getD i []=tab (k+1-i) (fun _=>0):=by
    rw [cuR,B3 hlt];exact Bn fun j _=>by rw [if_neg (by omega)]
   have ht:=Adq hl (show i+(k+1-i)≤n by omega)
   have hdr:List.drop (n-i) (intL (tab (k+1-i) (fun _=>0)))=[]:=List.drop_of_length_le (by rw [Bf,Ae];omega)
   have hput:(rowsO (cuR k ll i)).modify i (fun _=>(.sl true 2 (intL (tab (k+1-i) (pc ll i)))))=rowsO (cuR k ll (i+1)):=by
    rw [Aet (cuR k ll i) i (tab (k+1-i) (pc ll i)) _ rfl (by rw [hlen];exact hlt),Ajz hl hk (by omega)]
   (repeat (first|((with_reducible refine rC rfl fun K hK=>?_);simp only [go_sem,seval,↓reduceIte,show (i:Int)<((k+1:Nat):Int) by omega,Aa,hl.len,show (i:Int)<(n:Int) by omega,Ad ll i (by rw [hl.len];omega),Int.toNat_natCast,Int.natCast_nonneg,hlen,A2 (cuR k ll i) i (by rw [hlen];exact hlt),Aw (cuR k ll i) i (by rw [hlen];omega),Nat.mul_one,hx1,Aix,hr,show 0<n-i by omega,Ae,Pz,ht,hdr,List.append_nil,hput,wid ((i:Int)+1) (by omega) (by omega)];refine hK _ _ _ ?_;clear hK K)|refine sT ?_))
   exact ⟨i+1,hlt,by omega,by simp [Sub,lk]⟩
  ·(repeat (first|((with_reducible refine rC rfl fun K hK=>?_);simp only [go_sem,seval,↓reduceIte,show ¬ (i:Int)<((k+1:Nat):Int) by omega];refine hK _ _ _ ?_;clear hK K)|refine sT ?_))
   refine rt1 ?_
   rw [show i=k+1 by omega,show cuR k ll (k+1)=tab2 (k+1) (pc ll) from A5 fun a b hab=>by rw [if_pos (by omega)]]
theorem K9 (k:Int):AFn Tryz.prog 81 [.int .i64 k] (.bool (decide (0≤k)&&decide (k≤1))):=by
 refine fO Tryz.func81 Tryz.ntmps81 (by rw [Tryz.results81]) fun C hP hM hC=>?_
 (repeat (first|((with_reducible refine rC rfl fun K hK=>?_);simp only [go_sem,seval,↓reduceIte];(first|refine hK _ _ _ ?_|refine ⟨_,Cw k 0 1,hK _ _ _ ?_⟩);clear hK K)|refine sT ?_))
 refine rt1 ?_
 rfl
theorem Tn (t:List (List Int)) (hsh:t.length≤1000∧∀ i,(t.getD i []).length≤1000):AFn Tryz.prog 79 [.sl false 27 (rowsF t),.sl false 27 (rowsF t)] (.bool true):=by
 refine fO Tryz.func79 Tryz.ntmps79 (by rw [Tryz.results79]) fun C hP hM hC=>?_
 have ht:=hsh.1
 (repeat (first|((with_reducible refine rC rfl fun K hK=>?_);simp only [go_sem,seval,↓reduceIte,bne_self_eq_false,Aa];refine hK _ _ _ ?_;clear hK K)|refine sT ?_))
 refine AWP.loop (fun i:Nat=>[(5,⟨0,.val (.int .i64 i)⟩),(0,⟨0,.val (.sl false 27 (rowsF t))⟩),(1,⟨0,.val (.sl false 27 (rowsF t))⟩)]) (fun i=>i≤t.length) (fun i=>t.length-i) 0 (Nat.zero_le _) (fun i=>rfl) ?_ (fun i hi=>?_)
 ·simp [Sub,lk]
 ·by_cases h:i<t.length
  ·have hl:=Fy (t.getD i []) (by have:=hsh.2 i;omega)
   (repeat (first|((with_reducible refine rC rfl fun K hK=>?_);simp only [go_sem,seval,↓reduceIte,Aa,show (i:Int)<(t.length:Int) by omega,Ad t i h,Int.natCast_nonneg,Int.toNat_natCast,wid ((i:Int)+1) (by omega) (by omega)];(first|refine hK _ _ _ ?_|refine ⟨_,hl,hK _ _ _ ?_⟩);clear hK K)|refine sT ?_))
   exact ⟨i+1,h,by omega,by simp [Sub,lk]⟩
  ·(repeat (first|((with_reducible refine rC rfl fun K hK=>?_);simp only [go_sem,seval,↓reduceIte,Aa,show ¬ (i:Int)<(t.length:Int) by omega];refine hK _ _ _ ?_;clear hK K)|refine sT ?_))
   refine rt1 ?_
   rfl
theorem K4 (m:Int) (t:List (List Int)) (hsh:t.length≤1000∧∀ i,(t.getD i []).length≤1000):AFn Tryz.prog 13 [.agg [.int .i64 m,.sl false 27 (rowsF t)],.agg [.int .i64 m,.sl false 27 (rowsF t)]] (.bool true):=by
 refine fO Tryz.func13 Tryz.ntmps13 (by rw [Tryz.results13]) fun C hP hM hC=>?_
 (repeat (first|((with_reducible refine rC rfl fun K hK=>?_);simp only [go_sem,seval,↓reduceIte,beq_self_eq_true];(first|refine hK _ _ _ ?_|refine ⟨_,Tn t hsh,hK _ _ _ ?_⟩);clear hK K)|refine sT ?_))
 refine rt1 ?_
 rfl
end Go.Proofs.YtapdekacpecgiaaGreat
