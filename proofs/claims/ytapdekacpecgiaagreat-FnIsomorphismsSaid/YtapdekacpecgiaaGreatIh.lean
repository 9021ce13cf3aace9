import Derived.Test.YtapdekacpecgiaaGreatIa
import Derived.Test.YtapdekacpecgiaaGreatIg
import Derived.Test.YtapdekacpecgiaaGreatRn
namespace Go.Proofs.YtapdekacpecgiaaGreat
open Go.RowKit
set_option linter.unusedSimpArgs false
set_option linter.unusedVariables false
set_option linter.unusedSectionVars false
set_option maxRecDepth 20000
set_option maxHeartbeats 1000000
theorem Kf (m a:Nat) (hm:m≤10000) (ha:a≤10000):AFn Tryz.prog 133 [.int .i64 m,.int .i64 a] (.bool (unB m a)):=by
 refine fO Tryz.func133 Tryz.ntmps133 (by rw [Tryz.results133]) fun C hP hM hC=>?_
 have h1:=S9 a m (by omega) (by omega)
 obtain ⟨g,hg⟩:∃ g,Nat.gcd a m=g:=⟨_,rfl⟩
 rw [hg] at h1
 have hu:unB m a=(g==1):=by rw [unB,Int.toNat_natCast,Int.toNat_natCast,hg]
 by_cases e:g=1
 ·(repeat (first|((with_reducible refine rC rfl fun K hK=>?_);simp only [go_sem,seval,↓reduceIte,show ((g:Int)==1)=true by rw [beq_iff_eq];omega];(first|refine hK _ _ _ ?_|refine ⟨_,h1,hK _ _ _ ?_⟩);clear hK K)|refine sT ?_))
  refine rt1 ?_
  rw [hu,beq_iff_eq.2 e]
 ·(repeat (first|((with_reducible refine rC rfl fun K hK=>?_);simp only [go_sem,seval,↓reduceIte,show ((g:Int)==1)=false by rw [beq_eq_false_iff_ne];omega];(first|refine hK _ _ _ ?_|refine ⟨_,h1,hK _ _ _ ?_⟩);clear hK K)|refine sT ?_))
  refine rt1 ?_
  rw [hu,beq_eq_false_iff_ne.2 e]
theorem E3 (m k:Nat) (hm:2≤m) (hm2:m≤10000) (hk:k≤1000):AFn Tryz.prog 232 [.int .i64 m,.int .i64 k] (.bool (decide (szM m k 20000=20001))):=by
 refine fO Tryz.func232 Tryz.ntmps232 (by rw [Tryz.results232]) fun C hP hM hC=>?_
 (repeat (first|((with_reducible refine rC rfl fun K hK=>?_);simp only [go_sem,seval,↓reduceIte];refine hK _ _ _ ?_;clear hK K)|refine sT ?_))
 refine AWP.loop (fun j:Nat=>[(0,⟨0,.val (.int .i64 m)⟩),(1,⟨0,.val (.int .i64 ((k:Int)-j))⟩),(5,⟨0,.val (.int .i64 (m^j:Nat))⟩)]) (fun j=>j≤k∧m^j≤20000) (fun j=>k-j) 0 ⟨Nat.zero_le _,by rw [Nat.pow_zero];omega⟩ (fun i=>rfl) ?_ (fun j hj=>?_)
 ·simp [Sub,lk]
 ·by_cases hlt:j<k
  ·have hs:m^j*m=m^(j+1):=(Nat.pow_succ ..).symm
   have hb:m^(j+1)≤20000*10000:=by rw [← hs];exact Nat.mul_le_mul hj.2 hm2
   by_cases hq:m^(j+1)≤20000
   ·(repeat (first|((with_reducible refine rC rfl fun K hK=>?_);simp only [go_sem,seval,↓reduceIte,show (0:Int)<(k:Int)-(j:Int) by omega,show (k:Int)-(j:Int)>0 by omega,← Int.natCast_mul,hs,wid ((m^(j+1):Nat):Int) (by omega) (by omega),show ¬ (20000:Int)<((m^(j+1):Nat):Int) by omega,wid ((k:Int)-(j:Int)-1) (by omega) (by omega)];refine hK _ _ _ ?_;clear hK K)|refine sT ?_))
    exact ⟨j+1,⟨hlt,hq⟩,by omega,by simp [Sub,lk];omega⟩
   ·have hE:szM m k 20000=20001:=if_neg (fun h=>hq (Nat.le_trans (Sq hm hlt) h))
    (repeat (first|((with_reducible refine rC rfl fun K hK=>?_);simp only [go_sem,seval,↓reduceIte,show (0:Int)<(k:Int)-(j:Int) by omega,← Int.natCast_mul,hs,wid ((m^(j+1):Nat):Int) (by omega) (by omega),show (20000:Int)<((m^(j+1):Nat):Int) by omega];refine hK _ _ _ ?_;clear hK K)|refine sT ?_))
    refine rt1 ?_
    rw [hE];rfl
  ·have e:j=k:=by omega
   subst e
   have hE:szM m j 20000=m^j:=if_pos hj.2
   (repeat (first|((with_reducible refine rC rfl fun K hK=>?_);simp only [go_sem,seval,↓reduceIte,show ¬ (0:Int)<(j:Int)-(j:Int) by omega];refine hK _ _ _ ?_;clear hK K)|refine sT ?_))
   refine rt1 ?_
   rw [hE,decide_eq_false (by omega)]
theorem Jz {a:List Int} {c:Int} {i:Nat} (hi:i<a.length):at' (a++[c]) i=at' a i:=by rw [Aj0,if_pos hi]
theorem Km {M:Nat} (hm:1<M) {tf tg:Nat→Nat→Int} (h00:tf 0 0=0):∀ (d:Nat) (p x:List Int),1≤p.length→at' p 0=0→x∈al M d p→hmB (M:Int) x.length tf tg x=true→hmB (M:Int) p.length tf tg p=true
 | 0,p,x,_,_,hx,h=>by
  rw [al,List.mem_singleton] at hx
  rw [← hx];exact h
 | d+1,p,x,h1,h0,hx,h=>by
  rw [al,List.mem_flatMap] at hx
  obtain ⟨k,_,hx⟩:=hx
  have h2:=Km hm h00 d (p++[(k:Int)]) x (by simp) (by rw [Jz (by omega)];exact h0) hx h
  have hl:(p++[(k:Int)]).length=p.length+1:=by simp
  rw [hl] at h2
  exact Ai5 (by omega) h1 rfl hl (fun i hi=>Jz hi) h0 h00 (fun _ _ _=>rfl) (fun _ _ _=>rfl) h2
def roT:List (List Int)→T
 | []=>.nil
 | x::l=>(.sl true 27 (rowsO (x::l)))
def roS (v:Nat):List (List Int)→Slot
 | []=>⟨0,.val (.nil)⟩
 | x::l=>⟨v,.own (.sl true 27 (rowsO (x::l)))⟩
set_option maxHeartbeats 4000000 in
theorem Q8 (M D : Nat) (lf lg : List (List Int)) (hm : 1 < M) (hm2 : M ≤ 10000) (hD : 1 ≤ D) (hK2 : D ≤ 900) (hf : Pl (M : Int) (D + 1) lf) (hg : Pl (M : Int) (D + 1) lg) (h00 : pc lf 0 0 = 0) : ∀ (d : Nat) (a : List Int) (out : List (List Int)), a.length + d = D + 1 → 1 ≤ a.length → at' a 0 = 0 → (∀ z ∈ a, 0 ≤ z ∧ z < (M : Int)) → out.length + M ^ d ≤ 20000 → hmB (M : Int) a.length (pc lf) (pc lg) a = true →
  AFn Tryz.prog 234 [.agg [.int .i64 (M:Int),.sl false 27 (rowsF lf)],.agg [.int .i64 (M:Int),.sl false 27 (rowsF lg)],.sl false 2 (intL a),.int .i64 20000,roT out] (roT (out++(al M d a).filter (hmB (M:Int) (D+1) (pc lf) (pc lg)))):=by
 intro d
 induction d with
 | zero=>
  intro a out hal h1 h0 ha ho hfit
  have hO:=Co a (by omega)
  have e1:(al M 0 a).filter (hmB (M:Int) (D+1) (pc lf) (pc lg))=[a]:=by
   rw [al,List.filter_cons,if_pos (by rw [show D+1=a.length by omega];exact hfit)];rfl
  rw [e1]
  cases out with
  | nil=>
   simp only [roT,List.nil_append]
   refine AFn.of' ttOk (by decide) Tryz.func234 Tryz.ntmps234 (by rw [Tryz.results234]) (by rfl) (by rfl) (by simp) (by decide) (by simp only [go_sem,Nat.reduceAdd,↓reduceIte];rfl) mixed (fun C hP hM hC=>?_)
   (repeat (first|((with_reducible refine rC rfl fun K hK=>?_);simp only [go_sem,seval,↓reduceIte,Ab,hf.len,show ((a.length:Int)==((D+1:Nat):Int))=true by rw [beq_iff_eq];omega];(first|refine hK _ _ _ ?_|refine ⟨_,hO,hK _ _ _ ?_⟩);clear hK K)|refine sT ?_))
   refine rt1 ?_
   rfl
  | cons y l=>
   simp only [roT,List.cons_append]
   simp only [List.length_cons] at ho
   refine AFn.of' ttOk (by decide) Tryz.func234 Tryz.ntmps234 (by rw [Tryz.results234]) (by rfl) (by rfl) (by simp) (by decide) (by simp only [go_sem,Nat.reduceAdd,↓reduceIte,D7,Bool.false_eq_true];rfl) mixed (fun C hP hM hC=>?_)
   (repeat (first|((with_reducible refine rC rfl fun K hK=>?_);simp only [go_sem,seval,↓reduceIte,Ab,hf.len,show ((a.length:Int)==((D+1:Nat):Int))=true by rw [beq_iff_eq];omega,Af,List.length_cons,show l.length+1+1≤1099511627776 by omega,show (l.length+1+1)*24≤140737488355328 by omega,Ach];(first|refine hK _ _ _ ?_|refine ⟨_,hO,hK _ _ _ ?_⟩);clear hK K)|refine sT ?_))
   refine rt1 ?_
   rfl
 | succ d ih=>
  intro a out hal h1 h0 ha ho hfit
  have hpw:M^(d+1)=M*M^d:=by rw [Nat.pow_succ,Nat.mul_comm]
  have hpos:1≤M^d:=Nat.one_le_pow _ _ (by omega)
  have hal2:(al M (d+1) a)=alK M d a M:=rfl
  rw [hal2]
  obtain ⟨Z,hZ⟩:∃ Z,Z=hmB (M:Int) (D+1) (pc lf) (pc lg):=⟨_,rfl⟩
  rw [← hZ] at ih ⊢
  have hall:∀ c,((alK M d a c).filter Z).length≤c*M^d:=fun c=>by
   refine Nat.le_trans (List.length_filter_le ..) ?_
   induction c with
   | zero=>simp [Lg]
   | succ c ihc=>rw [G5,List.length_append,I3,Nat.succ_mul];omega
  have hnext:∀ c:Nat,out++(alK M d a (c+1)).filter Z=(out++(alK M d a c).filter Z)++(al M d (a++[(c:Int)])).filter Z:=fun c=>by
   rw [G5,List.filter_append,List.append_assoc]
  have hnone:∀ c:Nat,hmB (M:Int) (a.length+1) (pc lf) (pc lg) (a++[(c:Int)])=false→(al M d (a++[(c:Int)])).filter Z=[]:=fun c hc=>by
   rw [List.filter_eq_nil_iff]
   intro y hy hZy
   have hyl:=(Gr d _ y hy).1
   simp only [List.length_append,List.length_cons,List.length_nil,Nat.zero_add] at hyl
   rw [hZ,show D+1=y.length by omega] at hZy
   have:=Km (by omega) h00 d (a++[(c:Int)]) y (by simp) (by rw [Jz (by omega)];exact h0) hy hZy
   rw [show (a++[(c:Int)]).length=a.length+1 by simp,hc] at this
   cases this
  have hO:=Co a (by omega)
  have hC1:=Dc (M:Int) lf (D+1) a.length hf (by omega) (by omega)
  have hC2:=Dc (M:Int) lg (D+1) a.length hg (by omega) (by omega)
  refine AFn.of' (e:=[(0,⟨0,.val (.agg [.int .i64 (M:Int),.sl false 27 (rowsF lf)])⟩),(1,⟨0,.val (.agg [.int .i64 (M:Int),.sl false 27 (rowsF lg)])⟩),(2,⟨0,.val (.sl false 2 (intL a))⟩),(3,⟨0,.val (.int .i64 20000)⟩),(4,roS 0 out)]) ttOk (by decide) Tryz.func234 Tryz.ntmps234 (by rw [Tryz.results234]) (by rfl) (by rfl) (by simp) (by decide) (by cases out <;> rfl) mixed (fun C hP hM hC=>?_)
  (repeat (first|((with_reducible refine rC rfl fun K hK=>?_);simp only [go_sem,seval,↓reduceIte,Ab,hf.len,show ((a.length:Int)==((D+1:Nat):Int))=false by rw [beq_eq_false_iff_ne];omega];refine hK _ _ _ ?_;clear hK K)|refine sT ?_))
  refine AWP.loop (fun w:Nat×Nat=>[(4,roS w.2 (out++(alK M d a w.1).filter Z)),(12,⟨0,.val (.int .i64 w.1)⟩),(11,⟨0,.val (.int .i64 a.length)⟩),(2,⟨0,.val (.sl false 2 (intL a))⟩),(3,⟨0,.val (.int .i64 20000)⟩),(5,⟨1,.own (.box 26 (.agg [.int .i64 (M:Int),.sl false 27 (rowsF lf)]))⟩),(6,⟨1,.own (.box 26 (.agg [.int .i64 (M:Int),.sl false 27 (rowsF lg)]))⟩)]) (fun w=>w.1≤M) (fun w=>M-w.1) (0,0) (Nat.zero_le _) (fun w=>by generalize out++(alK M d a w.1).filter Z=L;cases L <;> rfl) ?_ (fun w hw=>?_)
  ·simp [Sub,lk,Lg]
  ·obtain ⟨c,v⟩:=w
   simp only at hw ⊢
   have hLc:=hall c
   obtain ⟨L,hL⟩:∃ L,out++(alK M d a c).filter Z=L:=⟨_,rfl⟩
   have hLl:L.length≤out.length+c*M^d:=by rw [← hL,List.length_append];omega
   by_cases hc:c<M
   ·have hmul:(c+1)*M^d≤M*M^d:=Nat.mul_le_mul_right _ hc
    rw [Nat.succ_mul] at hmul
    have hnx:=hnext c
    rw [hL] at hnx
    have hac:∀ z∈a++[(c:Int)],0≤z∧z<(M:Int):=fun z hz=>by
     rcases List.mem_append.1 hz with h|h
     ·exact ha z h
     ·rw [List.mem_singleton] at h;omega
    have hacl:(a++[(c:Int)]).length=a.length+1:=by simp
    have hac0:at' (a++[(c:Int)]) 0=0:=by rw [Jz (by omega)];exact h0
    have hFt:=G4 (M:Int) (tab2 (a.length+1) (pc lf)) (tab2 (a.length+1) (pc lg)) (a++[(c:Int)]) (a.length+1) (by omega) (by omega) (Pl.tab2 (by omega) fun i j _=>hf.num i j) (Pl.tab2 (by omega) fun i j _=>hg.num i j) hac hacl hac0 (by omega) (by omega)
    rw [Qz (by omega) (tf:=pc lf) (tg:=pc lg) (fun u v h=>Bi h) (fun u v h=>Bi h)] at hFt
    obtain ⟨b,hb⟩:∃ b,hmB (M:Int) (a.length+1) (pc lf) (pc lg) (a++[(c:Int)])=b:=⟨_,rfl⟩
    rw [hb] at hFt
    rw [hL]
    cases L with
    | nil=>
     simp only [roS]
     (repeat (first|((with_reducible refine rC rfl fun K hK=>?_);simp only [go_sem,seval,↓reduceIte,show (c:Int)<(M:Int) by omega,List.length_nil,show (0:Int)<20000 by omega,Nat.zero_add,Bv,List.length_cons,show a.length+1≤1099511627776 by omega,show (a.length+1)*8≤140737488355328 by omega];(first|refine hK _ _ _ ?_|refine ⟨_,hO,hK _ _ _ ?_⟩|refine ⟨_,hC1,hK _ _ _ ?_⟩|refine ⟨_,hC2,hK _ _ _ ?_⟩|refine ⟨_,hFt,hK _ _ _ ?_⟩);clear hK K)|refine sT ?_))
     refine AWP.frz (s:=13) rfl ?_
     simp only [go_sem]
     cases b with
     | false=>
      have hn:=hnone c hb
      rw [hn] at hnx
      (repeat (first|((with_reducible refine rC rfl fun K hK=>?_);simp only [go_sem,seval,↓reduceIte,wid ((c:Int)+1) (by omega) (by omega)];refine hK _ _ _ ?_;clear hK K)|refine sT ?_))
      exact ⟨(c+1,0),by simp only;omega,by simp only;omega,by simp only [hnx];simp [Sub,lk,roS]⟩
     | true=>
      have hih:=ih (a++[(c:Int)]) [] (by omega) (by omega) hac0 hac (by simp only [List.length_nil];omega) (by rw [hacl];exact hb)
      simp only [List.nil_append] at hih hnx
      cases hR:(al M d (a++[(c:Int)])).filter Z with
      | nil=>
       rw [hR] at hih hnx
       simp only [roT] at hih
       (repeat (first|((with_reducible refine rC rfl fun K hK=>?_);simp only [go_sem,seval,↓reduceIte,wid ((c:Int)+1) (by omega) (by omega)];(first|refine hK _ _ _ ?_|refine ⟨_,hih,hK _ _ _ ?_⟩);clear hK K)|refine sT ?_))
       exact ⟨(c+1,0),by simp only;omega,by simp only;omega,by simp only [hnx];simp [Sub,lk,roS]⟩
      | cons r R=>
       rw [hR] at hih hnx
       simp only [roT] at hih
       (repeat (first|((with_reducible refine rC rfl fun K hK=>?_);simp only [go_sem,seval,↓reduceIte,wid ((c:Int)+1) (by omega) (by omega),D7];(first|refine hK _ _ _ ?_|refine ⟨_,hih,hK _ _ _ ?_⟩);clear hK K)|refine sT ?_))
       exact ⟨(c+1,1),by simp only;omega,by simp only;omega,by simp only [hnx];simp [Sub,lk,roS]⟩
    | cons y l=>
     simp only [List.length_cons] at hLl
     simp only [roS]
     (repeat (first|((with_reducible refine rC rfl fun K hK=>?_);simp only [go_sem,seval,↓reduceIte,show (c:Int)<(M:Int) by omega,Af,List.length_cons,show ((l.length+1:Nat):Int)<20000 by omega,Nat.zero_add,List.length_nil,Bv,show a.length+1≤1099511627776 by omega,show (a.length+1)*8≤140737488355328 by omega];(first|refine hK _ _ _ ?_|refine ⟨_,hO,hK _ _ _ ?_⟩|refine ⟨_,hC1,hK _ _ _ ?_⟩|refine ⟨_,hC2,hK _ _ _ ?_⟩|refine ⟨_,hFt,hK _ _ _ ?_⟩);clear hK K)|refine sT ?_))
     refine AWP.frz (s:=13) rfl ?_
     simp only [go_sem]
     cases b with
     | false=>
      have hn:=hnone c hb
      rw [hn,List.append_nil] at hnx
      (repeat (first|((with_reducible refine rC rfl fun K hK=>?_);simp only [go_sem,seval,↓reduceIte,wid ((c:Int)+1) (by omega) (by omega)];refine hK _ _ _ ?_;clear hK K)|refine sT ?_))
      exact ⟨(c+1,v),by simp only;omega,by simp only;omega,by simp only [hnx];simp [Sub,lk,roS]⟩
     | true=>
      have hih:=ih (a++[(c:Int)]) (y::l) (by omega) (by omega) hac0 hac (by simp only [List.length_cons];omega) (by rw [hacl];exact hb)
      simp only [List.cons_append] at hih hnx
      simp only [roT] at hih
      (repeat (first|((with_reducible refine rC rfl fun K hK=>?_);simp only [go_sem,seval,↓reduceIte,wid ((c:Int)+1) (by omega) (by omega),D7];(first|refine hK _ _ _ ?_|refine ⟨_,hih,hK _ _ _ ?_⟩);clear hK K)|refine sT ?_))
      exact ⟨(c+1,v+1),by simp only;omega,by simp only;omega,by simp only [hnx];simp [Sub,lk,roS]⟩
   ·have e:c=M:=by omega
    subst e
    rw [hL]
    cases L with
    | nil=>
     simp only [roS,roT]
     (repeat (first|((with_reducible refine rC rfl fun K hK=>?_);simp only [go_sem,seval,↓reduceIte,show ¬ (c:Int)<(c:Int) by omega];refine hK _ _ _ ?_;clear hK K)|refine sT ?_))
     refine rt1 ?_
     rfl
    | cons y l=>
     simp only [roS,roT]
     (repeat (first|((with_reducible refine rC rfl fun K hK=>?_);simp only [go_sem,seval,↓reduceIte,show ¬ (c:Int)<(c:Int) by omega];refine hK _ _ _ ?_;clear hK K)|refine sT ?_))
     refine rt1 ?_
     rfl
theorem R8 (M:Nat) (c:Int):∀ d p,al M d (c::p)=(al M d p).map (c :: ·)
 | 0,p=>rfl
 | d+1,p=>by
  rw [al,al,List.map_flatMap]
  exact congrArg (fun f=>(List.range M).flatMap f) (funext fun k=>by rw [List.cons_append,R8 M c d])
theorem O6 (Z U:List Int→Bool) (c:Int):∀ l:List (List Int),((l.map (c :: ·)).filter Z).find? U=(l.find? (fun x=>U (c::x)&&Z (c::x))).map (c :: ·)
 | []=>rfl
 | x::l=>by
  rw [List.map_cons,List.filter_cons,List.find?_cons]
  cases h1:Z (c::x) with
  | false=>
   rw [Bool.and_false]
   simp only [Bool.false_eq_true,if_false]
   exact O6 Z U c l
  | true=>
   rw [Bool.and_true]
   simp only [if_true]
   rw [List.find?_cons]
   cases h2:U (c::x) with
   | true=>rfl
   | false=>exact O6 Z U c l
def homs (M D:Nat) (tf tg:Nat→Nat→Int):List (List Int):=(al M D [0]).filter (hmB (M:Int) (D+1) tf tg)
theorem Sj (M D:Nat) (tf tg:Nat→Nat→Int):(homs M D tf tg).find? (fun y=>unB M (at' y 1))=(isoF M D tf tg).map (0 :: ·):=by
 rw [homs,R8,O6]
 rfl
theorem Tw {M D:Nat} {tf tg:Nat→Nat→Int} {y:List Int} (hm:1<M) (h:y∈homs M D tf tg):y.length=D+1∧∀ z∈y,0≤z∧z<(M:Int):=by
 rw [homs,List.mem_filter] at h
 obtain ⟨h1,_,h3⟩:=Gr _ _ _ h.1
 simp only [List.length_cons,List.length_nil] at h1
 exact ⟨by omega,h3 fun z hz=>by rw [List.mem_singleton] at hz;omega⟩
theorem Ip (M D:Nat) (la lb:List (List Int)) (ha:Sm la) (hb:Sm lb) (h:twC (M:Int) la (M:Int) lb=0) (hD:la.length=D+1) (hz:szM M D 20000≠20001) (X:List (List Int)) (hX:homs M D (pc la) (pc lb)=X):AFn Tryz.prog 166 [.agg [.int .i64 (M:Int),.sl false 27 (rowsF la)],.agg [.int .i64 (M:Int),.sl false 27 (rowsF lb)],.sl false 2 [.int .i64 0],.int .i64 20000] (.tup [roT X,.int .i64 0]):=by
 refine fO Tryz.func166 Tryz.ntmps166 (by rw [Tryz.results166]) fun C hP hM hC=>?_
 obtain ⟨l1,l2,_,hll⟩:=Cg h
 have hl:=Ba (A7 l1).1
 have hl2:=Ba (A7 l2).1
 have hw1:=(A7 l1).2
 have hw2:=(A7 l2).2
 have h00:pc la 0 0=0:=by
  have:=hw1.1 0 (by omega)
  rwa [ok1,if_neg (by omega)] at this
 have g00:pc lb 0 0=0:=by
  have:=hw2.1 0 (by omega)
  rwa [ok1,if_neg (by omega)] at this
 have hA:=Dq (M:Int) (M:Int) la lb ha hb
 rw [h] at hA
 have hB:=E3 M D (by omega) (by omega) (by omega)
 rw [decide_eq_false hz] at hB
 have hzz:M^D≤20000:=by
  unfold szM at hz
  split at hz
  ·assumption
  ·omega
 have hG:=Q8 M D la lb (by omega) (by omega) (by omega) (by omega) (by rw [← hD];exact hl.2.2.2.2) (by rw [← hD,hll];exact hl2.2.2.2.2) h00 D [0] [] (by simp;omega) (by simp) rfl (fun z hz=>by rw [List.mem_singleton] at hz;omega) (by simp only [List.length_nil];omega) (by
  rw [Nc (by omega)]
  intro u v huv
  simp only [List.length_cons,List.length_nil] at huv
  have hu:u=0:=by omega
  have hv:v=0:=by omega
  subst hu;subst hv
  simp [sm,sij,at',g00])
 rw [List.nil_append,← homs,hX] at hG
 simp only [roT] at hG
 rw [show intL [0]=[T.int .i64 0] from rfl] at hG
 have w1:IntKind.i64.wrap (((D+1:Nat):Int)-1)=(D:Int):=by rw [wid _ (by omega) (by omega)];omega
 cases X with
 | nil=>
  simp only [roT] at hG ⊢
  (repeat (first|((with_reducible refine rC rfl fun K hK=>?_);simp only [go_sem,seval,↓reduceIte,show ((0:Int) != 0)=false from rfl,Ab,hD,List.length_cons,List.length_nil,w1,show ((1:Int)==2)=false from rfl,show (((0+1:Nat):Int)==2)=false from rfl];(first|refine hK _ _ _ ?_|refine ⟨_,hA,hK _ _ _ ?_⟩|refine ⟨_,hB,hK _ _ _ ?_⟩|refine ⟨_,hG,hK _ _ _ ?_⟩);clear hK K)|refine sT ?_))
  refine rt2 ?_
  rfl
 | cons x l=>
  simp only [roT] at hG ⊢
  (repeat (first|((with_reducible refine rC rfl fun K hK=>?_);simp only [go_sem,seval,↓reduceIte,show ((0:Int) != 0)=false from rfl,Ab,hD,List.length_cons,List.length_nil,w1,show ((1:Int)==2)=false from rfl,show (((0+1:Nat):Int)==2)=false from rfl,D7];(first|refine hK _ _ _ ?_|refine ⟨_,hA,hK _ _ _ ?_⟩|refine ⟨_,hB,hK _ _ _ ?_⟩|refine ⟨_,hG,hK _ _ _ ?_⟩);clear hK K)|refine sT ?_))
  refine rt2 ?_
  rfl
theorem Ns (m n:Int) (la lb:List (List Int)) (ha:Sm la) (hb:Sm lb) (h:twC m la n lb≠0):AFn Tryz.prog 166 [.agg [.int .i64 m,.sl false 27 (rowsF la)],.agg [.int .i64 n,.sl false 27 (rowsF lb)],.sl false 2 [.int .i64 0],.int .i64 20000] (.tup [.nil,.int .i64 (twC m la n lb)]):=by
 refine fO Tryz.func166 Tryz.ntmps166 (by rw [Tryz.results166]) fun C hP hM hC=>?_
 have hA:=Dq m n la lb ha hb
 (repeat (first|((with_reducible refine rC rfl fun K hK=>?_);simp only [go_sem,seval,↓reduceIte,show (twC m la n lb != 0)=true by rw [bne_iff_ne];exact h];(first|refine hK _ _ _ ?_|refine ⟨_,hA,hK _ _ _ ?_⟩);clear hK K)|refine sT ?_))
 refine rt2 ?_
 rfl
theorem Nu (M D:Nat) (la lb:List (List Int)) (ha:Sm la) (hb:Sm lb) (h:twC (M:Int) la (M:Int) lb=0) (hD:la.length=D+1) (hz:szM M D 20000=20001):AFn Tryz.prog 166 [.agg [.int .i64 (M:Int),.sl false 27 (rowsF la)],.agg [.int .i64 (M:Int),.sl false 27 (rowsF lb)],.sl false 2 [.int .i64 0],.int .i64 20000] (.tup [.nil,.int .i64 3]):=by
 refine fO Tryz.func166 Tryz.ntmps166 (by rw [Tryz.results166]) fun C hP hM hC=>?_
 obtain ⟨l1,l2,_,hll⟩:=Cg h
 have hl:=Ba (A7 l1).1
 have hA:=Dq (M:Int) (M:Int) la lb ha hb
 rw [h] at hA
 have hB:=E3 M D (by omega) (by omega) (by omega)
 rw [decide_eq_true hz] at hB
 have w1:IntKind.i64.wrap (((D+1:Nat):Int)-1)=(D:Int):=by rw [wid _ (by omega) (by omega)];omega
 (repeat (first|((with_reducible refine rC rfl fun K hK=>?_);simp only [go_sem,seval,↓reduceIte,show ((0:Int) != 0)=false from rfl,Ab,hD,List.length_cons,List.length_nil,w1];(first|refine hK _ _ _ ?_|refine ⟨_,hA,hK _ _ _ ?_⟩|refine ⟨_,hB,hK _ _ _ ?_⟩);clear hK K)|refine sT ?_))
 refine rt2 ?_
 rfl
theorem Yw {U:List Int→Bool} {y:List Int}:∀ (l:List (List Int)),l.find? U=some y→∃ i,i<l.length∧l.getD i []=y∧U y=true∧∀ j,j<i→U (l.getD j [])=false
 | [],h=>by simp at h
 | x::l,h=>by
  rw [List.find?_cons] at h
  cases hu:U x with
  | true=>
   rw [hu] at h
   injection h with h
   subst h
   exact ⟨0,by simp,rfl,hu,fun j hj=>by omega⟩
  | false=>
   rw [hu] at h
   obtain ⟨i,h1,h2,h3,h4⟩:=Yw l h
   refine ⟨i+1,by simp;omega,by simpa using h2,h3,fun j hj=>?_⟩
   cases j with
   | zero=>exact hu
   | succ j=>simpa using h4 j (by omega)
theorem Mk {l:List (List Int)} {i:Nat} (h:i<l.length):l.getD i []∈l:=by
 rw [List.getD_eq_getElem?_getD,List.getElem?_eq_getElem h]
 exact List.getElem_mem h
set_option maxHeartbeats 2000000 in
theorem Fd (m n:Int) (la lb:List (List Int)) (ha:Sm la) (hb:Sm lb) (hc:isoC m la n lb=0):AFn Tryz.prog 66 [.agg [.int .i64 m,.sl false 27 (rowsF la)],.agg [.int .i64 n,.sl false 27 (rowsF lb)]] (.tup [.agg [.int .i64 m,.sl true 2 (intL (isoV m la lb))],.int .i64 0]):=by
 refine fO Tryz.func66 Tryz.ntmps66 (by rw [Tryz.results66]) fun C hP hM hC=>?_
 obtain ⟨h1,h2,x,hx⟩:=Mn hc
 obtain ⟨l1,l2,hmn,hll⟩:=Cg h1
 have hl:=Ba (A7 l1).1
 obtain ⟨M,rfl⟩:=Int.eq_ofNat_of_zero_le (show 0≤m by omega)
 obtain ⟨D,hD⟩:∃ D,la.length=D+1:=⟨la.length-1,by omega⟩
 subst hmn
 rw [hD,Nat.add_sub_cancel,Int.toNat_natCast] at h2
 rw [Int.toNat_natCast,hD,Nat.add_sub_cancel] at hx
 have hV:isoV (M:Int) la lb=0::x:=by rw [isoV,Int.toNat_natCast,hD,Nat.add_sub_cancel,hx];rfl
 obtain ⟨X,hX⟩:∃ X,homs M D (pc la) (pc lb)=X:=⟨_,rfl⟩
 have hA:=Ip M D la lb ha hb h1 hD h2 X hX
 have hfd:=Sj M D (pc la) (pc lb)
 rw [hX,hx] at hfd
 obtain ⟨i1,hi1,hi2,hi3,hi4⟩:=Yw X hfd
 have hXl:X.length≤100000:=by
  have h9:(homs M D (pc la) (pc lb)).length≤M^D:=by
   rw [homs,← I3 M D [0]]
   exact List.length_filter_le ..
  rw [hX] at h9
  unfold szM at h2
  split at h2 <;> omega
 have hmem:∀ y∈X,y.length=D+1∧∀ z∈y,0≤z∧z<(M:Int):=fun y hy=>Tw (by omega) (by rw [hX];exact hy)
 rw [hV]
 have hXT:roT X=(.sl true 27 (rowsO X)):=by
  cases X with
  | nil=>simp at hi1
  | cons y l=>rfl
 have hXN:T.noOwnL (rowsO X)=false:=by
  cases X with
  | nil=>simp at hi1
  | cons y l=>rfl
 rw [hXT] at hA
 (repeat (first|((with_reducible refine rC rfl fun K hK=>?_);simp only [go_sem,seval,↓reduceIte,show ((0:Int) != 0)=false from rfl,hXN];(first|refine hK _ _ _ ?_|refine ⟨_,hA,hK _ _ _ ?_⟩);clear hK K)|refine sT ?_))
 refine AWP.loop (fun i:Nat=>[(8,⟨0,.val (.int .i64 i)⟩),(6,⟨1,.own (.sl true 27 (rowsO X))⟩),(2,⟨1,.own (.box 26 (.agg [.int .i64 (M:Int),.sl false 27 (rowsF la)]))⟩),(4,⟨1,.own (.box 29 (.agg [.int .i64 0,.nil]))⟩)]) (fun i=>i≤i1) (fun i=>X.length-i) 0 (Nat.zero_le _) (fun i=>rfl) ?_ (fun i hi=>?_)
 ·simp [Sub,lk]
 ·have HI:i<X.length:=by omega
  obtain ⟨hyl,hyb⟩:=hmem _ (Mk HI)
  have hb1:=An hyb (show (0:Int)<M by omega) 1
  obtain ⟨y1,hy1⟩:=Int.eq_ofNat_of_zero_le hb1.1
  have g1:(X.getD i []).getD 1 0=(y1:Int):=hy1
  have hU:=Kf M y1 (by omega) (by omega)
  by_cases hlt:i<i1
  ·have hu:=hi4 i hlt
   rw [hy1] at hu
   rw [hu] at hU
   (repeat (first|((with_reducible refine rC rfl fun K hK=>?_);simp only [go_sem,seval,↓reduceIte,Af,show (i:Int)<(X.length:Int) by omega,Ap _ _ HI,Aj _ _ (Nat.le_of_lt HI),Int.toNat_natCast,Int.natCast_nonneg,Nat.mul_one,show (0:Int)≤1 by omega,show (1:Int).toNat=1 from rfl,show (1:Int)<((X.getD i []).length:Int) by omega,Ae (X.getD i []) 1 (by omega),Aa (X.getD i []) 1 (by omega),g1,wid ((i:Int)+1) (by omega) (by omega)];(first|refine hK _ _ _ ?_|refine ⟨_,hU,hK _ _ _ ?_⟩);clear hK K)|refine sT ?_))
   exact ⟨i+1,hlt,by omega,by simp [Sub,lk]⟩
  ·have e:i=i1:=by omega
   subst e
   have hu:=hi3
   rw [← hi2,hy1] at hu
   rw [hu] at hU
   have hMk:=Kg (M:Int) (X.getD i [])
   (repeat (first|((with_reducible refine rC rfl fun K hK=>?_);simp only [go_sem,seval,↓reduceIte,Af,show (i:Int)<(X.length:Int) by omega,Ap _ _ HI,Aj _ _ (Nat.le_of_lt HI),Int.toNat_natCast,Int.natCast_nonneg,Nat.mul_one,show (0:Int)≤1 by omega,show (1:Int).toNat=1 from rfl,show (1:Int)<((X.getD i []).length:Int) by omega,Ae (X.getD i []) 1 (by omega),Aa (X.getD i []) 1 (by omega),g1];(first|refine hK _ _ _ ?_|refine ⟨_,hU,hK _ _ _ ?_⟩|refine ⟨_,hMk,hK _ _ _ ?_⟩);clear hK K)|refine sT ?_))
   refine rt2 ?_
   rw [hi2]
set_option maxHeartbeats 2000000 in
theorem Ff (m n:Int) (la lb:List (List Int)) (ha:Sm la) (hb:Sm lb) (hc:isoC m la n lb≠0):AFn Tryz.prog 66 [.agg [.int .i64 m,.sl false 27 (rowsF la)],.agg [.int .i64 n,.sl false 27 (rowsF lb)]] (.tup [.agg [.int .i64 0,.nil],.int .i64 (isoC m la n lb)]):=by
 refine fO Tryz.func66 Tryz.ntmps66 (by rw [Tryz.results66]) fun C hP hM hC=>?_
 by_cases h1:twC m la n lb=0
 ·obtain ⟨l1,l2,hmn,hll⟩:=Cg h1
  have hl:=Ba (A7 l1).1
  obtain ⟨M,rfl⟩:=Int.eq_ofNat_of_zero_le (show 0≤m by omega)
  obtain ⟨D,hD⟩:∃ D,la.length=D+1:=⟨la.length-1,by omega⟩
  subst hmn
  have hcE:isoC (M:Int) la (M:Int) lb=if szM M D 20000=20001 then 3 else if (isoF M D (pc la) (pc lb)).isNone=true then 4 else 0:=by
   rw [isoC,if_pos h1,Int.toNat_natCast,hD,Nat.add_sub_cancel]
  by_cases h2:szM M D 20000=20001
  ·have hA:=Nu M D la lb ha hb h1 hD h2
   rw [if_pos h2] at hcE
   rw [hcE]
   (repeat (first|((with_reducible refine rC rfl fun K hK=>?_);simp only [go_sem,seval,↓reduceIte,show ((3:Int) != 0)=true from rfl];(first|refine hK _ _ _ ?_|refine ⟨_,hA,hK _ _ _ ?_⟩);clear hK K)|refine sT ?_))
   refine rt2 ?_
   rfl
  ·rw [if_neg h2] at hcE
   have hx:isoF M D (pc la) (pc lb)=none:=by
    cases hx:isoF M D (pc la) (pc lb) with
    | none=>rfl
    | some x=>
     rw [hx] at hcE
     exact absurd hcE hc
   rw [hx] at hcE
   rw [hcE]
   obtain ⟨X,hX⟩:∃ X,homs M D (pc la) (pc lb)=X:=⟨_,rfl⟩
   have hA:=Ip M D la lb ha hb h1 hD h2 X hX
   have hfd:=Sj M D (pc la) (pc lb)
   rw [hX,hx,Option.map_none,List.find?_eq_none] at hfd
   have hmem:∀ y∈X,y.length=D+1∧∀ z∈y,0≤z∧z<(M:Int):=fun y hy=>Tw (by omega) (by rw [hX];exact hy)
   by_cases hX0:X=[]
   ·subst hX0
    simp only [roT] at hA
    (repeat (first|((with_reducible refine rC rfl fun K hK=>?_);simp only [go_sem,seval,↓reduceIte,show ((0:Int) != 0)=false from rfl];(first|refine hK _ _ _ ?_|refine ⟨_,hA,hK _ _ _ ?_⟩);clear hK K)|refine sT ?_))
    refine AWP.loop (fun _:Unit=>[(8,⟨0,.val (.int .i64 0)⟩),(6,⟨0,.val (.nil)⟩),(2,⟨1,.own (.box 26 (.agg [.int .i64 (M:Int),.sl false 27 (rowsF la)]))⟩),(4,⟨1,.own (.box 29 (.agg [.int .i64 0,.nil]))⟩)]) (fun _=>True) (fun _=>0) () trivial (fun i=>rfl) ?_ (fun i hi=>?_)
    ·simp [Sub,lk]
    ·(repeat (first|((with_reducible refine rC rfl fun K hK=>?_);simp only [go_sem,seval,↓reduceIte,List.length_nil,show ¬ (0:Int)<0 by omega];refine hK _ _ _ ?_;clear hK K)|refine sT ?_))
     refine rt2 ?_
     rfl
   ·have hXT : roT X = (.sl true 27 (rowsO X)) := by
     cases X with
     | nil=>exact absurd rfl hX0
     | cons y l=>rfl
    have hXN:T.noOwnL (rowsO X)=false:=by
     cases X with
     | nil=>exact absurd rfl hX0
     | cons y l=>rfl
    rw [hXT] at hA
    have hXl:X.length≤100000:=by
     have h9:(homs M D (pc la) (pc lb)).length≤M^D:=by
      rw [homs,← I3 M D [0]]
      exact List.length_filter_le ..
     rw [hX] at h9
     unfold szM at h2
     split at h2 <;> omega
    (repeat (first|((with_reducible refine rC rfl fun K hK=>?_);simp only [go_sem,seval,↓reduceIte,show ((0:Int) != 0)=false from rfl,hXN];(first|refine hK _ _ _ ?_|refine ⟨_,hA,hK _ _ _ ?_⟩);clear hK K)|refine sT ?_))
    refine AWP.loop (fun i:Nat=>[(8,⟨0,.val (.int .i64 i)⟩),(6,⟨1,.own (.sl true 27 (rowsO X))⟩),(2,⟨1,.own (.box 26 (.agg [.int .i64 (M:Int),.sl false 27 (rowsF la)]))⟩),(4,⟨1,.own (.box 29 (.agg [.int .i64 0,.nil]))⟩)]) (fun i=>i≤X.length) (fun i=>X.length-i) 0 (Nat.zero_le _) (fun i=>rfl) ?_ (fun i hi=>?_)
    ·simp [Sub,lk]
    ·by_cases HI:i<X.length
     ·obtain ⟨hyl,hyb⟩:=hmem _ (Mk HI)
      have hb1:=An hyb (show (0:Int)<M by omega) 1
      obtain ⟨y1,hy1⟩:=Int.eq_ofNat_of_zero_le hb1.1
      have g1:(X.getD i []).getD 1 0=(y1:Int):=hy1
      have hU:=Kf M y1 (by omega) (by omega)
      have hu:=hfd _ (Mk HI)
      rw [hy1,Bool.not_eq_true] at hu
      rw [hu] at hU
      (repeat (first|((with_reducible refine rC rfl fun K hK=>?_);simp only [go_sem,seval,↓reduceIte,Af,show (i:Int)<(X.length:Int) by omega,Ap _ _ HI,Aj _ _ (Nat.le_of_lt HI),Int.toNat_natCast,Int.natCast_nonneg,Nat.mul_one,show (0:Int)≤1 by omega,show (1:Int).toNat=1 from rfl,show (1:Int)<((X.getD i []).length:Int) by omega,Ae (X.getD i []) 1 (by omega),Aa (X.getD i []) 1 (by omega),g1,wid ((i:Int)+1) (by omega) (by omega)];(first|refine hK _ _ _ ?_|refine ⟨_,hU,hK _ _ _ ?_⟩);clear hK K)|refine sT ?_))
      exact ⟨i+1,HI,by omega,by simp [Sub,lk]⟩
     ·have e:i=X.length:=by omega
      subst e
      (repeat (first|((with_reducible refine rC rfl fun K hK=>?_);simp only [go_sem,seval,↓reduceIte,Af,show ¬ (X.length:Int)<(X.length:Int) by omega];refine hK _ _ _ ?_;clear hK K)|refine sT ?_))
      refine rt2 ?_
      rfl
 ·have hA:=Ns m n la lb ha hb h1
  have hcE:isoC m la n lb=twC m la n lb:=by rw [isoC,if_neg h1]
  rw [hcE]
  (repeat (first|((with_reducible refine rC rfl fun K hK=>?_);simp only [go_sem,seval,↓reduceIte,show (twC m la n lb != 0)=true by rw [bne_iff_ne];exact h1];(first|refine hK _ _ _ ?_|refine ⟨_,hA,hK _ _ _ ?_⟩);clear hK K)|refine sT ?_))
  refine rt2 ?_
  rfl
end Go.Proofs.YtapdekacpecgiaaGreat
