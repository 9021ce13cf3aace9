import Derived.Test.YtapdekacpecgiaaGreatKa
namespace Go.Proofs.YtapdekacpecgiaaGreat
open Go.RowKit
set_option linter.unusedSimpArgs false
set_option linter.unusedVariables false
set_option linter.unusedSectionVars false
set_option maxRecDepth 20000
set_option maxHeartbeats 1000000
theorem cs11 {u:Nat} (h:u≤10):u=0∨u=1∨u=2∨u=3∨u=4∨u=5∨u=6∨u=7∨u=8∨u=9∨u=10:=by omega
def tyX (q u v:Nat):Int:=(if u=q∧v=0 then 1 else 0)+(if u=0∧v=q then 1 else 0)
def tyA (p:Nat) (a b c:Int):Nat→Int
 | 0=>1
 | 1=>a
 | 2=>(p:Int)*b+a*a^p
 | 3=>(p:Int)^2*c+(p:Int)*a*b^p+((p:Int)*b+a*a^p)*a^(p^2)
 | _=>0
def cocL:Nat→List Int
 | 2=>[0,1,0]
 | 3=>[0,1,1,0]
 | 4=>[0,2,3,2,0]
 | 5=>[0,1,2,2,1,0]
 | 7=>[0,1,3,5,5,3,1,0]
 | 8=>[0,4,14,28,35,28,14,4,0]
 | 9=>[0,3,12,28,42,42,28,12,3,0]
 | _=>[]
def tyC (n u v:Nat):Int:=if u+v=n then at' (cocL n) u else 0
def Dr (a b c:Int):List (List Int):=[
 [0,1],
 [1,-1*a,a^2,-2*b-2*a^3,4*a*b+3*a^4,-6*a^2*b-4*a^5,4*b^2+12*a^3*b+6*a^6,-4*c-14*a*b^2-24*a^4*b-10*a^7,8*a*c+28*a^2*b^2+40*a^5*b+15*a^8,-8*b^3-12*a^2*c-58*a^3*b^2-66*a^6*b-22*a^9],
 [0,a^2,-3*b-4*a^3,11*a*b+10*a^4,-28*a^2*b-21*a^5,18*b^2+75*a^3*b+43*a^6,-14*c-89*a*b^2-190*a^4*b-88*a^7,46*a*c+257*a^2*b^2+420*a^5*b+169*a^8,-72*b^3-104*a^2*c-688*a^3*b^2-880*a^6*b-312*a^9],
 [0,-2*b-2*a^3,11*a*b+10*a^4,-43*a^2*b-34*a^5,34*b^2+164*a^3*b+101*a^6,-28*c-226*a*b^2-551*a^4*b-275*a^7,126*a*c+879*a^2*b^2+1586*a^5*b+680*a^8,-260*b^3-382*a^2*c-3001*a^3*b^2-4192*a^6*b-1573*a^9],
 [0,4*a*b+3*a^4,-28*a^2*b-21*a^5,34*b^2+164*a^3*b+101*a^6,-35*c-302*a*b^2-769*a^4*b-394*a^7,203*a*c+1543*a^2*b^2+2933*a^5*b+1303*a^8,-523*b^3-791*a^2*c-6707*a^3*b^2-9900*a^6*b-3861*a^9],
 [0,-6*a^2*b-4*a^5,18*b^2+75*a^3*b+43*a^6,-28*c-226*a*b^2-551*a^4*b-275*a^7,203*a*c+1543*a^2*b^2+2933*a^5*b+1303*a^8,-654*b^3-1001*a^2*c-8671*a^3*b^2-13042*a^6*b-5156*a^9],
 [0,4*b^2+12*a^3*b+6*a^6,-14*c-89*a*b^2-190*a^4*b-88*a^7,126*a*c+879*a^2*b^2+1586*a^5*b+680*a^8,-523*b^3-791*a^2*c-6707*a^3*b^2-9900*a^6*b-3861*a^9],
 [0,-4*c-14*a*b^2-24*a^4*b-10*a^7,46*a*c+257*a^2*b^2+420*a^5*b+169*a^8,-260*b^3-382*a^2*c-3001*a^3*b^2-4192*a^6*b-1573*a^9],
 [0,8*a*c+28*a^2*b^2+40*a^5*b+15*a^8,-72*b^3-104*a^2*c-688*a^3*b^2-880*a^6*b-312*a^9],
 [0,-8*b^3-12*a^2*c-58*a^3*b^2-66*a^6*b-22*a^9]]
def K2 (a b c:Int):List (List Int):=[
 [0,0,1],
 [0,2,-2*a,2*a^2,-4*b-4*a^3,8*a*b+6*a^4,-12*a^2*b-8*a^5,8*b^2+24*a^3*b+12*a^6,-8*c-28*a*b^2-48*a^4*b-20*a^7,16*a*c+56*a^2*b^2+80*a^5*b+30*a^8],
 [1,-2*a,5*a^2,-10*b-14*a^3,34*a*b+31*a^4,-80*a^2*b-60*a^5,48*b^2+202*a^3*b+116*a^6,-36*c-230*a*b^2-492*a^4*b-228*a^7,116*a*c+646*a^2*b^2+1056*a^5*b+425*a^8],
 [0,2*a^2,-10*b-14*a^3,50*a*b+50*a^4,-174*a^2*b-142*a^5,116*b^2+592*a^3*b+372*a^6,-84*c-734*a*b^2-1834*a^4*b-926*a^7,372*a*c+2730*a^2*b^2+4980*a^5*b+2148*a^8],
 [0,-4*b-4*a^3,34*a*b+31*a^4,-174*a^2*b-142*a^5,153*b^2+826*a^3*b+536*a^6,-126*c-1250*a*b^2-3370*a^4*b-1782*a^7,714*a*c+5973*a^2*b^2+11682*a^5*b+5284*a^8],
 [0,8*a*b+6*a^4,-80*a^2*b-60*a^5,116*b^2+592*a^3*b+372*a^6,-126*c-1250*a*b^2-3370*a^4*b-1782*a^7,882*a*c+7668*a^2*b^2+15354*a^5*b+7062*a^8],
 [0,-12*a^2*b-8*a^5,48*b^2+202*a^3*b+116*a^6,-84*c-734*a*b^2-1834*a^4*b-926*a^7,714*a*c+5973*a^2*b^2+11682*a^5*b+5284*a^8],
 [0,8*b^2+24*a^3*b+12*a^6,-36*c-230*a*b^2-492*a^4*b-228*a^7,372*a*c+2730*a^2*b^2+4980*a^5*b+2148*a^8],
 [0,-8*c-28*a*b^2-48*a^4*b-20*a^7,116*a*c+646*a^2*b^2+1056*a^5*b+425*a^8],
 [0,16*a*c+56*a^2*b^2+80*a^5*b+30*a^8]]
theorem Amk (a b c:Int):∀ u v,u+v≤10→cv2 (pc (Dr a b c)) (pc (Dr a b c)) u v=pc (K2 a b c) u v:=by
 intro u v h
 obtain hu:=cs11 (show u≤10 by omega)
 obtain hv:=cs11 (show v≤10 by omega)
 rcases hu with rfl|rfl|rfl|rfl|rfl|rfl|rfl|rfl|rfl|rfl|rfl <;> rcases hv with rfl|rfl|rfl|rfl|rfl|rfl|rfl|rfl|rfl|rfl|rfl <;> first|omega|(simp only [cv2,sm,Nat.reduceSub,pc,Dr,K2,at',List.getD_cons_succ,List.getD_cons_zero,List.getD_nil];grind)
def K3 (a b c:Int):List (List Int):=[
 [0,0,0,0,1],
 [0,0,0,4,-4*a,4*a^2,-8*b-8*a^3,16*a*b+12*a^4,-24*a^2*b-16*a^5,16*b^2+48*a^3*b+24*a^6],
 [0,0,6,-12*a,22*a^2,-36*b-52*a^3,116*a*b+106*a^4,-256*a^2*b-192*a^5,144*b^2+612*a^3*b+352*a^6],
 [0,4,-12*a,36*a^2,-68*b-120*a^3,308*a*b+328*a^4,-940*a^2*b-784*a^5,520*b^2+2816*a^3*b+1800*a^6],
 [1,-4*a,22*a^2,-68*b-120*a^3,416*a*b+469*a^4,-1696*a^2*b-1508*a^5,1046*b^2+6484*a^3*b+4442*a^6],
 [0,4*a^2,-36*b-52*a^3,308*a*b+328*a^4,-1696*a^2*b-1508*a^5,1308*b^2+8460*a^3*b+5940*a^6],
 [0,-8*b-8*a^3,116*a*b+106*a^4,-940*a^2*b-784*a^5,1046*b^2+6484*a^3*b+4442*a^6],
 [0,16*a*b+12*a^4,-256*a^2*b-192*a^5,520*b^2+2816*a^3*b+1800*a^6],
 [0,-24*a^2*b-16*a^5,144*b^2+612*a^3*b+352*a^6],
 [0,16*b^2+48*a^3*b+24*a^6]]
theorem Amm (a b c:Int):∀ u v,u+v≤10→cv2 (pc (K2 a b c)) (pc (K2 a b c)) u v=pc (K3 a b c) u v:=by
 intro u v h
 obtain hu:=cs11 (show u≤10 by omega)
 obtain hv:=cs11 (show v≤10 by omega)
 rcases hu with rfl|rfl|rfl|rfl|rfl|rfl|rfl|rfl|rfl|rfl|rfl <;> rcases hv with rfl|rfl|rfl|rfl|rfl|rfl|rfl|rfl|rfl|rfl|rfl <;> first|omega|(simp only [cv2,sm,Nat.reduceSub,pc,K2,K3,at',List.getD_cons_succ,List.getD_cons_zero,List.getD_nil];grind)
def S2 (a b c:Int):List (List Int):=[
 [0,0,0,0,0,0,0,0,1],
 [0,0,0,0,0,0,0,8,-8*a,8*a^2],
 [0,0,0,0,0,0,28,-56*a,92*a^2],
 [0,0,0,0,0,56,-168*a,392*a^2],
 [0,0,0,0,70,-280*a,868*a^2],
 [0,0,0,56,-280*a,1120*a^2],
 [0,0,28,-168*a,868*a^2],
 [0,8,-56*a,392*a^2],
 [1,-8*a,92*a^2],
 [0,8*a^2]]
theorem Aks (a b c:Int):∀ u v,u+v≤10→cv2 (pc (K3 a b c)) (pc (K3 a b c)) u v=pc (S2 a b c) u v:=by
 intro u v h
 obtain hu:=cs11 (show u≤10 by omega)
 obtain hv:=cs11 (show v≤10 by omega)
 rcases hu with rfl|rfl|rfl|rfl|rfl|rfl|rfl|rfl|rfl|rfl|rfl <;> rcases hv with rfl|rfl|rfl|rfl|rfl|rfl|rfl|rfl|rfl|rfl|rfl <;> first|omega|(simp only [cv2,sm,Nat.reduceSub,pc,K3,S2,at',List.getD_cons_succ,List.getD_cons_zero,List.getD_nil];grind)
theorem Ajl (a b c:Int):∀ u v,u+v≤10→8*tyA 2 a b c 0*pc (Dr a b c) u v+4*tyA 2 a b c 1*pc (K2 a b c) u v+2*tyA 2 a b c 2*pc (K3 a b c) u v+1*tyA 2 a b c 3*pc (S2 a b c) u v=8*tyA 2 a b c 0*tyX 1 u v+4*tyA 2 a b c 1*tyX 2 u v+2*tyA 2 a b c 2*tyX 4 u v+1*tyA 2 a b c 3*tyX 8 u v:=by
 intro u v h
 obtain hu:=cs11 (show u≤10 by omega)
 obtain hv:=cs11 (show v≤10 by omega)
 rcases hu with rfl|rfl|rfl|rfl|rfl|rfl|rfl|rfl|rfl|rfl|rfl <;> rcases hv with rfl|rfl|rfl|rfl|rfl|rfl|rfl|rfl|rfl|rfl|rfl <;> first|omega|(simp only [tyA,tyX,pc,Dr,K2,K3,S2,at',List.getD_cons_succ,List.getD_cons_zero,List.getD_nil];grind)
theorem Alf (a b c:Int):∀ u,u≤10→pc (Dr a b c) u 0=(if u=1 then 1 else 0)∧pc (Dr a b c) 0 u=(if u=1 then 1 else 0):=by
 intro u h
 obtain hu:=cs11 h
 rcases hu with rfl|rfl|rfl|rfl|rfl|rfl|rfl|rfl|rfl|rfl|rfl <;> exact ⟨rfl,rfl⟩
theorem Al1 (a b c:Int):∀ u v,u+v≤2→pc (Dr a b c) u v=pc (Dr 0 0 0) u v-a*tyC 2 u v:=by
 intro u v h
 obtain hu:=cs11 (show u≤10 by omega)
 obtain hv:=cs11 (show v≤10 by omega)
 rcases hu with rfl|rfl|rfl|rfl|rfl|rfl|rfl|rfl|rfl|rfl|rfl <;> rcases hv with rfl|rfl|rfl|rfl|rfl|rfl|rfl|rfl|rfl|rfl|rfl <;> first|omega|(simp only [tyC,cocL,pc,Dr,at',List.getD_cons_succ,List.getD_cons_zero,List.getD_nil];grind)
theorem Alu (a b c:Int):∀ u v,u+v≤4→pc (Dr a b c) u v=pc (Dr a 0 0) u v-b*tyC 4 u v:=by
 intro u v h
 obtain hu:=cs11 (show u≤10 by omega)
 obtain hv:=cs11 (show v≤10 by omega)
 rcases hu with rfl|rfl|rfl|rfl|rfl|rfl|rfl|rfl|rfl|rfl|rfl <;> rcases hv with rfl|rfl|rfl|rfl|rfl|rfl|rfl|rfl|rfl|rfl|rfl <;> first|omega|(simp only [tyC,cocL,pc,Dr,at',List.getD_cons_succ,List.getD_cons_zero,List.getD_nil];grind)
theorem Aml (a b c:Int):∀ u v,u+v≤8→pc (Dr a b c) u v=pc (Dr a b 0) u v-c*tyC 8 u v:=by
 intro u v h
 obtain hu:=cs11 (show u≤10 by omega)
 obtain hv:=cs11 (show v≤10 by omega)
 rcases hu with rfl|rfl|rfl|rfl|rfl|rfl|rfl|rfl|rfl|rfl|rfl <;> rcases hv with rfl|rfl|rfl|rfl|rfl|rfl|rfl|rfl|rfl|rfl|rfl <;> first|omega|(simp only [tyC,cocL,pc,Dr,at',List.getD_cons_succ,List.getD_cons_zero,List.getD_nil];grind)
def Dw (a b c:Int):List (List Int):=[
 [0,1],
 [1,0,-1*a,0,a^2,0,-1*a^3,0,-3*b],
 [0,-1*a,0,3*a^2,0,-6*a^3,0,-12*b+6*a^4],
 [0,0,3*a^2,0,-13*a^3,0,-28*b+27*a^4],
 [0,a^2,0,-13*a^3,0,-42*b+52*a^4],
 [0,0,-6*a^3,0,-42*b+52*a^4],
 [0,-1*a^3,0,-28*b+27*a^4],
 [0,0,-12*b+6*a^4],
 [0,-3*b]]
def S4 (a b c:Int):List (List Int):=[
 [0,0,1],
 [0,2,0,-2*a,0,2*a^2,0,-2*a^3,0,-6*b],
 [1,0,-4*a,0,9*a^2,0,-16*a^3,0,-30*b+15*a^4],
 [0,-2*a,0,14*a^2,0,-46*a^3,0,-80*b+86*a^4],
 [0,0,9*a^2,0,-64*a^3,0,-140*b+211*a^4],
 [0,2*a^2,0,-46*a^3,0,-168*b+280*a^4],
 [0,0,-16*a^3,0,-140*b+211*a^4],
 [0,-2*a^3,0,-80*b+86*a^4],
 [0,0,-30*b+15*a^4],
 [0,-6*b]]
theorem Amo (a b c:Int):∀ u v,u+v≤10→cv2 (pc (Dw a b c)) (pc (Dw a b c)) u v=pc (S4 a b c) u v:=by
 intro u v h
 obtain hu:=cs11 (show u≤10 by omega)
 obtain hv:=cs11 (show v≤10 by omega)
 rcases hu with rfl|rfl|rfl|rfl|rfl|rfl|rfl|rfl|rfl|rfl|rfl <;> rcases hv with rfl|rfl|rfl|rfl|rfl|rfl|rfl|rfl|rfl|rfl|rfl <;> first|omega|(simp only [cv2,sm,Nat.reduceSub,pc,Dw,S4,at',List.getD_cons_succ,List.getD_cons_zero,List.getD_nil];grind)
def Hj (a b c:Int):List (List Int):=[
 [0,0,0,1],
 [0,0,3,0,-3*a,0,3*a^2,0,-3*a^3],
 [0,3,0,-9*a,0,18*a^2,0,-30*a^3],
 [1,0,-9*a,0,39*a^2,0,-109*a^3],
 [0,-3*a,0,39*a^2,0,-198*a^3],
 [0,0,18*a^2,0,-198*a^3],
 [0,3*a^2,0,-109*a^3],
 [0,0,-30*a^3],
 [0,-3*a^3]]
theorem Ak1 (a b c:Int):∀ u v,u+v≤10→cv2 (pc (S4 a b c)) (pc (Dw a b c)) u v=pc (Hj a b c) u v:=by
 intro u v h
 obtain hu:=cs11 (show u≤10 by omega)
 obtain hv:=cs11 (show v≤10 by omega)
 rcases hu with rfl|rfl|rfl|rfl|rfl|rfl|rfl|rfl|rfl|rfl|rfl <;> rcases hv with rfl|rfl|rfl|rfl|rfl|rfl|rfl|rfl|rfl|rfl|rfl <;> first|omega|(simp only [cv2,sm,Nat.reduceSub,pc,Dw,S4,Hj,at',List.getD_cons_succ,List.getD_cons_zero,List.getD_nil];grind)
def S1 (a b c:Int):List (List Int):=[
 [0,0,0,0,0,0,1],
 [0,0,0,0,0,6,0,-6*a,0,6*a^2],
 [0,0,0,0,15,0,-36*a,0,63*a^2],
 [0,0,0,20,0,-90*a,0,258*a^2],
 [0,0,15,0,-120*a,0,561*a^2],
 [0,6,0,-90*a,0,720*a^2],
 [1,0,-36*a,0,561*a^2],
 [0,-6*a,0,258*a^2],
 [0,0,63*a^2],
 [0,6*a^2]]
theorem Amn (a b c:Int):∀ u v,u+v≤10→cv2 (pc (Hj a b c)) (pc (Hj a b c)) u v=pc (S1 a b c) u v:=by
 intro u v h
 obtain hu:=cs11 (show u≤10 by omega)
 obtain hv:=cs11 (show v≤10 by omega)
 rcases hu with rfl|rfl|rfl|rfl|rfl|rfl|rfl|rfl|rfl|rfl|rfl <;> rcases hv with rfl|rfl|rfl|rfl|rfl|rfl|rfl|rfl|rfl|rfl|rfl <;> first|omega|(simp only [cv2,sm,Nat.reduceSub,pc,Hj,S1,at',List.getD_cons_succ,List.getD_cons_zero,List.getD_nil];grind)
def Sv (a b c:Int):List (List Int):=[
 [0,0,0,0,0,0,0,0,0,1],
 [0,0,0,0,0,0,0,0,9],
 [0,0,0,0,0,0,0,36],
 [0,0,0,0,0,0,84],
 [0,0,0,0,0,126],
 [0,0,0,0,126],
 [0,0,0,84],
 [0,0,36],
 [0,9],
 [1]]
theorem Akw (a b c:Int):∀ u v,u+v≤10→cv2 (pc (S1 a b c)) (pc (Hj a b c)) u v=pc (Sv a b c) u v:=by
 intro u v h
 obtain hu:=cs11 (show u≤10 by omega)
 obtain hv:=cs11 (show v≤10 by omega)
 rcases hu with rfl|rfl|rfl|rfl|rfl|rfl|rfl|rfl|rfl|rfl|rfl <;> rcases hv with rfl|rfl|rfl|rfl|rfl|rfl|rfl|rfl|rfl|rfl|rfl <;> first|omega|(simp only [cv2,sm,Nat.reduceSub,pc,Hj,S1,Sv,at',List.getD_cons_succ,List.getD_cons_zero,List.getD_nil];grind)
theorem Ajf (a b c:Int):∀ u v,u+v≤10→27*tyA 3 a b c 0*pc (Dw a b c) u v+9*tyA 3 a b c 1*pc (Hj a b c) u v+3*tyA 3 a b c 2*pc (Sv a b c) u v=27*tyA 3 a b c 0*tyX 1 u v+9*tyA 3 a b c 1*tyX 3 u v+3*tyA 3 a b c 2*tyX 9 u v:=by
 intro u v h
 obtain hu:=cs11 (show u≤10 by omega)
 obtain hv:=cs11 (show v≤10 by omega)
 rcases hu with rfl|rfl|rfl|rfl|rfl|rfl|rfl|rfl|rfl|rfl|rfl <;> rcases hv with rfl|rfl|rfl|rfl|rfl|rfl|rfl|rfl|rfl|rfl|rfl <;> first|omega|(simp only [tyA,tyX,pc,Dw,Hj,Sv,at',List.getD_cons_succ,List.getD_cons_zero,List.getD_nil];grind)
theorem Alq (a b c:Int):∀ u,u≤10→pc (Dw a b c) u 0=(if u=1 then 1 else 0)∧pc (Dw a b c) 0 u=(if u=1 then 1 else 0):=by
 intro u h
 obtain hu:=cs11 h
 rcases hu with rfl|rfl|rfl|rfl|rfl|rfl|rfl|rfl|rfl|rfl|rfl <;> exact ⟨rfl,rfl⟩
theorem Alj (a b c:Int):∀ u v,u+v≤3→pc (Dw a b c) u v=pc (Dw 0 0 0) u v-a*tyC 3 u v:=by
 intro u v h
 obtain hu:=cs11 (show u≤10 by omega)
 obtain hv:=cs11 (show v≤10 by omega)
 rcases hu with rfl|rfl|rfl|rfl|rfl|rfl|rfl|rfl|rfl|rfl|rfl <;> rcases hv with rfl|rfl|rfl|rfl|rfl|rfl|rfl|rfl|rfl|rfl|rfl <;> first|omega|(simp only [tyC,cocL,pc,Dw,at',List.getD_cons_succ,List.getD_cons_zero,List.getD_nil];grind)
theorem Ak5 (a b c:Int):∀ u v,u+v≤9→pc (Dw a b c) u v=pc (Dw a 0 0) u v-b*tyC 9 u v:=by
 intro u v h
 obtain hu:=cs11 (show u≤10 by omega)
 obtain hv:=cs11 (show v≤10 by omega)
 rcases hu with rfl|rfl|rfl|rfl|rfl|rfl|rfl|rfl|rfl|rfl|rfl <;> rcases hv with rfl|rfl|rfl|rfl|rfl|rfl|rfl|rfl|rfl|rfl|rfl <;> first|omega|(simp only [tyC,cocL,pc,Dw,at',List.getD_cons_succ,List.getD_cons_zero,List.getD_nil];grind)
def Er (a b c:Int):List (List Int):=[
 [0,1],
 [1,0,0,0,-1*a,0,0,0,a^2],
 [0,0,0,-2*a,0,0,0,6*a^2],
 [0,0,-2*a,0,0,0,16*a^2],
 [0,-1*a,0,0,0,25*a^2],
 [0,0,0,0,25*a^2],
 [0,0,0,16*a^2],
 [0,0,6*a^2],
 [0,a^2]]
def P9 (a b c:Int):List (List Int):=[
 [0,0,1],
 [0,2,0,0,0,-2*a,0,0,0,2*a^2],
 [1,0,0,0,-6*a,0,0,0,15*a^2],
 [0,0,0,-8*a,0,0,0,48*a^2],
 [0,0,-6*a,0,0,0,90*a^2],
 [0,-2*a,0,0,0,110*a^2],
 [0,0,0,0,90*a^2],
 [0,0,0,48*a^2],
 [0,0,15*a^2],
 [0,2*a^2]]
theorem Al2 (a b c:Int):∀ u v,u+v≤10→cv2 (pc (Er a b c)) (pc (Er a b c)) u v=pc (P9 a b c) u v:=by
 intro u v h
 obtain hu:=cs11 (show u≤10 by omega)
 obtain hv:=cs11 (show v≤10 by omega)
 rcases hu with rfl|rfl|rfl|rfl|rfl|rfl|rfl|rfl|rfl|rfl|rfl <;> rcases hv with rfl|rfl|rfl|rfl|rfl|rfl|rfl|rfl|rfl|rfl|rfl <;> first|omega|(simp only [cv2,sm,Nat.reduceSub,pc,Er,P9,at',List.getD_cons_succ,List.getD_cons_zero,List.getD_nil];grind)
def Sx (a b c:Int):List (List Int):=[
 [0,0,0,0,1],
 [0,0,0,4,0,0,0,-4*a],
 [0,0,6,0,0,0,-20*a],
 [0,4,0,0,0,-44*a],
 [1,0,0,0,-56*a],
 [0,0,0,-44*a],
 [0,0,-20*a],
 [0,-4*a]]
theorem Akv (a b c:Int):∀ u v,u+v≤10→cv2 (pc (P9 a b c)) (pc (P9 a b c)) u v=pc (Sx a b c) u v:=by
 intro u v h
 obtain hu:=cs11 (show u≤10 by omega)
 obtain hv:=cs11 (show v≤10 by omega)
 rcases hu with rfl|rfl|rfl|rfl|rfl|rfl|rfl|rfl|rfl|rfl|rfl <;> rcases hv with rfl|rfl|rfl|rfl|rfl|rfl|rfl|rfl|rfl|rfl|rfl <;> first|omega|(simp only [cv2,sm,Nat.reduceSub,pc,P9,Sx,at',List.getD_cons_succ,List.getD_cons_zero,List.getD_nil];grind)
def Sw (a b c:Int):List (List Int):=[
 [0,0,0,0,0,1],
 [0,0,0,0,5,0,0,0,-5*a],
 [0,0,0,10,0,0,0,-30*a],
 [0,0,10,0,0,0,-80*a],
 [0,5,0,0,0,-125*a],
 [1,0,0,0,-125*a],
 [0,0,0,-80*a],
 [0,0,-30*a],
 [0,-5*a]]
theorem Amw (a b c:Int):∀ u v,u+v≤10→cv2 (pc (Sx a b c)) (pc (Er a b c)) u v=pc (Sw a b c) u v:=by
 intro u v h
 obtain hu:=cs11 (show u≤10 by omega)
 obtain hv:=cs11 (show v≤10 by omega)
 rcases hu with rfl|rfl|rfl|rfl|rfl|rfl|rfl|rfl|rfl|rfl|rfl <;> rcases hv with rfl|rfl|rfl|rfl|rfl|rfl|rfl|rfl|rfl|rfl|rfl <;> first|omega|(simp only [cv2,sm,Nat.reduceSub,pc,Er,Sx,Sw,at',List.getD_cons_succ,List.getD_cons_zero,List.getD_nil];grind)
theorem Ai2 (a b c:Int):∀ u v,u+v≤10→125*tyA 5 a b c 0*pc (Er a b c) u v+25*tyA 5 a b c 1*pc (Sw a b c) u v=125*tyA 5 a b c 0*tyX 1 u v+25*tyA 5 a b c 1*tyX 5 u v:=by
 intro u v h
 obtain hu:=cs11 (show u≤10 by omega)
 obtain hv:=cs11 (show v≤10 by omega)
 rcases hu with rfl|rfl|rfl|rfl|rfl|rfl|rfl|rfl|rfl|rfl|rfl <;> rcases hv with rfl|rfl|rfl|rfl|rfl|rfl|rfl|rfl|rfl|rfl|rfl <;> first|omega|(simp only [tyA,tyX,pc,Er,Sw,at',List.getD_cons_succ,List.getD_cons_zero,List.getD_nil];grind)
theorem Alr (a b c:Int):∀ u,u≤10→pc (Er a b c) u 0=(if u=1 then 1 else 0)∧pc (Er a b c) 0 u=(if u=1 then 1 else 0):=by
 intro u h
 obtain hu:=cs11 h
 rcases hu with rfl|rfl|rfl|rfl|rfl|rfl|rfl|rfl|rfl|rfl|rfl <;> exact ⟨rfl,rfl⟩
theorem Ak2 (a b c:Int):∀ u v,u+v≤5→pc (Er a b c) u v=pc (Er 0 0 0) u v-a*tyC 5 u v:=by
 intro u v h
 obtain hu:=cs11 (show u≤10 by omega)
 obtain hv:=cs11 (show v≤10 by omega)
 rcases hu with rfl|rfl|rfl|rfl|rfl|rfl|rfl|rfl|rfl|rfl|rfl <;> rcases hv with rfl|rfl|rfl|rfl|rfl|rfl|rfl|rfl|rfl|rfl|rfl <;> first|omega|(simp only [tyC,cocL,pc,Er,at',List.getD_cons_succ,List.getD_cons_zero,List.getD_nil];grind)
def Eq (a b c:Int):List (List Int):=[
 [0,1],
 [1,0,0,0,0,0,-1*a],
 [0,0,0,0,0,-3*a],
 [0,0,0,0,-5*a],
 [0,0,0,-5*a],
 [0,0,-3*a],
 [0,-1*a]]
def Kl (a b c:Int):List (List Int):=[
 [0,0,1],
 [0,2,0,0,0,0,0,-2*a],
 [1,0,0,0,0,0,-8*a],
 [0,0,0,0,0,-16*a],
 [0,0,0,0,-20*a],
 [0,0,0,-16*a],
 [0,0,-8*a],
 [0,-2*a]]
theorem Ama (a b c:Int):∀ u v,u+v≤10→cv2 (pc (Eq a b c)) (pc (Eq a b c)) u v=pc (Kl a b c) u v:=by
 intro u v h
 obtain hu:=cs11 (show u≤10 by omega)
 obtain hv:=cs11 (show v≤10 by omega)
 rcases hu with rfl|rfl|rfl|rfl|rfl|rfl|rfl|rfl|rfl|rfl|rfl <;> rcases hv with rfl|rfl|rfl|rfl|rfl|rfl|rfl|rfl|rfl|rfl|rfl <;> first|omega|(simp only [cv2,sm,Nat.reduceSub,pc,Eq,Kl,at',List.getD_cons_succ,List.getD_cons_zero,List.getD_nil];grind)
def S3 (a b c:Int):List (List Int):=[
 [0,0,0,0,1],
 [0,0,0,4,0,0,0,0,0,-4*a],
 [0,0,6,0,0,0,0,0,-24*a],
 [0,4,0,0,0,0,0,-68*a],
 [1,0,0,0,0,0,-120*a],
 [0,0,0,0,0,-144*a],
 [0,0,0,0,-120*a],
 [0,0,0,-68*a],
 [0,0,-24*a],
 [0,-4*a]]
theorem Akq (a b c:Int):∀ u v,u+v≤10→cv2 (pc (Kl a b c)) (pc (Kl a b c)) u v=pc (S3 a b c) u v:=by
 intro u v h
 obtain hu:=cs11 (show u≤10 by omega)
 obtain hv:=cs11 (show v≤10 by omega)
 rcases hu with rfl|rfl|rfl|rfl|rfl|rfl|rfl|rfl|rfl|rfl|rfl <;> rcases hv with rfl|rfl|rfl|rfl|rfl|rfl|rfl|rfl|rfl|rfl|rfl <;> first|omega|(simp only [cv2,sm,Nat.reduceSub,pc,Kl,S3,at',List.getD_cons_succ,List.getD_cons_zero,List.getD_nil];grind)
def Sy (a b c:Int):List (List Int):=[
 [0,0,0,0,0,0,1],
 [0,0,0,0,0,6],
 [0,0,0,0,15],
 [0,0,0,20],
 [0,0,15],
 [0,6],
 [1]]
theorem Amr (a b c:Int):∀ u v,u+v≤10→cv2 (pc (S3 a b c)) (pc (Kl a b c)) u v=pc (Sy a b c) u v:=by
 intro u v h
 obtain hu:=cs11 (show u≤10 by omega)
 obtain hv:=cs11 (show v≤10 by omega)
 rcases hu with rfl|rfl|rfl|rfl|rfl|rfl|rfl|rfl|rfl|rfl|rfl <;> rcases hv with rfl|rfl|rfl|rfl|rfl|rfl|rfl|rfl|rfl|rfl|rfl <;> first|omega|(simp only [cv2,sm,Nat.reduceSub,pc,Kl,S3,Sy,at',List.getD_cons_succ,List.getD_cons_zero,List.getD_nil];grind)
def S0 (a b c:Int):List (List Int):=[
 [0,0,0,0,0,0,0,1],
 [0,0,0,0,0,0,7],
 [0,0,0,0,0,21],
 [0,0,0,0,35],
 [0,0,0,35],
 [0,0,21],
 [0,7],
 [1]]
theorem Ak6 (a b c:Int):∀ u v,u+v≤10→cv2 (pc (Sy a b c)) (pc (Eq a b c)) u v=pc (S0 a b c) u v:=by
 intro u v h
 obtain hu:=cs11 (show u≤10 by omega)
 obtain hv:=cs11 (show v≤10 by omega)
 rcases hu with rfl|rfl|rfl|rfl|rfl|rfl|rfl|rfl|rfl|rfl|rfl <;> rcases hv with rfl|rfl|rfl|rfl|rfl|rfl|rfl|rfl|rfl|rfl|rfl <;> first|omega|(simp only [cv2,sm,Nat.reduceSub,pc,Eq,Sy,S0,at',List.getD_cons_succ,List.getD_cons_zero,List.getD_nil];grind)
theorem Aj9 (a b c:Int):∀ u v,u+v≤10→343*tyA 7 a b c 0*pc (Eq a b c) u v+49*tyA 7 a b c 1*pc (S0 a b c) u v=343*tyA 7 a b c 0*tyX 1 u v+49*tyA 7 a b c 1*tyX 7 u v:=by
 intro u v h
 obtain hu:=cs11 (show u≤10 by omega)
 obtain hv:=cs11 (show v≤10 by omega)
 rcases hu with rfl|rfl|rfl|rfl|rfl|rfl|rfl|rfl|rfl|rfl|rfl <;> rcases hv with rfl|rfl|rfl|rfl|rfl|rfl|rfl|rfl|rfl|rfl|rfl <;> first|omega|(simp only [tyA,tyX,pc,Eq,S0,at',List.getD_cons_succ,List.getD_cons_zero,List.getD_nil];grind)
theorem Ams (a b c:Int):∀ u,u≤10→pc (Eq a b c) u 0=(if u=1 then 1 else 0)∧pc (Eq a b c) 0 u=(if u=1 then 1 else 0):=by
 intro u h
 obtain hu:=cs11 h
 rcases hu with rfl|rfl|rfl|rfl|rfl|rfl|rfl|rfl|rfl|rfl|rfl <;> exact ⟨rfl,rfl⟩
theorem Amt (a b c:Int):∀ u v,u+v≤7→pc (Eq a b c) u v=pc (Eq 0 0 0) u v-a*tyC 7 u v:=by
 intro u v h
 obtain hu:=cs11 (show u≤10 by omega)
 obtain hv:=cs11 (show v≤10 by omega)
 rcases hu with rfl|rfl|rfl|rfl|rfl|rfl|rfl|rfl|rfl|rfl|rfl <;> rcases hv with rfl|rfl|rfl|rfl|rfl|rfl|rfl|rfl|rfl|rfl|rfl <;> first|omega|(simp only [tyC,cocL,pc,Eq,at',List.getD_cons_succ,List.getD_cons_zero,List.getD_nil];grind)
end Go.Proofs.YtapdekacpecgiaaGreat
