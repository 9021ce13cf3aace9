import Derived.Test.YtapdekacpecgiaaGreatLc
import Derived.Test.YtapdekacpecgiaaGreatVz
import Derived.Laws.MathBits
import Derived.Lib.Tables
namespace Go.Proofs.YtapdekacpecgiaaGreat
open Go.RowKit
set_option linter.unusedSimpArgs false
set_option linter.unusedVariables false
set_option linter.unusedSectionVars false
set_option maxRecDepth 20000
set_option maxHeartbeats 1000000
theorem and32 (z:Int) (h0:0≤z) (h1:z<18446744073709551616):((BitVec.ofInt 64 z &&& 4294967295#64).toNat:Int)%18446744073709551616=z%4294967296:=by
 have h:andI .u64 z 4294967295=z%4294967296:=Go.and_low32 z h0 h1
 rw [andI,IntKind.wrap_u64] at h
 exact h
theorem shr32 (z:Int):shrI .u64 z 32=z/4294967296:=by
 show z.fdiv (2^32)=_
 rw [Int.fdiv_eq_ediv_of_nonneg _ (by omega)];rfl
theorem Nn (x y:Int) (hx:0≤x) (hx2:x<18446744073709551616) (hy:0≤y) (hy2:y<18446744073709551616):AFn Tryz.prog 241 [.int .u64 x,.int .u64 y] (.tup [.int .u64 (x*y/18446744073709551616),.int .u64 (x*y%18446744073709551616)]):=by
 refine fO Tryz.func241 Tryz.ntmps241 (by rw [Tryz.results241]) fun C hP hM hC=>?_
 have e1:=and32 x hx hx2
 have e2:=and32 y hy hy2
 have ht:=Ag (x/4294967296*(y%4294967296)%18446744073709551616+x%4294967296*(y%4294967296)%18446744073709551616/4294967296) 18446744073709551616 (by omega)
 have e3:=and32 _ ht.1 ht.2
 (repeat (first|((with_reducible refine rC rfl fun K hK=>?_);simp only [go_sem,seval,↓reduceIte,shr32,IntKind.wrap_u64];refine hK _ _ _ ?_;clear hK K)|refine sT ?_))
 have e:=Go.mul64_arith x y hx hx2 hy hy2
 rw [← e3,← e1,← e2] at e
 refine rt2 ?_
 rw [← e]
 rfl
def ltn (x:Int):Int:=(Go.bitLen x.toNat:Int)
theorem Vw:(⟨((List.append [0,1,2,2,3,3,3,3,4,4,4,4,4,4,4,4,5,5,5,5,5,5,5,5,5,5,5,5,5,5,5,5,6,6,6,6,6,6,6,6,6,6,6,6,6,6,6,6,6,6,6,6,6,6,6,6,6,6,6,6,6,6,6,6] [7,7,7,7,7,7,7,7,7,7,7,7,7,7,7,7,7,7,7,7,7,7,7,7,7,7,7,7,7,7,7,7,7,7,7,7,7,7,7,7,7,7,7,7,7,7,7,7,7,7,7,7,7,7,7,7,7,7,7,7,7,7,7,7]).append (List.append [8,8,8,8,8,8,8,8,8,8,8,8,8,8,8,8,8,8,8,8,8,8,8,8,8,8,8,8,8,8,8,8,8,8,8,8,8,8,8,8,8,8,8,8,8,8,8,8,8,8,8,8,8,8,8,8,8,8,8,8,8,8,8,8] [8,8,8,8,8,8,8,8,8,8,8,8,8,8,8,8,8,8,8,8,8,8,8,8,8,8,8,8,8,8,8,8,8,8,8,8,8,8,8,8,8,8,8,8,8,8,8,8,8,8,8,8,8,8,8,8,8,8,8,8,8,8,8,8])).toArray⟩:ByteArray)=Go.Lib.len8tab:=rfl
theorem Gw:strN (⟨((List.append [0,1,2,2,3,3,3,3,4,4,4,4,4,4,4,4,5,5,5,5,5,5,5,5,5,5,5,5,5,5,5,5,6,6,6,6,6,6,6,6,6,6,6,6,6,6,6,6,6,6,6,6,6,6,6,6,6,6,6,6,6,6,6,6] [7,7,7,7,7,7,7,7,7,7,7,7,7,7,7,7,7,7,7,7,7,7,7,7,7,7,7,7,7,7,7,7,7,7,7,7,7,7,7,7,7,7,7,7,7,7,7,7,7,7,7,7,7,7,7,7,7,7,7,7,7,7,7,7]).append (List.append [8,8,8,8,8,8,8,8,8,8,8,8,8,8,8,8,8,8,8,8,8,8,8,8,8,8,8,8,8,8,8,8,8,8,8,8,8,8,8,8,8,8,8,8,8,8,8,8,8,8,8,8,8,8,8,8,8,8,8,8,8,8,8,8] [8,8,8,8,8,8,8,8,8,8,8,8,8,8,8,8,8,8,8,8,8,8,8,8,8,8,8,8,8,8,8,8,8,8,8,8,8,8,8,8,8,8,8,8,8,8,8,8,8,8,8,8,8,8,8,8,8,8,8,8,8,8,8,8])).toArray⟩:ByteArray)=256:=by rw [Vw];exact Go.Lib.len8tab_size
theorem Eu (x:Int) (h0:0≤x) (h1:x<256):strI (⟨((List.append [0,1,2,2,3,3,3,3,4,4,4,4,4,4,4,4,5,5,5,5,5,5,5,5,5,5,5,5,5,5,5,5,6,6,6,6,6,6,6,6,6,6,6,6,6,6,6,6,6,6,6,6,6,6,6,6,6,6,6,6,6,6,6,6] [7,7,7,7,7,7,7,7,7,7,7,7,7,7,7,7,7,7,7,7,7,7,7,7,7,7,7,7,7,7,7,7,7,7,7,7,7,7,7,7,7,7,7,7,7,7,7,7,7,7,7,7,7,7,7,7,7,7,7,7,7,7,7,7]).append (List.append [8,8,8,8,8,8,8,8,8,8,8,8,8,8,8,8,8,8,8,8,8,8,8,8,8,8,8,8,8,8,8,8,8,8,8,8,8,8,8,8,8,8,8,8,8,8,8,8,8,8,8,8,8,8,8,8,8,8,8,8,8,8,8,8] [8,8,8,8,8,8,8,8,8,8,8,8,8,8,8,8,8,8,8,8,8,8,8,8,8,8,8,8,8,8,8,8,8,8,8,8,8,8,8,8,8,8,8,8,8,8,8,8,8,8,8,8,8,8,8,8,8,8,8,8,8,8,8,8])).toArray⟩:ByteArray) x=ltn x:=by
 have h:x.toNat<Go.Lib.len8tab.size:=by rw [Go.Lib.len8tab_size];omega
 have e:Go.Lib.len8tab[x.toNat]? = some (Go.Lib.len8tab[x.toNat]'h):=by simp [h]
 rw [Vw,strI,e]
 exact congrArg Int.ofNat (Go.len8tab_get x.toNat h)
theorem shr16 (z:Int):shrI .u64 z 16=z/65536:=by
 show z.fdiv (2^16)=_
 rw [Int.fdiv_eq_ediv_of_nonneg _ (by omega)];rfl
theorem shr8 (z:Int):shrI .u64 z 8=z/256:=by
 show z.fdiv (2^8)=_
 rw [Int.fdiv_eq_ediv_of_nonneg _ (by omega)];rfl
theorem Uw (x:Int) (b:Nat) (B:Int) (hB:((2^b:Nat):Int)=B) (h:B≤x):ltn x=b+ltn (x/B):=by
 have hp:0<2^b:=Nat.two_pow_pos b
 have e:(x/B).toNat=x.toNat/2^b:=by
  have hx:x=(x.toNat:Int):=by
   have:(0:Int)≤((2^b:Nat):Int):=Int.natCast_nonneg _
   omega
  have e1:x/B=((x.toNat/2^b:Nat):Int):=by rw [Int.natCast_ediv,← hx,hB]
  rw [e1,Int.toNat_natCast]
 have h1:x.toNat/2^b≠0:=Nat.ne_of_gt (Nat.div_pos (by omega) hp)
 rw [ltn,ltn,e,Go.bitLen_shift x.toNat b h1,Int.natCast_add]
theorem O8 (x:Int) (h:4294967296≤x):ltn x=32+ltn (x/4294967296):=Uw x 32 _ rfl h
theorem O7 (x:Int) (h:65536≤x):ltn x=16+ltn (x/65536):=Uw x 16 _ rfl h
theorem Sz (x:Int) (h:256≤x):ltn x=8+ltn (x/256):=Uw x 8 _ rfl h
theorem I1 (x:Int) (h0:0≤x) (h1:x<256):0≤ltn x∧ltn x≤8:=by
 have:=Go.bitLen_le8 x.toNat (by omega)
 unfold ltn;omega
theorem wrapu8 (z:Int):IntKind.u8.wrap z=z%256:=IntKind.wrap_u8' z
theorem Ni (x:Int) (hx:0≤x) (hx2:x<18446744073709551616):AFn Tryz.prog 273 [.int .u64 x] (.int .i64 (ltn x)):=by
 refine fO Tryz.func273 Tryz.ntmps273 (by rw [Tryz.results273]) fun C hP hM hC=>?_
 by_cases h1:4294967296≤x
 ·by_cases h2:65536≤x/4294967296
  ·by_cases h3:256≤x/4294967296/65536
   ·have g2:=Sz (x/4294967296/65536) h3
    have g1:=O7 (x/4294967296) h2
    have g0:=O8 (x) h1
    have hl:=Eu (x/4294967296/65536/256) (by omega) (by omega)
    have hb:=I1 (x/4294967296/65536/256) (by omega) (by omega)
    (repeat (first|((with_reducible refine rC rfl fun K hK=>?_);simp only [go_sem,seval,↓reduceIte,shr32,shr16,shr8,h1,h2,h3,Gw,hl,show IntKind.i64.wrap 32=32 from rfl,show IntKind.i64.wrap (32+16)=48 from rfl,show IntKind.i64.wrap 48=48 from rfl,show IntKind.i64.wrap 40=40 from rfl,show IntKind.i64.wrap (32+8)=40 from rfl,show IntKind.i64.wrap (48+8)=56 from rfl,show IntKind.i64.wrap (16+8)=24 from rfl,show IntKind.i64.wrap 16=16 from rfl,show IntKind.i64.wrap 24=24 from rfl,show IntKind.i64.wrap 8=8 from rfl,show IntKind.i64.wrap 56=56 from rfl,show (0:Int)≤x/4294967296/65536/256 by omega,show x/4294967296/65536/256<256 by omega,show IntKind.u8.wrap (x/4294967296/65536/256)=x/4294967296/65536/256 by rw [wrapu8];omega,wid (ltn (x/4294967296/65536/256)) (by omega) (by omega),wid ((56:Int)+ltn (x/4294967296/65536/256)) (by omega) (by omega)];refine hK _ _ _ ?_;clear hK K)|refine sT ?_))
    refine rt1 ?_
    exact congrArg (T.int .i64) (by omega)
   ·have g1:=O7 (x/4294967296) h2
    have g0:=O8 (x) h1
    have hl:=Eu (x/4294967296/65536) (by omega) (by omega)
    have hb:=I1 (x/4294967296/65536) (by omega) (by omega)
    (repeat (first|((with_reducible refine rC rfl fun K hK=>?_);simp only [go_sem,seval,↓reduceIte,shr32,shr16,shr8,h1,h2,h3,Gw,hl,show IntKind.i64.wrap 32=32 from rfl,show IntKind.i64.wrap (32+16)=48 from rfl,show IntKind.i64.wrap 48=48 from rfl,show IntKind.i64.wrap 40=40 from rfl,show IntKind.i64.wrap (32+8)=40 from rfl,show IntKind.i64.wrap (48+8)=56 from rfl,show IntKind.i64.wrap (16+8)=24 from rfl,show IntKind.i64.wrap 16=16 from rfl,show IntKind.i64.wrap 24=24 from rfl,show IntKind.i64.wrap 8=8 from rfl,show IntKind.i64.wrap 56=56 from rfl,show (0:Int)≤x/4294967296/65536 by omega,show x/4294967296/65536<256 by omega,show IntKind.u8.wrap (x/4294967296/65536)=x/4294967296/65536 by rw [wrapu8];omega,wid (ltn (x/4294967296/65536)) (by omega) (by omega),wid ((48:Int)+ltn (x/4294967296/65536)) (by omega) (by omega)];refine hK _ _ _ ?_;clear hK K)|refine sT ?_))
    refine rt1 ?_
    exact congrArg (T.int .i64) (by omega)
  ·by_cases h3:256≤x/4294967296
   ·have g1:=Sz (x/4294967296) h3
    have g0:=O8 (x) h1
    have hl:=Eu (x/4294967296/256) (by omega) (by omega)
    have hb:=I1 (x/4294967296/256) (by omega) (by omega)
    (repeat (first|((with_reducible refine rC rfl fun K hK=>?_);simp only [go_sem,seval,↓reduceIte,shr32,shr16,shr8,h1,h2,h3,Gw,hl,show IntKind.i64.wrap 32=32 from rfl,show IntKind.i64.wrap (32+16)=48 from rfl,show IntKind.i64.wrap 48=48 from rfl,show IntKind.i64.wrap 40=40 from rfl,show IntKind.i64.wrap (32+8)=40 from rfl,show IntKind.i64.wrap (48+8)=56 from rfl,show IntKind.i64.wrap (16+8)=24 from rfl,show IntKind.i64.wrap 16=16 from rfl,show IntKind.i64.wrap 24=24 from rfl,show IntKind.i64.wrap 8=8 from rfl,show IntKind.i64.wrap 56=56 from rfl,show (0:Int)≤x/4294967296/256 by omega,show x/4294967296/256<256 by omega,show IntKind.u8.wrap (x/4294967296/256)=x/4294967296/256 by rw [wrapu8];omega,wid (ltn (x/4294967296/256)) (by omega) (by omega),wid ((40:Int)+ltn (x/4294967296/256)) (by omega) (by omega)];refine hK _ _ _ ?_;clear hK K)|refine sT ?_))
    refine rt1 ?_
    exact congrArg (T.int .i64) (by omega)
   ·have g0:=O8 (x) h1
    have hl:=Eu (x/4294967296) (by omega) (by omega)
    have hb:=I1 (x/4294967296) (by omega) (by omega)
    (repeat (first|((with_reducible refine rC rfl fun K hK=>?_);simp only [go_sem,seval,↓reduceIte,shr32,shr16,shr8,h1,h2,h3,Gw,hl,show IntKind.i64.wrap 32=32 from rfl,show IntKind.i64.wrap (32+16)=48 from rfl,show IntKind.i64.wrap 48=48 from rfl,show IntKind.i64.wrap 40=40 from rfl,show IntKind.i64.wrap (32+8)=40 from rfl,show IntKind.i64.wrap (48+8)=56 from rfl,show IntKind.i64.wrap (16+8)=24 from rfl,show IntKind.i64.wrap 16=16 from rfl,show IntKind.i64.wrap 24=24 from rfl,show IntKind.i64.wrap 8=8 from rfl,show IntKind.i64.wrap 56=56 from rfl,show (0:Int)≤x/4294967296 by omega,show x/4294967296<256 by omega,show IntKind.u8.wrap (x/4294967296)=x/4294967296 by rw [wrapu8];omega,wid (ltn (x/4294967296)) (by omega) (by omega),wid ((32:Int)+ltn (x/4294967296)) (by omega) (by omega)];refine hK _ _ _ ?_;clear hK K)|refine sT ?_))
    refine rt1 ?_
    exact congrArg (T.int .i64) (by omega)
 ·by_cases h2:65536≤x
  ·by_cases h3:256≤x/65536
   ·have g1:=Sz (x/65536) h3
    have g0:=O7 (x) h2
    have hl:=Eu (x/65536/256) (by omega) (by omega)
    have hb:=I1 (x/65536/256) (by omega) (by omega)
    (repeat (first|((with_reducible refine rC rfl fun K hK=>?_);simp only [go_sem,seval,↓reduceIte,shr32,shr16,shr8,h1,h2,h3,Gw,hl,show IntKind.i64.wrap 32=32 from rfl,show IntKind.i64.wrap (32+16)=48 from rfl,show IntKind.i64.wrap 48=48 from rfl,show IntKind.i64.wrap 40=40 from rfl,show IntKind.i64.wrap (32+8)=40 from rfl,show IntKind.i64.wrap (48+8)=56 from rfl,show IntKind.i64.wrap (16+8)=24 from rfl,show IntKind.i64.wrap 16=16 from rfl,show IntKind.i64.wrap 24=24 from rfl,show IntKind.i64.wrap 8=8 from rfl,show IntKind.i64.wrap 56=56 from rfl,show (0:Int)≤x/65536/256 by omega,show x/65536/256<256 by omega,show IntKind.u8.wrap (x/65536/256)=x/65536/256 by rw [wrapu8];omega,wid (ltn (x/65536/256)) (by omega) (by omega),wid ((24:Int)+ltn (x/65536/256)) (by omega) (by omega)];refine hK _ _ _ ?_;clear hK K)|refine sT ?_))
    refine rt1 ?_
    exact congrArg (T.int .i64) (by omega)
   ·have g0:=O7 (x) h2
    have hl:=Eu (x/65536) (by omega) (by omega)
    have hb:=I1 (x/65536) (by omega) (by omega)
    (repeat (first|((with_reducible refine rC rfl fun K hK=>?_);simp only [go_sem,seval,↓reduceIte,shr32,shr16,shr8,h1,h2,h3,Gw,hl,show IntKind.i64.wrap 32=32 from rfl,show IntKind.i64.wrap (32+16)=48 from rfl,show IntKind.i64.wrap 48=48 from rfl,show IntKind.i64.wrap 40=40 from rfl,show IntKind.i64.wrap (32+8)=40 from rfl,show IntKind.i64.wrap (48+8)=56 from rfl,show IntKind.i64.wrap (16+8)=24 from rfl,show IntKind.i64.wrap 16=16 from rfl,show IntKind.i64.wrap 24=24 from rfl,show IntKind.i64.wrap 8=8 from rfl,show IntKind.i64.wrap 56=56 from rfl,show (0:Int)≤x/65536 by omega,show x/65536<256 by omega,show IntKind.u8.wrap (x/65536)=x/65536 by rw [wrapu8];omega,wid (ltn (x/65536)) (by omega) (by omega),wid ((16:Int)+ltn (x/65536)) (by omega) (by omega)];refine hK _ _ _ ?_;clear hK K)|refine sT ?_))
    refine rt1 ?_
    exact congrArg (T.int .i64) (by omega)
  ·by_cases h3:256≤x
   ·have g0:=Sz (x) h3
    have hl:=Eu (x/256) (by omega) (by omega)
    have hb:=I1 (x/256) (by omega) (by omega)
    (repeat (first|((with_reducible refine rC rfl fun K hK=>?_);simp only [go_sem,seval,↓reduceIte,shr32,shr16,shr8,h1,h2,h3,Gw,hl,show IntKind.i64.wrap 32=32 from rfl,show IntKind.i64.wrap (32+16)=48 from rfl,show IntKind.i64.wrap 48=48 from rfl,show IntKind.i64.wrap 40=40 from rfl,show IntKind.i64.wrap (32+8)=40 from rfl,show IntKind.i64.wrap (48+8)=56 from rfl,show IntKind.i64.wrap (16+8)=24 from rfl,show IntKind.i64.wrap 16=16 from rfl,show IntKind.i64.wrap 24=24 from rfl,show IntKind.i64.wrap 8=8 from rfl,show IntKind.i64.wrap 56=56 from rfl,show (0:Int)≤x/256 by omega,show x/256<256 by omega,show IntKind.u8.wrap (x/256)=x/256 by rw [wrapu8];omega,wid (ltn (x/256)) (by omega) (by omega),wid ((8:Int)+ltn (x/256)) (by omega) (by omega)];refine hK _ _ _ ?_;clear hK K)|refine sT ?_))
    refine rt1 ?_
    exact congrArg (T.int .i64) (by omega)
   ·have hl:=Eu (x) (by omega) (by omega)
    have hb:=I1 (x) (by omega) (by omega)
    (repeat (first|((with_reducible refine rC rfl fun K hK=>?_);simp only [go_sem,seval,↓reduceIte,shr32,shr16,shr8,h1,h2,h3,Gw,hl,show IntKind.i64.wrap 32=32 from rfl,show IntKind.i64.wrap (32+16)=48 from rfl,show IntKind.i64.wrap 48=48 from rfl,show IntKind.i64.wrap 40=40 from rfl,show IntKind.i64.wrap (32+8)=40 from rfl,show IntKind.i64.wrap (48+8)=56 from rfl,show IntKind.i64.wrap (16+8)=24 from rfl,show IntKind.i64.wrap 16=16 from rfl,show IntKind.i64.wrap 24=24 from rfl,show IntKind.i64.wrap 8=8 from rfl,show IntKind.i64.wrap 56=56 from rfl,show (0:Int)≤x by omega,show x<256 by omega,show IntKind.u8.wrap (x)=x by rw [wrapu8];omega,wid (ltn (x)) (by omega) (by omega),wid ((0:Int)+ltn (x)) (by omega) (by omega)];refine hK _ _ _ ?_;clear hK K)|refine sT ?_))
    refine rt1 ?_
    rw [Int.zero_add]
theorem Hf (x:Int) (hx:0≤x) (hx2:x<18446744073709551616) (hl:0≤ltn x∧ltn x≤64):AFn Tryz.prog 263 [.int .u64 x] (.int .i64 (64-ltn x)):=by
 refine fO Tryz.func263 Tryz.ntmps263 (by rw [Tryz.results263]) fun C hP hM hC=>?_
 (repeat (first|((with_reducible refine rC rfl fun K hK=>?_);simp only [go_sem,seval,↓reduceIte,wid (64-ltn x) (by omega) (by omega)];(first|refine hK _ _ _ ?_|refine ⟨_,Ni x hx hx2,hK _ _ _ ?_⟩);clear hK K)|refine sT ?_))
 refine rt1 ?_
 rfl
theorem wrapu {z:Int} (h0:0≤z) (h1:z<18446744073709551616):IntKind.u64.wrap z=z:=by rw [IntKind.wrap_u64];omega
theorem shlU {z s:Int} {n:Nat} (hs:s=(n:Int)) (hn:n≤64):shlI .u64 z s=z*2^n%18446744073709551616:=by
 subst hs
 show IntKind.u64.wrap (z*2^(min (n:Int).toNat 64))=_
 rw [IntKind.wrap_u64,Int.toNat_natCast,Nat.min_eq_left hn]
theorem shrU {z s:Int} {n:Nat} (hs:s=(n:Int)) (hn:n≤64):shrI .u64 z s=z/2^n:=by
 subst hs
 show z.fdiv (2^(min (n:Int).toNat 64))=_
 rw [Int.toNat_natCast,Nat.min_eq_left hn,Int.fdiv_eq_ediv_of_nonneg _ (Int.le_of_lt (Int.pow_pos (by omega)))]
theorem Aj1 (y:Int) (h0:0<y) (h1:y<18446744073709551616):∃ s:Nat,s≤63∧ltn y=64-(s:Int)∧9223372036854775808≤y*2^s∧y*2^s<18446744073709551616:=by
 obtain ⟨a,b⟩:=Go.bitLen_spec y.toNat
 have b:=b (by omega)
 have hL:Go.bitLen y.toNat≤64:=by
  refine Nat.le_of_not_lt fun h=>?_
  have h2:2^64≤2^(Go.bitLen y.toNat-1):=Nat.pow_le_pow_right (by omega) (by omega)
  omega
 have hL0:1≤Go.bitLen y.toNat:=by
  refine Nat.le_of_not_lt fun h=>?_
  rw [show Go.bitLen y.toNat=0 by omega] at a
  omega
 refine ⟨64-Go.bitLen y.toNat,by omega,by unfold ltn;omega,?_,?_⟩
 ·have e:2^(Go.bitLen y.toNat-1)*2^(64-Go.bitLen y.toNat)≤y.toNat*2^(64-Go.bitLen y.toNat):=Nat.mul_le_mul_right _ b
  rw [← Nat.pow_add,show Go.bitLen y.toNat-1+(64-Go.bitLen y.toNat)=63 by omega] at e
  have e2:y*2^(64-Go.bitLen y.toNat)=((y.toNat*2^(64-Go.bitLen y.toNat):Nat):Int):=by
   rw [Int.natCast_mul,Int.natCast_pow];congr 1;omega
  rw [e2];omega
 ·have e:y.toNat*2^(64-Go.bitLen y.toNat)<2^Go.bitLen y.toNat*2^(64-Go.bitLen y.toNat):=Nat.mul_lt_mul_of_pos_right a (Nat.two_pow_pos _)
  rw [← Nat.pow_add,show Go.bitLen y.toNat+(64-Go.bitLen y.toNat)=64 by omega] at e
  have e2:y*2^(64-Go.bitLen y.toNat)=((y.toNat*2^(64-Go.bitLen y.toNat):Nat):Int):=by
   rw [Int.natCast_mul,Int.natCast_pow];congr 1;omega
  rw [e2];omega
theorem Vv {U v1 v0 u:Int} (hv1:0<v1) (hv0:0≤v0) (hU:0≤U) (hu:u<4294967296):U*4294967296+u<(U/v1+1)*(v1*4294967296+v0):=by
 have h1:=Int.mul_ediv_add_emod U v1
 have h2:=Int.emod_lt_of_pos U hv1
 have hq:=Int.ediv_nonneg hU (Int.le_of_lt hv1)
 generalize U/v1=q at *
 have e1:(q+1)*(v1*4294967296+v0)=(v1*q+v1)*4294967296+(q+1)*v0:=by grind
 have e2:0≤(q+1)*v0:=Int.mul_nonneg (by omega) hv0
 rw [e1];omega
theorem Q4 {U v1 v0 u q r:Int} (hU:U=q*v1+r) (h:q*v0≤4294967296*r+u):q*(v1*4294967296+v0)≤U*4294967296+u:=by
 have e1:q*(v1*4294967296+v0)=q*v1*4294967296+q*v0:=by grind
 rw [e1,hU];omega
theorem Yx {U v1 v0 u q r:Int} (hU:U=q*v1+r) (hV:U<v1*4294967296+v0) (hu:u<4294967296) (hv:0≤v1*4294967296+v0) (h:4294967296≤q∨4294967296*r+u<q*v0):U*4294967296+u<q*(v1*4294967296+v0):=by
 have e1:q*(v1*4294967296+v0)=q*v1*4294967296+q*v0:=by grind
 rcases h with h|h
 ·have h2:4294967296*(v1*4294967296+v0)≤q*(v1*4294967296+v0):=Int.mul_le_mul_of_nonneg_right h hv
  omega
 ·rw [e1,hU];omega
theorem Ks {U v1 v0 u q r:Int} (hv1:0<v1) (hq:0≤q) (hU:U=q*v1+r) (hV:U<v1*4294967296+v0) (hv0:0≤v0∧v0<4294967296) (hu:0≤u) (hr:4294967296≤r):q*(v1*4294967296+v0)≤U*4294967296+u:=by
 refine Q4 hU ?_
 have h1:q<4294967296:=by
  refine Int.lt_of_not_ge fun h=>?_
  have:=Int.mul_le_mul_of_nonneg_right h (Int.le_of_lt hv1)
  have e:4294967296*v1=v1*4294967296:=Int.mul_comm _ _
  omega
 have h2:q*v0≤4294967296*4294967296:=Int.mul_le_mul (by omega) (by omega) hv0.1 (by omega)
 omega
theorem Amd {N y Q R:Int} {s:Nat} (h:N*2^s=Q*(y*2^s)+R) (h0:0≤R) (h1:R<y*2^s):N/y=Q∧N%y=R/2^s:=by
 have hp:(0:Int)<2^s:=Int.pow_pos (by omega)
 have e:R=(N-Q*y)*2^s:=by rw [Int.sub_mul,h];have:Q*(y*2^s)=Q*y*2^s:=(Int.mul_assoc _ _ _).symm;omega
 have e2:R/2^s=N-Q*y:=by rw [e];exact Int.mul_ediv_cancel _ (by omega)
 rw [e] at h0 h1
 have d0:0≤N-Q*y:=Int.nonneg_of_mul_nonneg_left h0 hp
 have d1:N-Q*y<y:=Int.lt_of_mul_lt_mul_right h1 (Int.le_of_lt hp)
 have hy:0<y:=by omega
 have f:N=N-Q*y+Q*y:=by omega
 have g1:N/y=Q:=by rw [f,Int.add_mul_ediv_right _ _ (by omega),Int.ediv_eq_zero_of_lt d0 d1,Int.zero_add]
 refine ⟨g1,?_⟩
 rw [e2]
 have:=Int.mul_ediv_add_emod N y
 rw [g1,Int.mul_comm] at this
 omega
theorem Y6 {X V q:Int} (h0:q*V≤X) (h1:X<(q+1)*V):X/V=q∧X%V=X-q*V:=by
 have hV : 0 < V := by
   have:(q+1)*V=q*V+V:=by grind
   omega
 have e:X=X-q*V+q*V:=by omega
 have e2:(q+1)*V=q*V+V:=by grind
 have g:X/V=q:=by rw [e,Int.add_mul_ediv_right _ _ (by omega),Int.ediv_eq_zero_of_lt (by omega) (by omega),Int.zero_add]
 refine ⟨g,?_⟩
 have:=Int.mul_ediv_add_emod X V
 rw [g,Int.mul_comm] at this
 omega
theorem Ah8 {hi lo:Int} {s:Nat} (hs:s≤63) (hl:0≤lo):(hi*18446744073709551616+lo)*2^s=(hi*2^s+lo/2^(64-s))*18446744073709551616+lo*2^s%18446744073709551616:=by
 have hp:(0:Int)<2^s:=Int.pow_pos (by omega)
 have e:(18446744073709551616:Int)=2^(64-s)*2^s:=by rw [← Int.pow_add,show 64-s+s=64 by omega];rfl
 have h1:lo*2^s/18446744073709551616=lo/2^(64-s):=by rw [e];exact Int.mul_ediv_mul_of_pos_left _ _ hp
 have h2:=Int.mul_ediv_add_emod (lo*2^s) 18446744073709551616
 rw [h1] at h2
 have h3:(hi*18446744073709551616+lo)*2^s=hi*2^s*18446744073709551616+lo*2^s:=by grind
 rw [h3,Int.add_mul]
 omega
theorem Ak4 {lo:Int} {s:Nat} (hs:s≤63) (hl:0≤lo) (hl2:lo<18446744073709551616):0≤lo/2^(64-s)∧lo/2^(64-s)<2^s:=by
 have hp:(0:Int)<2^(64-s):=Int.pow_pos (by omega)
 have e:(18446744073709551616:Int)=2^s*2^(64-s):=by rw [← Int.pow_add,show s+(64-s)=64 by omega];rfl
 exact ⟨Int.ediv_nonneg hl (Int.le_of_lt hp),Int.ediv_lt_of_lt_mul hp (by rw [← e];exact hl2)⟩
theorem Amb {a b s:Nat} (hb:b<2^s):a*2^s ||| b=a*2^s+b:=by
 rw [← Nat.shiftLeft_eq,Nat.shiftLeft_add_eq_or_of_lt hb]
theorem orU {a b:Int} {s:Nat} (ha:0≤a) (hm:a*2^s+b<18446744073709551616) (hb:0≤b) (hb2:b<2^s):orI .u64 (a*2^s) b=a*2^s+b:=by
 have e1:a*2^s=((a.toNat*2^s:Nat):Int):=by
  rw [Int.natCast_mul,Int.natCast_pow,show ((a.toNat:Nat):Int)=a by omega];rfl
 have e2:b=((b.toNat:Nat):Int):=by omega
 have e3:((2^s:Nat):Int)=2^s:=by rw [Int.natCast_pow];rfl
 have hb3:b.toNat<2^s:=by omega
 have h:=Go.bits_or_u64_nat (a.toNat*2^s) b.toNat (by omega) (by omega)
 rw [e1,e2]
 show Go.bits .or .u64 _ _=_
 rw [h,Amb hb3];rfl
set_option maxHeartbeats 4000000 in
theorem K0 (hi lo y:Int) (h0:0<hi) (h1:hi<y) (hy:y<18446744073709551616) (hl:0≤lo) (hl2:lo<18446744073709551616):AFn Tryz.prog 242 [.int .u64 hi,.int .u64 lo,.int .u64 y] (.tup [.int .u64 ((hi*18446744073709551616+lo)/y),.int .u64 ((hi*18446744073709551616+lo)%y)]):=by
 refine fO Tryz.func242 Tryz.ntmps242 (by rw [Tryz.results242]) fun C hP hM hC=>?_
 obtain ⟨s,hs,hL,hV1,hV2⟩:=Aj1 y (by omega) hy
 have cL:=Hf y (by omega) hy (by omega)
 rw [hL,show (64:Int)-(64-(s:Int))=(s:Int) by omega] at cL
 have hp:(0:Int)<2^s:=Int.pow_pos (by omega)
 have hsp:=Ah8 (hi:=hi) hs hl
 have hlow:=Ak4 hs hl hl2
 have hUV:hi*2^s+lo/2^(64-s)<y*2^s:=by
  have a1:(hi*18446744073709551616+lo)*2^s<(y*18446744073709551616)*2^s:=Int.mul_lt_mul_of_pos_right (by omega) hp
  have a2:(y*18446744073709551616)*2^s=y*2^s*18446744073709551616:=by ac_rfl
  have a3:=Ag (lo*2^s) 18446744073709551616 (by omega)
  omega
 have hA:0≤hi*2^s:=Int.mul_nonneg (by omega) (by omega)
 have f1:=wrapu (z:=(s:Int)) (by omega) (by omega)
 have f2:shlI .u64 y (s:Int)=y*2^s:=by rw [shlU rfl (by omega),Int.emod_eq_of_lt (by omega) hV2]
 have f3:shlI .u64 hi (s:Int)=hi*2^s:=by rw [shlU rfl (by omega),Int.emod_eq_of_lt (by omega) (by omega)]
 have f4:IntKind.u64.wrap (64-(s:Int))=((64-s:Nat):Int):=by rw [wrapu (by omega) (by omega)];omega
 have f5:shrI .u64 lo ((64-s:Nat):Int)=lo/2^(64-s):=shrU rfl (by omega)
 have f6:orI .u64 (hi*2^s) (lo/2^(64-s))=hi*2^s+lo/2^(64-s):=orU (by omega) (by omega) hlow.1 hlow.2
 have f7:shlI .u64 lo (s:Int)=lo*2^s%18446744073709551616:=shlU rfl (by omega)
 have hLo:=Ag (lo*2^s) 18446744073709551616 (by omega)
 have fV:andI .u64 (y*2^s) 4294967295=y*2^s%4294967296:=Go.and_low32 _ (by omega) hV2
 have fL:andI .u64 (lo*2^s%18446744073709551616) 4294967295=lo*2^s%18446744073709551616%4294967296:=Go.and_low32 _ hLo.1 hLo.2
 have b1:(y==0)=false:=by simp;omega
 have b2:(hi==0)=false:=by simp;omega
 have f8:∀ z:Int,shrI .u64 z (s:Int)=z/2^s:=fun z=>shrU rfl (by omega)
 generalize hN:hi*18446744073709551616+lo=N at *
 generalize hUU:hi*2^s+lo/2^(64-s)=X at *
 generalize hLL:lo*2^s%18446744073709551616=L at *
 generalize hVV:y*2^s=V at *
 simp only [andI,orI,IntKind.bits,BitVec.ofInt_ofNat] at fV fL f6
 have hX:0≤X:=by omega
 have v1:2147483648≤V/4294967296∧V/4294967296<4294967296:=by omega
 have v0:0≤V%4294967296∧V%4294967296<4294967296:=by omega
 have vs:V=V/4294967296*4294967296+V%4294967296:=by omega
 have u1:0≤L/4294967296∧L/4294967296<4294967296:=by omega
 have u0:0≤L%4294967296∧L%4294967296<4294967296:=by omega
 refine AWP.tailR 15 [(15,⟨0,.val (.int .u64 ((X*4294967296+L/4294967296)/V))⟩),(11,⟨0,.val (.int .u64 X)⟩),(13,⟨0,.val (.int .u64 (L/4294967296))⟩),(14,⟨0,.val (.int .u64 (L%4294967296))⟩),(9,⟨0,.val (.int .u64 (V/4294967296))⟩),(10,⟨0,.val (.int .u64 (V%4294967296))⟩),(2,⟨0,.val (.int .u64 V)⟩),(8,⟨0,.val (.int .u64 (s:Int))⟩)] ?_ (fun R tail=>?_)
 ·simp only [dropSeq]
  have hX1:X*4294967296+L/4294967296<V*4294967296:=by omega
  have k0:=Ag (X*4294967296+L/4294967296) V (by omega)
  have k1:=Int.mul_ediv_add_emod (X*4294967296+L/4294967296) V
  rw [Int.mul_comm] at k1
  have k2:=Int.ediv_nonneg (show 0≤X*4294967296+L/4294967296 by omega) (show 0≤V by omega)
  generalize hq1:(X*4294967296+L/4294967296)/V=q1 at *
  generalize hYe:(X*4294967296+L/4294967296)%V=Y at *
  have k3:IntKind.u64.wrap (IntKind.u64.wrap (IntKind.u64.wrap (X*4294967296)+L/4294967296)-IntKind.u64.wrap (q1*V))=Y:=by
   simp only [IntKind.wrap_u64];omega
  have hY:0≤Y:=k0.1
  have k4:q1<4294967296:=by
   refine Int.lt_of_not_ge fun h=>?_
   have:4294967296*V≤q1*V:=Int.mul_le_mul_of_nonneg_right h (by omega)
   omega
  have hY1:Y*4294967296+L%4294967296<V*4294967296:=by omega
  refine AWP.tailR 4 [(15,⟨0,.val (.int .u64 q1)⟩),(18,⟨0,.val (.int .u64 ((Y*4294967296+L%4294967296)/V))⟩),(17,⟨0,.val (.int .u64 Y)⟩),(14,⟨0,.val (.int .u64 (L%4294967296))⟩),(2,⟨0,.val (.int .u64 V)⟩),(8,⟨0,.val (.int .u64 (s:Int))⟩)] ?_ (fun R2 tail2=>?_)
  ·simp only [dropSeq]
   have l0:=Ag (Y*4294967296+L%4294967296) V (by omega)
   have l1:=Int.mul_ediv_add_emod (Y*4294967296+L%4294967296) V
   rw [Int.mul_comm] at l1
   have l2:=Int.ediv_nonneg (show 0≤Y*4294967296+L%4294967296 by omega) (show 0≤V by omega)
   generalize hq0:(Y*4294967296+L%4294967296)/V=q0 at *
   generalize hZ:(Y*4294967296+L%4294967296)%V=Z at *
   have l3:IntKind.u64.wrap (IntKind.u64.wrap (IntKind.u64.wrap (Y*4294967296)+L%4294967296)-IntKind.u64.wrap (q0*V))=Z:=by
    simp only [IntKind.wrap_u64];omega
   have l4:q0<4294967296:=by
    refine Int.lt_of_not_ge fun h=>?_
    have:4294967296*V≤q0*V:=Int.mul_le_mul_of_nonneg_right h (by omega)
    omega
   have l5:IntKind.u64.wrap (IntKind.u64.wrap (q1*4294967296)+q0)=q1*4294967296+q0:=by
    simp only [IntKind.wrap_u64];omega
   have l6:=Amd (N:=N) (y:=y) (Q:=q1*4294967296+q0) (R:=Z) (s:=s) (by
    rw [hsp,hVV]
    have e1:(q1*4294967296+q0)*V=q1*V*4294967296+q0*V:=by grind
    rw [e1];omega) l0.1 (by rw [hVV];exact l0.2)
   (repeat (first|((with_reducible refine rC rfl fun K hK=>?_);simp only [go_sem,seval,↓reduceIte,l3,l5,f8,Int.natCast_nonneg];refine hK _ _ _ ?_;clear hK K)|refine sT ?_))
   refine rt2 ?_
   rw [l6.1,l6.2]
  ·simp only [putSeq]
   have g1:IntKind.u64.wrap (Y.tdiv (V/4294967296))=Y/(V/4294967296):=by
    rw [Int.tdiv_eq_ediv_of_nonneg hY,wrapu (Int.ediv_nonneg hY (by omega)) (by have:=Int.ediv_le_self (V/4294967296) hY;omega)]
   have g2:=Int.mul_ediv_add_emod Y (V/4294967296)
   have g3:=Ag Y (V/4294967296) (by omega)
   have g4:=Int.ediv_nonneg hY (show 0≤V/4294967296 by omega)
   have g5:IntKind.u64.wrap (Y/(V/4294967296)*(V/4294967296))=Y/(V/4294967296)*(V/4294967296):=wrapu (Int.mul_nonneg g4 (by omega)) (by rw [Int.mul_comm];omega)
   have g6:IntKind.u64.wrap (Y-Y/(V/4294967296)*(V/4294967296))=Y%(V/4294967296):=by rw [Int.mul_comm,wrapu (by omega) (by omega)];omega
   have g7:=Vv (v1:=V/4294967296) (v0:=V%4294967296) (by omega) v0.1 hY u0.2
   rw [← vs] at g7
   (repeat (first|((with_reducible refine rC rfl fun K hK=>?_);simp only [go_sem,seval,↓reduceIte,k3,g1,g5,g6,show V/4294967296≠0 by omega];refine hK _ _ _ ?_;clear hK K)|refine sT ?_))
   refine AWP.loop (fun w:Int×Int=>[(18,⟨0,.val (.int .u64 w.1)⟩),(16,⟨0,.val (.int .u64 w.2)⟩),(17,⟨0,.val (.int .u64 Y)⟩),(15,⟨0,.val (.int .u64 q1)⟩),(14,⟨0,.val (.int .u64 (L%4294967296))⟩),(9,⟨0,.val (.int .u64 (V/4294967296))⟩),(10,⟨0,.val (.int .u64 (V%4294967296))⟩),(2,⟨0,.val (.int .u64 V)⟩),(8,⟨0,.val (.int .u64 (s:Int))⟩)]) (fun w=>0≤w.1∧0≤w.2∧w.2<4294967296∧Y=w.1*(V/4294967296)+w.2∧Y*4294967296+L%4294967296<(w.1+1)*V) (fun w=>w.1.toNat) (Y/(V/4294967296),Y%(V/4294967296)) ⟨g4,g3.1,by simp only;omega,by simp only;rw [Int.mul_comm];omega,g7⟩ (fun w=>rfl) ?_ (fun w hw=>?_)
   ·simp [Sub,lk]
   ·obtain ⟨q,r⟩:=w
    simp only at hw ⊢
    obtain ⟨q9,r0,r1,eq,hub⟩:=hw
    have hq2:q*(V/4294967296)<18446744073709551616:=by omega
    have w1:IntKind.u64.wrap (4294967296*r)=4294967296*r:=wrapu (by omega) (by omega)
    have w2:IntKind.u64.wrap (4294967296*r+L%4294967296)=4294967296*r+L%4294967296:=wrapu (by omega) (by omega)
    have w3:IntKind.u64.wrap (r+V/4294967296)=r+V/4294967296:=wrapu (by omega) (by omega)
    have hex:∀ q' r',Y=q'*(V/4294967296)+r'→q'*V≤Y*4294967296+L%4294967296→Y*4294967296+L%4294967296<(q'+1)*V→q'=(Y*4294967296+L%4294967296)/V:=fun q' r' _ h3 h4=>(Y6 h3 h4).1.symm
    have hqv:0≤q*(V%4294967296):=Int.mul_nonneg q9 v0.1
    have step:(4294967296≤q∨4294967296*r+L%4294967296<q*(V%4294967296))→1≤q∧Y=(q-1)*(V/4294967296)+(r+V/4294967296)∧Y*4294967296+L%4294967296<(q-1+1)*V:=fun h=>by
     have h3:=Yx eq (by omega) u0.2 (by omega) h
     rw [← vs] at h3
     refine ⟨?_,?_,by rw [Int.sub_add_cancel];exact h3⟩
     ·rcases h with h|h
      ·omega
      ·refine Classical.byContradiction fun h4=>?_
       have:q=0:=by omega
       rw [this] at h
       omega
     ·rw [Int.sub_mul];omega
    by_cases hc:4294967296≤q
    ·obtain ⟨s1,s2,s3⟩:=step (.inl hc)
     have w4:IntKind.u64.wrap (q-1)=q-1:=wrapu (by omega) (by
      have:4294967296*(V/4294967296)≤q*(V/4294967296):=Int.mul_le_mul_of_nonneg_right hc (by omega)
      have h5:q*1≤q*(V/4294967296):=Int.mul_le_mul_of_nonneg_left (by omega) q9
      omega)
     by_cases hb:4294967296≤r+V/4294967296
     ·(repeat (first|((with_reducible refine rC rfl fun K hK=>?_);simp only [go_sem,seval,↓reduceIte,hc,w3,w4,hb];refine hK _ _ _ ?_;clear hK K)|refine sT ?_))
      have e:=hex _ _ s2 (by
       have h5:=Ks (v1:=V/4294967296) (v0:=V%4294967296) (by omega) (show 0≤q-1 by omega) s2 (by omega) v0 u0.1 hb
       rwa [← vs] at h5) s3
      rw [← e] at tail2
      refine AWP.sub ?_ (by rfl) tail2
      simp [Sub,lk]
     ·(repeat (first|((with_reducible refine rC rfl fun K hK=>?_);simp only [go_sem,seval,↓reduceIte,hc,w3,w4,hb];refine hK _ _ _ ?_;clear hK K)|refine sT ?_))
      exact ⟨(q-1,r+V/4294967296),⟨by simp only;omega,by simp only;omega,by simp only;omega,s2,s3⟩,by simp only;omega,by simp [Sub,lk]⟩
    ·have w5 : IntKind.u64.wrap (q * (V % 4294967296)) = q * (V % 4294967296) := wrapu hqv (by
      have:q*(V%4294967296)≤4294967296*4294967295:=Int.mul_le_mul (by omega) (by omega) v0.1 (by omega)
      omega)
     by_cases hd:4294967296*r+L%4294967296<q*(V%4294967296)
     ·obtain ⟨s1,s2,s3⟩:=step (.inr hd)
      have w4:IntKind.u64.wrap (q-1)=q-1:=wrapu (by omega) (by omega)
      by_cases hb:4294967296≤r+V/4294967296
      ·(repeat (first|((with_reducible refine rC rfl fun K hK=>?_);simp only [go_sem,seval,↓reduceIte,hc,hd,w1,w2,w5,w3,w4,hb];refine hK _ _ _ ?_;clear hK K)|refine sT ?_))
       have e:=hex _ _ s2 (by
        have h5:=Ks (v1:=V/4294967296) (v0:=V%4294967296) (by omega) (show 0≤q-1 by omega) s2 (by omega) v0 u0.1 hb
        rwa [← vs] at h5) s3
       rw [← e] at tail2
       refine AWP.sub ?_ (by rfl) tail2
       simp [Sub,lk]
      ·(repeat (first|((with_reducible refine rC rfl fun K hK=>?_);simp only [go_sem,seval,↓reduceIte,hc,hd,w1,w2,w5,w3,w4,hb];refine hK _ _ _ ?_;clear hK K)|refine sT ?_))
       exact ⟨(q-1,r+V/4294967296),⟨by simp only;omega,by simp only;omega,by simp only;omega,s2,s3⟩,by simp only;omega,by simp [Sub,lk]⟩
     ·(repeat (first|((with_reducible refine rC rfl fun K hK=>?_);simp only [go_sem,seval,↓reduceIte,hc,hd,w1,w2,w5];refine hK _ _ _ ?_;clear hK K)|refine sT ?_))
      have e:=hex _ _ eq (by
       have h5:=Q4 (v1:=V/4294967296) (v0:=V%4294967296) (u:=L%4294967296) eq (by omega)
       rwa [← vs] at h5) hub
      rw [← e] at tail2
      refine AWP.sub ?_ (by rfl) tail2
      simp [Sub,lk]
 ·simp only [putSeq]
  have g1:IntKind.u64.wrap (X.tdiv (V/4294967296))=X/(V/4294967296):=by
   rw [Int.tdiv_eq_ediv_of_nonneg hX,wrapu (Int.ediv_nonneg hX (by omega)) (by have:=Int.ediv_le_self (V/4294967296) hX;omega)]
  have g2:=Int.mul_ediv_add_emod X (V/4294967296)
  have g3:=Ag X (V/4294967296) (by omega)
  have g4:=Int.ediv_nonneg hX (show 0≤V/4294967296 by omega)
  have g5:IntKind.u64.wrap (X/(V/4294967296)*(V/4294967296))=X/(V/4294967296)*(V/4294967296):=wrapu (Int.mul_nonneg g4 (by omega)) (by rw [Int.mul_comm];omega)
  have g6:IntKind.u64.wrap (X-X/(V/4294967296)*(V/4294967296))=X%(V/4294967296):=by rw [Int.mul_comm,wrapu (by omega) (by omega)];omega
  have g7:=Vv (v1:=V/4294967296) (v0:=V%4294967296) (by omega) v0.1 hX u1.2
  rw [← vs] at g7
  (repeat (first|((with_reducible refine rC rfl fun K hK=>?_);simp only [go_sem,seval,↓reduceIte,b1,b2,show ¬ y≤hi by omega,f1,f2,f3,f4,f5,f6,f7,shr32,fV,fL,Int.natCast_nonneg,g1,g5,g6,show V/4294967296≠0 by omega];(first|refine hK _ _ _ ?_|refine ⟨_,cL,hK _ _ _ ?_⟩);clear hK K)|refine sT ?_))
  refine AWP.loop (fun w:Int×Int=>[(15,⟨0,.val (.int .u64 w.1)⟩),(16,⟨0,.val (.int .u64 w.2)⟩),(11,⟨0,.val (.int .u64 X)⟩),(13,⟨0,.val (.int .u64 (L/4294967296))⟩),(14,⟨0,.val (.int .u64 (L%4294967296))⟩),(9,⟨0,.val (.int .u64 (V/4294967296))⟩),(10,⟨0,.val (.int .u64 (V%4294967296))⟩),(2,⟨0,.val (.int .u64 V)⟩),(8,⟨0,.val (.int .u64 (s:Int))⟩)]) (fun w=>0≤w.1∧0≤w.2∧w.2<4294967296∧X=w.1*(V/4294967296)+w.2∧X*4294967296+L/4294967296<(w.1+1)*V) (fun w=>w.1.toNat) (X/(V/4294967296),X%(V/4294967296)) ⟨g4,g3.1,by simp only;omega,by simp only;rw [Int.mul_comm];omega,g7⟩ (fun w=>rfl) ?_ (fun w hw=>?_)
  ·simp [Sub,lk]
  ·obtain ⟨q,r⟩:=w
   simp only at hw ⊢
   obtain ⟨q0,r0,r1,eq,hub⟩:=hw
   have hq2:q*(V/4294967296)<18446744073709551616:=by omega
   have w1:IntKind.u64.wrap (4294967296*r)=4294967296*r:=wrapu (by omega) (by omega)
   have w2:IntKind.u64.wrap (4294967296*r+L/4294967296)=4294967296*r+L/4294967296:=wrapu (by omega) (by omega)
   have w3:IntKind.u64.wrap (r+V/4294967296)=r+V/4294967296:=wrapu (by omega) (by omega)
   have hex:∀ q' r',X=q'*(V/4294967296)+r'→q'*V≤X*4294967296+L/4294967296→X*4294967296+L/4294967296<(q'+1)*V→q'=(X*4294967296+L/4294967296)/V:=fun q' r' _ h3 h4=>(Y6 h3 h4).1.symm
   have hqv:0≤q*(V%4294967296):=Int.mul_nonneg q0 v0.1
   have step:(4294967296≤q∨4294967296*r+L/4294967296<q*(V%4294967296))→1≤q∧X=(q-1)*(V/4294967296)+(r+V/4294967296)∧X*4294967296+L/4294967296<(q-1+1)*V:=fun h=>by
    have h3:=Yx eq (by omega) u1.2 (by omega) h
    rw [← vs] at h3
    refine ⟨?_,?_,by rw [Int.sub_add_cancel];exact h3⟩
    ·rcases h with h|h
     ·omega
     ·refine Classical.byContradiction fun h4=>?_
      have:q=0:=by omega
      rw [this] at h
      omega
    ·rw [Int.sub_mul];omega
   by_cases hc:4294967296≤q
   ·obtain ⟨s1,s2,s3⟩:=step (.inl hc)
    have w4:IntKind.u64.wrap (q-1)=q-1:=wrapu (by omega) (by
     have:4294967296*(V/4294967296)≤q*(V/4294967296):=Int.mul_le_mul_of_nonneg_right hc (by omega)
     have h5:q*1≤q*(V/4294967296):=Int.mul_le_mul_of_nonneg_left (by omega) q0
     omega)
    by_cases hb:4294967296≤r+V/4294967296
    ·(repeat (first|((with_reducible refine rC rfl fun K hK=>?_);simp only [go_sem,seval,↓reduceIte,hc,w3,w4,hb];refine hK _ _ _ ?_;clear hK K)|refine sT ?_))
     have e:=hex _ _ s2 (by
      have h5:=Ks (v1:=V/4294967296) (v0:=V%4294967296) (by omega) (show 0≤q-1 by omega) s2 (by omega) v0 u1.1 hb
      rwa [← vs] at h5) s3
     rw [← e] at tail
     refine AWP.sub ?_ (by rfl) tail
     simp [Sub,lk]
    ·(repeat (first|((with_reducible refine rC rfl fun K hK=>?_);simp only [go_sem,seval,↓reduceIte,hc,w3,w4,hb];refine hK _ _ _ ?_;clear hK K)|refine sT ?_))
     exact ⟨(q-1,r+V/4294967296),⟨by simp only;omega,by simp only;omega,by simp only;omega,s2,s3⟩,by simp only;omega,by simp [Sub,lk]⟩
   ·have w5 : IntKind.u64.wrap (q * (V % 4294967296)) = q * (V % 4294967296) := wrapu hqv (by
     have:q*(V%4294967296)≤4294967296*4294967295:=Int.mul_le_mul (by omega) (by omega) v0.1 (by omega)
     omega)
    by_cases hd:4294967296*r+L/4294967296<q*(V%4294967296)
    ·obtain ⟨s1,s2,s3⟩:=step (.inr hd)
     have w4:IntKind.u64.wrap (q-1)=q-1:=wrapu (by omega) (by omega)
     by_cases hb:4294967296≤r+V/4294967296
     ·(repeat (first|((with_reducible refine rC rfl fun K hK=>?_);simp only [go_sem,seval,↓reduceIte,hc,hd,w1,w2,w5,w3,w4,hb];refine hK _ _ _ ?_;clear hK K)|refine sT ?_))
      have e:=hex _ _ s2 (by
       have h5:=Ks (v1:=V/4294967296) (v0:=V%4294967296) (by omega) (show 0≤q-1 by omega) s2 (by omega) v0 u1.1 hb
       rwa [← vs] at h5) s3
      rw [← e] at tail
      refine AWP.sub ?_ (by rfl) tail
      simp [Sub,lk]
     ·(repeat (first|((with_reducible refine rC rfl fun K hK=>?_);simp only [go_sem,seval,↓reduceIte,hc,hd,w1,w2,w5,w3,w4,hb];refine hK _ _ _ ?_;clear hK K)|refine sT ?_))
      exact ⟨(q-1,r+V/4294967296),⟨by simp only;omega,by simp only;omega,by simp only;omega,s2,s3⟩,by simp only;omega,by simp [Sub,lk]⟩
    ·(repeat (first|((with_reducible refine rC rfl fun K hK=>?_);simp only [go_sem,seval,↓reduceIte,hc,hd,w1,w2,w5];refine hK _ _ _ ?_;clear hK K)|refine sT ?_))
     have e:=hex _ _ eq (by
      have h5:=Q4 (v1:=V/4294967296) (v0:=V%4294967296) (u:=L/4294967296) eq (by omega)
      rwa [← vs] at h5) hub
     rw [← e] at tail
     refine AWP.sub ?_ (by rfl) tail
     simp [Sub,lk]
theorem Kq (lo y:Int) (h0:0<y) (hl:0≤lo) (hl2:lo<18446744073709551616):AFn Tryz.prog 242 [.int .u64 0,.int .u64 lo,.int .u64 y] (.tup [.int .u64 (lo/y),.int .u64 (lo%y)]):=by
 refine fO Tryz.func242 Tryz.ntmps242 (by rw [Tryz.results242]) fun C hP hM hC=>?_
 have b1:(y==0)=false:=by simp;omega
 have e1:IntKind.u64.wrap (lo.tdiv y)=lo/y:=by rw [Int.tdiv_eq_ediv_of_nonneg hl,wrapu (Int.ediv_nonneg hl (by omega)) (by have:=Int.ediv_le_self y hl;omega)]
 (repeat (first|((with_reducible refine rC rfl fun K hK=>?_);simp only [go_sem,seval,↓reduceIte,b1,show ¬ y≤0 by omega,show ((0:Int)==0)=true from rfl,e1,tm lo y hl,show y≠0 by omega];refine hK _ _ _ ?_;clear hK K)|refine sT ?_))
 refine rt2 ?_
 rfl
theorem Cv (m x y:Int) (hm:0<m) (hm2:m≤1099511627776) (hx:0≤x) (hx2:x<m) (hy:0≤y) (hy2:y<m):AFn Tryz.prog 199 [.int .i64 m,.int .i64 x,.int .i64 y] (.int .i64 (x*y%m)):=by
 refine fO Tryz.func199 Tryz.ntmps199 (by rw [Tryz.results199]) fun C hP hM hC=>?_
 have hxy:=Int.mul_nonneg hx hy
 by_cases h:m≤3000000000
 ·have hb:=Ad1 hx hx2 hy hy2 h
  (repeat (first|((with_reducible refine rC rfl fun K hK=>?_);simp only [go_sem,seval,↓reduceIte,h,wid (x*y) (by omega) (by omega),tm _ m hb.1,show m≠0 by omega];refine hK _ _ _ ?_;clear hK K)|refine sT ?_))
  refine rt1 ?_
  rfl
 ·have hb:x*y≤1099511627776*1099511627776:=Int.mul_le_mul (by omega) (by omega) hy (by omega)
  have hr:=Ag (x*y) m hm
  have cM:=Nn x y hx (by omega) hy (by omega)
  by_cases hh:x*y/18446744073709551616=0
  ·have cD:=Kq (x*y%18446744073709551616) m hm (by omega) (by omega)
   have e:x*y%18446744073709551616=x*y:=by omega
   rw [hh,e] at cM
   rw [e] at cD
   (repeat (first|((with_reducible refine rC rfl fun K hK=>?_);simp only [go_sem,seval,↓reduceIte,h,wrapu hx (by omega),wrapu hy (by omega),wrapu (z:=m) (by omega) (by omega),wid (x*y%m) (by omega) (by omega)];(first|refine hK _ _ _ ?_|refine ⟨_,cM,hK _ _ _ ?_⟩|refine ⟨_,cD,hK _ _ _ ?_⟩);clear hK K)|refine sT ?_))
   refine rt1 ?_
   rfl
  ·have cD:=K0 (x*y/18446744073709551616) (x*y%18446744073709551616) m (by omega) (by omega) (by omega) (by omega) (by omega)
   have e:x*y/18446744073709551616*18446744073709551616+x*y%18446744073709551616=x*y:=by omega
   rw [e] at cD
   (repeat (first|((with_reducible refine rC rfl fun K hK=>?_);simp only [go_sem,seval,↓reduceIte,h,wrapu hx (by omega),wrapu hy (by omega),wrapu (z:=m) (by omega) (by omega),wid (x*y%m) (by omega) (by omega)];(first|refine hK _ _ _ ?_|refine ⟨_,cM,hK _ _ _ ?_⟩|refine ⟨_,cD,hK _ _ _ ?_⟩);clear hK K)|refine sT ?_))
   refine rt1 ?_
   rfl
end Go.Proofs.YtapdekacpecgiaaGreat
