/-
  Draws of points and of pairs of curves.
-/
import Derived.Test.YtoooefcjkmfhoaaXh
import Derived.Test.YtoooefcjkmfhoaaDt
import Derived.Test.YtoooefcjkmfhoaaBy
import Derived.Test.YtoooefcjkmfhoaaOg
import Derived.Test.YtoooefcjkmfhoaaEj
import Derived.Test.YtoooefcjkmfhoaaVz
namespace Go.Proofs.Ytoooefcjkmfhoaa
open Go.RowKit
set_option linter.unusedSimpArgs false
set_option linter.unusedVariables false
set_option linter.unusedSectionVars false
set_option maxRecDepth 20000
-- Draws of points and of pairs of curves.
set_option maxHeartbeats 1000000 in
theorem c_spec_DrawMultiplyPoint (a : Option Addr) (c : Nat) (l : List Int) (hB : Byt l) (p x y : Int) (L1 : List Int) (s1 : Int × Int) (hS1 : Sok l s1) (hC1 : AFn Try.prog (5000000 + 54) [.str (.src a c l), SRQ a c l (from0 l), .int .i64 1] (.tup [.tup [.int .i64 p, .int .i64 x, .int .i64 y, .sl true 37 (rowsO [L1])], SRQ a c l s1])) : AFn Try.prog 31 [.str (.src a c l)] (.tup [.int .i64 p, .int .i64 x, .int .i64 y, .sl true 2 (intL L1), .int .i64 (pickX l (nextS l (nextS l s1 20) 1000) [nextX l s1 20, nextX l (nextS l s1 20) 1000, 1000000, 1000001, -1])]) := by
  refine AFn.of' ttOk (by decide) Try.func31 Try.ntmps31 (by rw [Try.results31]) (by rfl) (by rfl) (by simp) (by decide) (by simp only [go_sem, Nat.reduceAdd, ↓reduceIte]; rfl) mixed (fun C hP hM hC => ?_)
  refine AWP.ghost (t := 0) rfl rfl ?_
  (repeat (first | ((with_reducible refine rgn_cons rfl (fun K hK => ?_)); simp only [go_sem, seval, ↓reduceIte, decide_true, decide_false, rowsO_get [L1] 0 (by simp), List.length_cons, List.length_nil, Int.le_refl, Int.toNat_zero, List.take_zero, Nat.zero_mul, List.getD_cons_zero, show (0 : Int) < 1 by decide]; (first | refine hK _ _ _ (by simp only [go_sem, Nat.reduceEqDiff, ↓reduceIte]; rfl) ?_ | refine ⟨_, c_spec_l01From a c l hB, hK _ _ _ (by simp only [go_sem, Nat.reduceEqDiff, ↓reduceIte]; rfl) ?_⟩ | refine ⟨_, hC1, hK _ _ _ (by simp only [go_sem, Nat.reduceEqDiff, ↓reduceIte]; rfl) ?_⟩ | refine ⟨_, c_spec_l01Next a c l hB s1 hS1 20, hK _ _ _ (by simp only [go_sem, Nat.reduceEqDiff, ↓reduceIte]; rfl) ?_⟩ | refine ⟨_, c_spec_l01Next a c l hB (nextS l s1 20) (nextS_ok hS1 20) 1000, hK _ _ _ (by simp only [go_sem, Nat.reduceEqDiff, ↓reduceIte]; rfl) ?_⟩ | refine ⟨_, c_spec_l01Pick a c l hB (nextS l (nextS l s1 20) 1000) (nextS_ok (nextS_ok hS1 20) 1000) [nextX l s1 20, nextX l (nextS l s1 20) 1000, 1000000, 1000001, -1] (by simp) (by simp), hK _ _ _ (by simp only [go_sem, Nat.reduceEqDiff, ↓reduceIte]; rfl) ?_⟩); clear hK; clear K) | (with_reducible first | refine rgn_nil (by first | trivial | kernel_rfl) ?_ | refine AWP.seq ?_ | refine tX hC hP (by kernel_rfl) ?_ | refine aX hC hM hP (by kernel_rfl) ?_ | refine AWP.skip ?_ | refine AWP.label ?_ | refine AWP.exit ?_ | refine AWP.block ?_ | refine cTa ?_ | refine cFa ?_) | simp only [qS, Nat.reduceEqDiff, ↓reduceIte]))
  (refine AWP.ret ?_; refine retA5 (by simp only [go_sem, seval, ↓reduceIte, decide_true, decide_false, rowsO_get [L1] 0 (by simp), List.getD_cons_zero, T.isNode, T.refFree]; rfl) (by simp only [go_sem, seval, ↓reduceIte, decide_true, decide_false, rowsO_get [L1] 0 (by simp), List.getD_cons_zero, T.isNode, T.refFree]; rfl) (by simp only [go_sem, seval, ↓reduceIte, decide_true, decide_false, rowsO_get [L1] 0 (by simp), List.getD_cons_zero, T.isNode, T.refFree]; rfl) (by simp only [go_sem, seval, ↓reduceIte, decide_true, decide_false, rowsO_get [L1] 0 (by simp), List.getD_cons_zero, T.isNode, T.refFree]; rfl) (by simp only [go_sem, seval, ↓reduceIte, decide_true, decide_false, rowsO_get [L1] 0 (by simp), List.getD_cons_zero, T.isNode, T.refFree]; rfl) (by rfl) ?_)
  rfl
theorem DrawMultiplyPoint_ex {a : Option Addr} {c : Nat} {l : List Int} (hB : Byt l) : ∃ p x y L1 n, Row L1 ∧ AFn Try.prog 31 [.str (.src a c l)] (.tup [.int .i64 p, .int .i64 x, .int .i64 y, .sl true 2 (intL L1), .int .i64 n]) := by
  obtain ⟨p, x, y, L, s', hS', _, hl, hr, hC1⟩ := l18At_ex (a := a) (c := c) hB (from0_ok l) 1 (by omega)
  match L, hl, hr, hC1 with
  | [L1], _, hr, hC1 => exact ⟨p, x, y, L1, _, hr L1 (by simp), c_spec_DrawMultiplyPoint a c l hB p x y L1 s' hS' hC1⟩
set_option maxHeartbeats 1000000 in
theorem c_spec_DrawAreIsomorphicCurves_a (a : Option Addr) (c : Nat) (l : List Int) (hB : Byt l) (p x y : Int) (s1 : Int × Int) (hS1 : Sok l s1) (hC1 : AFn Try.prog (5000000 + 36) [.str (.src a c l), SRQ a c l (from0 l)] (.tup [.tup [.int .i64 p, .int .i64 x, .int .i64 y], SRQ a c l s1])) (hE : isE p x y = true) (u : Nat) (hu : 1 + nextX l (nextS l s1 2) (p - 1) = (u : Int)) (h : nextX l s1 2 = 0) : AFn Try.prog 33 [.str (.src a c l)] (.tup [.int .i64 p, .int .i64 x, .int .i64 y, .int .i64 ((x * ((u : Int) ^ 4 % p)).tmod p), .int .i64 ((y * ((u : Int) ^ 6 % p)).tmod p)]) := by
  refine AFn.of' ttOk (by decide) Try.func33 Try.ntmps33 (by rw [Try.results33]) (by rfl) (by rfl) (by simp) (by decide) (by simp only [go_sem, Nat.reduceAdd, ↓reduceIte]; rfl) mixed (fun C hP hM hC => ?_)
  obtain ⟨hf, h5, h97, g1, g2, g3, g4, _⟩ := codeE_zero (isE_code hE)
  have e4 := emod_b ((u : Int) ^ 4) p (by omega)
  have e6 := emod_b ((u : Int) ^ 6) p (by omega)
  have m4 := small_mul h97 g1 g2 e4.1 e4.2
  have m6 := small_mul h97 g3 g4 e6.1 e6.2
  have b := nextX_bound hB (nextS l s1 2) (p - 1)
  have b2 := b.2.1 (by omega)
  refine AWP.ghost (t := 0) rfl rfl ?_
  (repeat (first | ((with_reducible refine rgn_cons rfl (fun K hK => ?_)); simp only [go_sem, seval, ↓reduceIte, decide_true, decide_false, hE, h, wid (p - 1) (by omega) (by omega), hu, wid (u : Int) (by omega) (by omega), wid (x * ((u : Int) ^ 4 % p)) (by omega) (by omega), wid (y * ((u : Int) ^ 6 % p)) (by omega) (by omega), show p ≠ 0 by omega]; (first | refine hK _ _ _ (by simp only [go_sem, Nat.reduceEqDiff, ↓reduceIte]; rfl) ?_ | refine ⟨_, c_spec_l01From a c l hB, hK _ _ _ (by simp only [go_sem, Nat.reduceEqDiff, ↓reduceIte]; rfl) ?_⟩ | refine ⟨_, hC1, hK _ _ _ (by simp only [go_sem, Nat.reduceEqDiff, ↓reduceIte]; rfl) ?_⟩ | refine ⟨_, c_spec_l18Is p x y, hK _ _ _ (by simp only [go_sem, Nat.reduceEqDiff, ↓reduceIte]; rfl) ?_⟩ | refine ⟨_, c_spec_l01Next a c l hB s1 hS1 2, hK _ _ _ (by simp only [go_sem, Nat.reduceEqDiff, ↓reduceIte]; rfl) ?_⟩ | refine ⟨_, c_spec_l01Next a c l hB (nextS l s1 2) (nextS_ok hS1 2) (p - 1), hK _ _ _ (by simp only [go_sem, Nat.reduceEqDiff, ↓reduceIte]; rfl) ?_⟩ | refine ⟨_, c_spec_l01Pow p (u : Int) 4 (by omega) (by omega) (by omega), hK _ _ _ (by simp only [go_sem, Nat.reduceEqDiff, ↓reduceIte]; rfl) ?_⟩ | refine ⟨_, c_spec_l01Pow p (u : Int) 6 (by omega) (by omega) (by omega), hK _ _ _ (by simp only [go_sem, Nat.reduceEqDiff, ↓reduceIte]; rfl) ?_⟩); clear hK; clear K) | (with_reducible first | refine rgn_nil (by first | trivial | kernel_rfl) ?_ | refine AWP.seq ?_ | refine tX hC hP (by kernel_rfl) ?_ | refine aX hC hM hP (by kernel_rfl) ?_ | refine AWP.skip ?_ | refine AWP.label ?_ | refine AWP.exit ?_ | refine AWP.block ?_ | refine cTa ?_ | refine cFa ?_) | simp only [qS, Nat.reduceEqDiff, ↓reduceIte]))
  (refine AWP.ret ?_; refine retOk5 (by simp only [go_sem, seval, ↓reduceIte, decide_true, decide_false]; rfl) (by simp only [go_sem, seval, ↓reduceIte, decide_true, decide_false]; rfl) (by simp only [go_sem, seval, ↓reduceIte, decide_true, decide_false]; rfl) (by simp only [go_sem, seval, ↓reduceIte, decide_true, decide_false]; rfl) (by simp only [go_sem, seval, ↓reduceIte, decide_true, decide_false]; rfl) (by simp) ?_)
  rfl
set_option maxHeartbeats 1000000 in
theorem c_spec_DrawAreIsomorphicCurves_b (a : Option Addr) (c : Nat) (l : List Int) (hB : Byt l) (p x y z w : Int) (s1 s2 s3 : Int × Int) (hS1 : Sok l s1) (hC1 : AFn Try.prog (5000000 + 36) [.str (.src a c l), SRQ a c l (from0 l)] (.tup [.tup [.int .i64 p, .int .i64 x, .int .i64 y], SRQ a c l s1])) (hE : isE p x y = true) (h : ¬ nextX l s1 2 = 0) (hC2 : AFn Try.prog (5000000 + 63) [.str (.src a c l), SRQ a c l (nextS l s1 2), .int .i64 p] (.tup [.int .i64 z, SRQ a c l s2])) (hC3 : AFn Try.prog (5000000 + 63) [.str (.src a c l), SRQ a c l s2, .int .i64 p] (.tup [.int .i64 w, SRQ a c l s3])) : AFn Try.prog 33 [.str (.src a c l)] (.tup [.int .i64 p, .int .i64 x, .int .i64 y, .int .i64 z, .int .i64 w]) := by
  refine AFn.of' ttOk (by decide) Try.func33 Try.ntmps33 (by rw [Try.results33]) (by rfl) (by rfl) (by simp) (by decide) (by simp only [go_sem, Nat.reduceAdd, ↓reduceIte]; rfl) mixed (fun C hP hM hC => ?_)
  refine AWP.ghost (t := 0) rfl rfl ?_
  (repeat (first | ((with_reducible refine rgn_cons rfl (fun K hK => ?_)); simp only [go_sem, seval, ↓reduceIte, decide_true, decide_false, hE, beqF h]; (first | refine hK _ _ _ (by simp only [go_sem, Nat.reduceEqDiff, ↓reduceIte]; rfl) ?_ | refine ⟨_, c_spec_l01From a c l hB, hK _ _ _ (by simp only [go_sem, Nat.reduceEqDiff, ↓reduceIte]; rfl) ?_⟩ | refine ⟨_, hC1, hK _ _ _ (by simp only [go_sem, Nat.reduceEqDiff, ↓reduceIte]; rfl) ?_⟩ | refine ⟨_, c_spec_l18Is p x y, hK _ _ _ (by simp only [go_sem, Nat.reduceEqDiff, ↓reduceIte]; rfl) ?_⟩ | refine ⟨_, c_spec_l01Next a c l hB s1 hS1 2, hK _ _ _ (by simp only [go_sem, Nat.reduceEqDiff, ↓reduceIte]; rfl) ?_⟩ | refine ⟨_, hC2, hK _ _ _ (by simp only [go_sem, Nat.reduceEqDiff, ↓reduceIte]; rfl) ?_⟩ | refine ⟨_, hC3, hK _ _ _ (by simp only [go_sem, Nat.reduceEqDiff, ↓reduceIte]; rfl) ?_⟩); clear hK; clear K) | (with_reducible first | refine rgn_nil (by first | trivial | kernel_rfl) ?_ | refine AWP.seq ?_ | refine tX hC hP (by kernel_rfl) ?_ | refine aX hC hM hP (by kernel_rfl) ?_ | refine AWP.skip ?_ | refine AWP.label ?_ | refine AWP.exit ?_ | refine AWP.block ?_ | refine cTa ?_ | refine cFa ?_) | simp only [qS, Nat.reduceEqDiff, ↓reduceIte]))
  (refine AWP.ret ?_; refine retOk5 (by simp only [go_sem, seval, ↓reduceIte, decide_true, decide_false]; rfl) (by simp only [go_sem, seval, ↓reduceIte, decide_true, decide_false]; rfl) (by simp only [go_sem, seval, ↓reduceIte, decide_true, decide_false]; rfl) (by simp only [go_sem, seval, ↓reduceIte, decide_true, decide_false]; rfl) (by simp only [go_sem, seval, ↓reduceIte, decide_true, decide_false]; rfl) (by simp) ?_)
  rfl
set_option maxHeartbeats 1000000 in
theorem c_spec_DrawAreIsomorphicCurves_c (a : Option Addr) (c : Nat) (l : List Int) (hB : Byt l) (p x y z w : Int) (s1 s2 s3 : Int × Int) (hS1 : Sok l s1) (hC1 : AFn Try.prog (5000000 + 36) [.str (.src a c l), SRQ a c l (from0 l)] (.tup [.tup [.int .i64 p, .int .i64 x, .int .i64 y], SRQ a c l s1])) (hE : isE p x y = false) (hC2 : AFn Try.prog (5000000 + 63) [.str (.src a c l), SRQ a c l s1, .int .i64 p] (.tup [.int .i64 z, SRQ a c l s2])) (hC3 : AFn Try.prog (5000000 + 63) [.str (.src a c l), SRQ a c l s2, .int .i64 p] (.tup [.int .i64 w, SRQ a c l s3])) : AFn Try.prog 33 [.str (.src a c l)] (.tup [.int .i64 p, .int .i64 x, .int .i64 y, .int .i64 z, .int .i64 w]) := by
  refine AFn.of' ttOk (by decide) Try.func33 Try.ntmps33 (by rw [Try.results33]) (by rfl) (by rfl) (by simp) (by decide) (by simp only [go_sem, Nat.reduceAdd, ↓reduceIte]; rfl) mixed (fun C hP hM hC => ?_)
  refine AWP.ghost (t := 0) rfl rfl ?_
  (repeat (first | ((with_reducible refine rgn_cons rfl (fun K hK => ?_)); simp only [go_sem, seval, ↓reduceIte, decide_true, decide_false, hE]; (first | refine hK _ _ _ (by simp only [go_sem, Nat.reduceEqDiff, ↓reduceIte]; rfl) ?_ | refine ⟨_, c_spec_l01From a c l hB, hK _ _ _ (by simp only [go_sem, Nat.reduceEqDiff, ↓reduceIte]; rfl) ?_⟩ | refine ⟨_, hC1, hK _ _ _ (by simp only [go_sem, Nat.reduceEqDiff, ↓reduceIte]; rfl) ?_⟩ | refine ⟨_, c_spec_l18Is p x y, hK _ _ _ (by simp only [go_sem, Nat.reduceEqDiff, ↓reduceIte]; rfl) ?_⟩ | refine ⟨_, hC2, hK _ _ _ (by simp only [go_sem, Nat.reduceEqDiff, ↓reduceIte]; rfl) ?_⟩ | refine ⟨_, hC3, hK _ _ _ (by simp only [go_sem, Nat.reduceEqDiff, ↓reduceIte]; rfl) ?_⟩); clear hK; clear K) | (with_reducible first | refine rgn_nil (by first | trivial | kernel_rfl) ?_ | refine AWP.seq ?_ | refine tX hC hP (by kernel_rfl) ?_ | refine aX hC hM hP (by kernel_rfl) ?_ | refine AWP.skip ?_ | refine AWP.label ?_ | refine AWP.exit ?_ | refine AWP.block ?_ | refine cTa ?_ | refine cFa ?_) | simp only [qS, Nat.reduceEqDiff, ↓reduceIte]))
  (refine AWP.ret ?_; refine retOk5 (by simp only [go_sem, seval, ↓reduceIte, decide_true, decide_false]; rfl) (by simp only [go_sem, seval, ↓reduceIte, decide_true, decide_false]; rfl) (by simp only [go_sem, seval, ↓reduceIte, decide_true, decide_false]; rfl) (by simp only [go_sem, seval, ↓reduceIte, decide_true, decide_false]; rfl) (by simp only [go_sem, seval, ↓reduceIte, decide_true, decide_false]; rfl) (by simp) ?_)
  rfl
theorem DrawAreIsomorphicCurves_ex {a : Option Addr} {c : Nat} {l : List Int} (hB : Byt l) : ∃ p x y z w, AFn Try.prog 33 [.str (.src a c l)] (.tup [.int .i64 p, .int .i64 x, .int .i64 y, .int .i64 z, .int .i64 w]) := by
  obtain ⟨p, x, y, s1, hS1, _, hC1⟩ := l18Some_ex (a := a) (c := c) hB (from0_ok l)
  by_cases hE : isE p x y = true
  · by_cases h : nextX l s1 2 = 0
    · have b := nextX_bound hB (nextS l s1 2) (p - 1)
      obtain ⟨u, hu⟩ := Int.eq_ofNat_of_zero_le (show 0 ≤ 1 + nextX l (nextS l s1 2) (p - 1) by omega)
      exact ⟨_, _, _, _, _, c_spec_DrawAreIsomorphicCurves_a a c l hB p x y s1 hS1 hC1 hE u hu h⟩
    · obtain ⟨z, s2, hS2, hC2⟩ := l01NumberQ_ex (a := a) (c := c) hB (nextS_ok hS1 2) p
      obtain ⟨w, s3, hS3, hC3⟩ := l01NumberQ_ex (a := a) (c := c) hB hS2 p
      exact ⟨_, _, _, _, _, c_spec_DrawAreIsomorphicCurves_b a c l hB p x y z w s1 s2 s3 hS1 hC1 hE h hC2 hC3⟩
  · obtain ⟨z, s2, hS2, hC2⟩ := l01NumberQ_ex (a := a) (c := c) hB hS1 p
    obtain ⟨w, s3, hS3, hC3⟩ := l01NumberQ_ex (a := a) (c := c) hB hS2 p
    exact ⟨_, _, _, _, _, c_spec_DrawAreIsomorphicCurves_c a c l hB p x y z w s1 s2 s3 hS1 hC1 (by simpa using hE) hC2 hC3⟩
theorem codeI_zz {p a b c d : Int} (h : codeI p a b c d = 0) : codeE p a b = 0 ∧ codeE p c d = 0 := by
  unfold codeI at h
  split at h
  · split at h
    · omega
    · split at h
      · omega
      · rename_i g
        exact ⟨Classical.byContradiction fun e => g (.inl e), Classical.byContradiction fun e => g (.inr e)⟩
  · omega
theorem codeP_zz {p a b : Int} {L : List (List Int)} (h : codeP p a b L = 0) : codeE p a b = 0 ∧ ∀ x ∈ L, hasB p a b x = true := by
  unfold codeP at h
  split at h
  · rename_i hc
    split at h
    · rename_i hl
      exact ⟨hc, List.all_eq_true.1 hl⟩
    · omega
  · rename_i hc
    exact absurd h hc
theorem codeP_ff {p a b : Int} {L : List (List Int)} (h : codeE p a b = 0) (hL : ∀ x ∈ L, hasB p a b x = true) : codeP p a b L = 0 := by
  rw [codeP, if_pos h, if_pos (List.all_eq_true.2 hL)]
theorem addPC {p a b : Int} {f s : List Int} (h : codeE p a b = 0) (hf : hasB p a b f = true) (hs : hasB p a b s = true) : AFn Try.prog 26 [.int .i64 p, .int .i64 a, .int .i64 b, .sl false 2 (intL f), .sl false 2 (intL s)] (.tup [.sl true 2 (intL (addE p a f s)), .int .i64 0]) := by
  have hc := codeP_ff (L := [f, s]) h (fun x hx => by
    simp only [List.mem_cons, List.not_mem_nil, or_false] at hx
    rcases hx with rfl | rfl
    · exact hf
    · exact hs)
  have h1 := c_impl_AddPoints_ok p a b f s (by rcases hasB_cases hf with rfl | ⟨_, _, rfl⟩ <;> simp) (by rcases hasB_cases hs with rfl | ⟨_, _, rfl⟩ <;> simp) hc
  rwa [hc] at h1
set_option maxHeartbeats 16000000 in
theorem c_laws_FnPoints (a : Option Addr) (c : Nat) (l : List Int) (hlen : l.length ≤ 9223372036854775807) (hx : ∀ x ∈ l, 0 ≤ x ∧ x ≤ 255) : AFn Try.prog 4 [.str (.src a c l)] (.bool true) := by
  refine AFn.of' ttOk (by decide) Try.func4 Try.ntmps4 (by rw [Try.results4]) (by rfl) (by rfl) (by simp) (by decide) (by simp only [go_sem, Nat.reduceAdd, ↓reduceIte]; rfl) mixed (fun C hP hM hC => ?_)
  by_cases hbig : (4096 : Int) < (l.length : Int)
  · have hb := c_laws_big a c l
    rw [decide_eq_true hbig] at hb
    (repeat (first | ((with_reducible refine rgn_cons rfl (fun K hK => ?_)); simp only [go_sem, seval, ↓reduceIte, decide_true, decide_false, hbig, decide_true]; (first | refine hK _ _ _ (by simp only [go_sem, Nat.reduceEqDiff, ↓reduceIte]; rfl) ?_ | refine ⟨_, hb, hK _ _ _ (by simp only [go_sem, Nat.reduceEqDiff, ↓reduceIte]; rfl) ?_⟩); clear hK; clear K) | (with_reducible first | refine rgn_nil (by first | trivial | kernel_rfl) ?_ | refine AWP.seq ?_ | refine tX hC hP (by kernel_rfl) ?_ | refine aX hC hM hP (by kernel_rfl) ?_ | refine AWP.skip ?_ | refine AWP.label ?_ | refine AWP.exit ?_ | refine AWP.block ?_ | refine cTa ?_ | refine cFa ?_) | simp only [qS, Nat.reduceEqDiff, ↓reduceIte]))
    (refine AWP.ret ?_; refine retOk1 (by simp only [go_sem, seval, ↓reduceIte, decide_true, decide_false]; rfl) ?_)
    rfl
  have hb := c_laws_big a c l
  rw [decide_eq_false hbig] at hb
  have hB : Byt l := ⟨by omega, hx⟩
  refine AWP.tailR 7 [(0, ⟨0, .val (.str (.src a c l))⟩)] ?_ (fun R tail => ?_)
  · simp only [dropSeq]
    refine AWP.tailR 4 [(0, ⟨0, .val (.str (.src a c l))⟩)] ?_ (fun R tail => ?_)
    · simp only [dropSeq]
      obtain ⟨p, x, y, z, w, hD⟩ := DrawAreIsomorphicCurves_ex (a := a) (c := c) hB
      by_cases hc : codeI p x y z w = 0
      · obtain ⟨h1, h2⟩ := codeI_zz hc
        by_cases hi : isoR p x y z w = true
        · obtain ⟨f1, f2⟩ := iso_facts h1 h2 hi
          have hq : isoQ p x y z w = true := by simp [isoQ, hc, hi]
          have cI := c_impl_AreIsomorphicCurves p x y z w
          have cS := c_spec_AreIsomorphicCurves p x y z w
          rw [hc, hq] at cI cS
          have cJ := c_impl_InvariantOfCurve p x y
          have cJ2 := c_impl_InvariantOfCurve p z w
          rw [h1] at cJ
          rw [h2, ← f1] at cJ2
          have kT := c_impl_TraceOf p x y
          have cT2 := c_impl_TraceOf p z w
          rw [h1, traceR, if_pos h1] at kT
          rw [h2, traceR, if_pos h2, ← f2] at cT2
          (repeat (first | ((with_reducible refine rgn_cons rfl (fun K hK => ?_)); simp only [go_sem, seval, ↓reduceIte, decide_true, decide_false]; (first | refine hK _ _ _ (by simp only [go_sem, Nat.reduceEqDiff, ↓reduceIte]; rfl) ?_ | refine ⟨_, hD, hK _ _ _ (by simp only [go_sem, Nat.reduceEqDiff, ↓reduceIte]; rfl) ?_⟩ | refine ⟨_, cI, hK _ _ _ (by simp only [go_sem, Nat.reduceEqDiff, ↓reduceIte]; rfl) ?_⟩ | refine ⟨_, cS, hK _ _ _ (by simp only [go_sem, Nat.reduceEqDiff, ↓reduceIte]; rfl) ?_⟩ | refine ⟨_, cJ, hK _ _ _ (by simp only [go_sem, Nat.reduceEqDiff, ↓reduceIte]; rfl) ?_⟩ | refine ⟨_, cJ2, hK _ _ _ (by simp only [go_sem, Nat.reduceEqDiff, ↓reduceIte]; rfl) ?_⟩ | refine ⟨_, kT, hK _ _ _ (by simp only [go_sem, Nat.reduceEqDiff, ↓reduceIte]; rfl) ?_⟩ | refine ⟨_, cT2, hK _ _ _ (by simp only [go_sem, Nat.reduceEqDiff, ↓reduceIte]; rfl) ?_⟩); clear hK; clear K) | (with_reducible first | refine rgn_nil (by first | trivial | kernel_rfl) ?_ | refine AWP.seq ?_ | refine tX hC hP (by kernel_rfl) ?_ | refine aX hC hM hP (by kernel_rfl) ?_ | refine AWP.skip ?_ | refine AWP.label ?_ | refine AWP.exit ?_ | refine AWP.block ?_ | refine cTa ?_ | refine cFa ?_) | simp only [qS, Nat.reduceEqDiff, ↓reduceIte]))
          (refine AWP.ret ?_; refine retOk1 (by simp only [go_sem, seval, ↓reduceIte, decide_true, decide_false]; rfl) ?_)
          simp
        · have hq : isoQ p x y z w = false := by simp [isoQ, hi]
          have cI := c_impl_AreIsomorphicCurves p x y z w
          have cS := c_spec_AreIsomorphicCurves p x y z w
          rw [hc, hq] at cI cS
          (repeat (first | ((with_reducible refine rgn_cons rfl (fun K hK => ?_)); simp only [go_sem, seval, ↓reduceIte, decide_true, decide_false]; (first | refine hK _ _ _ (by simp only [go_sem, Nat.reduceEqDiff, ↓reduceIte]; rfl) ?_ | refine ⟨_, hD, hK _ _ _ (by simp only [go_sem, Nat.reduceEqDiff, ↓reduceIte]; rfl) ?_⟩ | refine ⟨_, cI, hK _ _ _ (by simp only [go_sem, Nat.reduceEqDiff, ↓reduceIte]; rfl) ?_⟩ | refine ⟨_, cS, hK _ _ _ (by simp only [go_sem, Nat.reduceEqDiff, ↓reduceIte]; rfl) ?_⟩); clear hK; clear K) | (with_reducible first | refine rgn_nil (by first | trivial | kernel_rfl) ?_ | refine AWP.seq ?_ | refine tX hC hP (by kernel_rfl) ?_ | refine aX hC hM hP (by kernel_rfl) ?_ | refine AWP.skip ?_ | refine AWP.label ?_ | refine AWP.exit ?_ | refine AWP.block ?_ | refine cTa ?_ | refine cFa ?_) | simp only [qS, Nat.reduceEqDiff, ↓reduceIte]))
          (refine AWP.ret ?_; refine retOk1 (by simp only [go_sem, seval, ↓reduceIte, decide_true, decide_false]; rfl) ?_)
          rfl
      · (repeat (first | ((with_reducible refine rgn_cons rfl (fun K hK => ?_)); simp only [go_sem, seval, ↓reduceIte, decide_true, decide_false, bneT hc]; (first | refine hK _ _ _ (by simp only [go_sem, Nat.reduceEqDiff, ↓reduceIte]; rfl) ?_ | refine ⟨_, hD, hK _ _ _ (by simp only [go_sem, Nat.reduceEqDiff, ↓reduceIte]; rfl) ?_⟩ | refine ⟨_, c_impl_AreIsomorphicCurves p x y z w, hK _ _ _ (by simp only [go_sem, Nat.reduceEqDiff, ↓reduceIte]; rfl) ?_⟩ | refine ⟨_, c_spec_AreIsomorphicCurves p x y z w, hK _ _ _ (by simp only [go_sem, Nat.reduceEqDiff, ↓reduceIte]; rfl) ?_⟩); clear hK; clear K) | (with_reducible first | refine rgn_nil (by first | trivial | kernel_rfl) ?_ | refine AWP.seq ?_ | refine tX hC hP (by kernel_rfl) ?_ | refine aX hC hM hP (by kernel_rfl) ?_ | refine AWP.skip ?_ | refine AWP.label ?_ | refine AWP.exit ?_ | refine AWP.block ?_ | refine cTa ?_ | refine cFa ?_) | simp only [qS, Nat.reduceEqDiff, ↓reduceIte]))
        (refine AWP.ret ?_; refine retOk1 (by simp only [go_sem, seval, ↓reduceIte, decide_true, decide_false]; rfl) ?_)
        rfl
    · simp only [putSeq]
      obtain ⟨p, x, y, L1, n, hr, hD⟩ := DrawMultiplyPoint_ex (a := a) (c := c) hB
      have hl : L1.length ≤ 1099511627776 := by have := hr.1; omega
      by_cases hc : codeM p x y L1 n = 0
      · have h1 := c_impl_MultiplyPoint_ok p x y L1 n hl hc
        have h2 := c_spec_MultiplyPoint_ok p x y L1 n hl hc
        rw [hc] at h1 h2
        have hcP : codeP p x y [L1] = 0 := by
          unfold codeM at hc
          split at hc
          · assumption
          · exact absurd hc ‹_›
        obtain ⟨hE, hPk⟩ := codeP_zz hcP
        have he := codeE_zero hE
        have hm := (mulE_ok (a := x) (show 0 < p by omega) n.toNat (show PtOk p [] from .inl rfl) (hasB_ok (hPk L1 (by simp)))).len
        (repeat (first | ((with_reducible refine rgn_cons rfl (fun K hK => ?_)); simp only [go_sem, seval, ↓reduceIte, decide_true, decide_false]; (first | refine hK _ _ _ (by simp only [go_sem, Nat.reduceEqDiff, ↓reduceIte]; rfl) ?_ | refine ⟨_, hD, hK _ _ _ (by simp only [go_sem, Nat.reduceEqDiff, ↓reduceIte]; rfl) ?_⟩ | refine ⟨_, h1, hK _ _ _ (by simp only [go_sem, Nat.reduceEqDiff, ↓reduceIte]; rfl) ?_⟩ | refine ⟨_, h2, hK _ _ _ (by simp only [go_sem, Nat.reduceEqDiff, ↓reduceIte]; rfl) ?_⟩ | refine ⟨_, c_laws_likeInts (mulE p x [] L1 n.toNat) (by omega), hK _ _ _ (by simp only [go_sem, Nat.reduceEqDiff, ↓reduceIte]; rfl) ?_⟩); clear hK; clear K) | (with_reducible first | refine rgn_nil (by first | trivial | kernel_rfl) ?_ | refine AWP.seq ?_ | refine tX hC hP (by kernel_rfl) ?_ | refine aX hC hM hP (by kernel_rfl) ?_ | refine AWP.skip ?_ | refine AWP.label ?_ | refine AWP.exit ?_ | refine AWP.block ?_ | refine cTa ?_ | refine cFa ?_) | simp only [qS, Nat.reduceEqDiff, ↓reduceIte]))
        refine AWP.sub ?_ (by rfl) tail
        simp [Sub, lk]
      · (repeat (first | ((with_reducible refine rgn_cons rfl (fun K hK => ?_)); simp only [go_sem, seval, ↓reduceIte, decide_true, decide_false]; (first | refine hK _ _ _ (by simp only [go_sem, Nat.reduceEqDiff, ↓reduceIte]; rfl) ?_ | refine ⟨_, hD, hK _ _ _ (by simp only [go_sem, Nat.reduceEqDiff, ↓reduceIte]; rfl) ?_⟩ | refine ⟨_, c_impl_MultiplyPoint_no p x y L1 n hl hc, hK _ _ _ (by simp only [go_sem, Nat.reduceEqDiff, ↓reduceIte]; rfl) ?_⟩ | refine ⟨_, c_spec_MultiplyPoint_no p x y L1 n hl hc, hK _ _ _ (by simp only [go_sem, Nat.reduceEqDiff, ↓reduceIte]; rfl) ?_⟩ | refine ⟨_, c_laws_likeInts_nil, hK _ _ _ (by simp only [go_sem, Nat.reduceEqDiff, ↓reduceIte]; rfl) ?_⟩); clear hK; clear K) | (with_reducible first | refine rgn_nil (by first | trivial | kernel_rfl) ?_ | refine AWP.seq ?_ | refine tX hC hP (by kernel_rfl) ?_ | refine aX hC hM hP (by kernel_rfl) ?_ | refine AWP.skip ?_ | refine AWP.label ?_ | refine AWP.exit ?_ | refine AWP.block ?_ | refine cTa ?_ | refine cFa ?_) | simp only [qS, Nat.reduceEqDiff, ↓reduceIte]))
        refine AWP.sub ?_ (by rfl) tail
        simp [Sub, lk]
  · simp only [putSeq]
    obtain ⟨p, x, y, P, Q, hrP, hrQ, hD⟩ := DrawAddPoints_ex (a := a) (c := c) hB
    have hlP : P.length ≤ 1099511627776 := by have := hrP.1; omega
    have hlQ : Q.length ≤ 1099511627776 := by have := hrQ.1; omega
    by_cases hc : codeP p x y [P, Q] = 0
    · obtain ⟨hE, hPQ⟩ := codeP_zz hc
      obtain ⟨hf, h5, h97, _, _, _, _, hd⟩ := codeE_zero hE
      have hPk := hPQ P (by simp)
      have hQ := hPQ Q (by simp)
      have hS := hasB_add hf hPk hQ
      have cA := addPC hE hPk hQ
      have cA' := c_spec_AddPoints_ok p x y P Q hlP hlQ hc
      rw [hc] at cA'
      have cB := addPC hE hQ hPk
      rw [addE_comm hf hd hQ hPk] at cB
      have cC := addPC hE hS hQ
      have cD := addPC hE hQ hQ
      have kF := addPC hE hPk (hasB_add hf hQ hQ)
      rw [← addE_assoc hf hd hPk hQ hQ] at kF
      have hcP : codeP p x y [P] = 0 := codeP_ff hE (fun z hz => by rw [List.mem_singleton.1 hz]; exact hPk)
      have cO := c_impl_OrderOfPoint p x y P hlP
      rw [orderR, if_pos hcP, hcP] at cO
      have hord := ord_E hf hd ⟨P, hPk⟩
      have hdv := ord_count hf hd _ hord
      have hob := (ordN_facts hf hd hPk).1
      have hz : mulE p x [] P (ordN p x P + 1) = [] := by
        have := mul_nsm hf hd (ordN p x P + 1) (abE hf hd).zero ⟨P, hPk⟩
        rw [hord.zero, Ab.zero_add] at this
        exact this
      have hcM : codeM p x y P ((ordN p x P + 1 : Nat) : Int) = 0 := by
        rw [codeM, if_pos hcP, if_pos]
        simp only [Bool.and_eq_true, decide_eq_true_eq]
        omega
      have cM := c_impl_MultiplyPoint_ok p x y P ((ordN p x P + 1 : Nat) : Int) hlP hcM
      rw [hcM, Int.toNat_natCast, hz] at cM
      have cN := c_impl_CountPoints p x y
      rw [countR, if_pos hE, hE] at cN
      obtain ⟨n, hn⟩ : ∃ n, (ptsL p x y).length = n := ⟨_, rfl⟩
      rw [hn] at hdv cN
      generalize ordN p x P + 1 = o at *
      have hrem : (n : Int).tmod (o : Int) = 0 := by
        rw [tm _ _ (by omega), ← Int.natCast_emod, Nat.mod_eq_zero_of_dvd hdv]; rfl
      have l1 := (hasB_ok hS).len
      have l2 := (hasB_ok (hasB_add hf hS hQ)).len
      have ho1 := hord.pos
      (repeat (first | ((with_reducible refine rgn_cons rfl (fun K hK => ?_)); simp only [go_sem, seval, ↓reduceIte, decide_true, decide_false, hbig, decide_false, show ¬ ((o : Int) < 1) by omega, show (o : Int) ≠ 0 by omega, hrem, bne_self_eq_false]; (first | refine hK _ _ _ (by simp only [go_sem, Nat.reduceEqDiff, ↓reduceIte]; rfl) ?_ | refine ⟨_, hb, hK _ _ _ (by simp only [go_sem, Nat.reduceEqDiff, ↓reduceIte]; rfl) ?_⟩ | refine ⟨_, hD, hK _ _ _ (by simp only [go_sem, Nat.reduceEqDiff, ↓reduceIte]; rfl) ?_⟩ | refine ⟨_, cA, hK _ _ _ (by simp only [go_sem, Nat.reduceEqDiff, ↓reduceIte]; rfl) ?_⟩ | refine ⟨_, cA', hK _ _ _ (by simp only [go_sem, Nat.reduceEqDiff, ↓reduceIte]; rfl) ?_⟩ | refine ⟨_, cB, hK _ _ _ (by simp only [go_sem, Nat.reduceEqDiff, ↓reduceIte]; rfl) ?_⟩ | refine ⟨_, cC, hK _ _ _ (by simp only [go_sem, Nat.reduceEqDiff, ↓reduceIte]; rfl) ?_⟩ | refine ⟨_, cD, hK _ _ _ (by simp only [go_sem, Nat.reduceEqDiff, ↓reduceIte]; rfl) ?_⟩ | refine ⟨_, kF, hK _ _ _ (by simp only [go_sem, Nat.reduceEqDiff, ↓reduceIte]; rfl) ?_⟩ | refine ⟨_, cO, hK _ _ _ (by simp only [go_sem, Nat.reduceEqDiff, ↓reduceIte]; rfl) ?_⟩ | refine ⟨_, cM, hK _ _ _ (by simp only [go_sem, Nat.reduceEqDiff, ↓reduceIte]; rfl) ?_⟩ | refine ⟨_, cN, hK _ _ _ (by simp only [go_sem, Nat.reduceEqDiff, ↓reduceIte]; rfl) ?_⟩ | refine ⟨_, c_laws_likeInts (addE p x P Q) (by omega), hK _ _ _ (by simp only [go_sem, Nat.reduceEqDiff, ↓reduceIte]; rfl) ?_⟩ | refine ⟨_, c_laws_likeInts (addE p x (addE p x P Q) Q) (by omega), hK _ _ _ (by simp only [go_sem, Nat.reduceEqDiff, ↓reduceIte]; rfl) ?_⟩); clear hK; clear K) | (with_reducible first | refine rgn_nil (by first | trivial | kernel_rfl) ?_ | refine AWP.seq ?_ | refine tX hC hP (by kernel_rfl) ?_ | refine aX hC hM hP (by kernel_rfl) ?_ | refine AWP.skip ?_ | refine AWP.label ?_ | refine AWP.exit ?_ | refine AWP.block ?_ | refine cTa ?_ | refine cFa ?_) | simp only [qS, Nat.reduceEqDiff, ↓reduceIte]))
      refine AWP.sub ?_ (by rfl) tail
      simp [Sub, lk]
    · (repeat (first | ((with_reducible refine rgn_cons rfl (fun K hK => ?_)); simp only [go_sem, seval, ↓reduceIte, decide_true, decide_false, hbig, decide_false, beqF hc]; (first | refine hK _ _ _ (by simp only [go_sem, Nat.reduceEqDiff, ↓reduceIte]; rfl) ?_ | refine ⟨_, hb, hK _ _ _ (by simp only [go_sem, Nat.reduceEqDiff, ↓reduceIte]; rfl) ?_⟩ | refine ⟨_, hD, hK _ _ _ (by simp only [go_sem, Nat.reduceEqDiff, ↓reduceIte]; rfl) ?_⟩ | refine ⟨_, c_impl_AddPoints_no p x y P Q hlP hlQ hc, hK _ _ _ (by simp only [go_sem, Nat.reduceEqDiff, ↓reduceIte]; rfl) ?_⟩ | refine ⟨_, c_spec_AddPoints_no p x y P Q hlP hlQ hc, hK _ _ _ (by simp only [go_sem, Nat.reduceEqDiff, ↓reduceIte]; rfl) ?_⟩ | refine ⟨_, c_laws_likeInts_nil, hK _ _ _ (by simp only [go_sem, Nat.reduceEqDiff, ↓reduceIte]; rfl) ?_⟩); clear hK; clear K) | (with_reducible first | refine rgn_nil (by first | trivial | kernel_rfl) ?_ | refine AWP.seq ?_ | refine tX hC hP (by kernel_rfl) ?_ | refine aX hC hM hP (by kernel_rfl) ?_ | refine AWP.skip ?_ | refine AWP.label ?_ | refine AWP.exit ?_ | refine AWP.block ?_ | refine cTa ?_ | refine cFa ?_) | simp only [qS, Nat.reduceEqDiff, ↓reduceIte]))
      refine AWP.sub ?_ (by rfl) tail
      simp [Sub, lk]

end Go.Proofs.Ytoooefcjkmfhoaa
