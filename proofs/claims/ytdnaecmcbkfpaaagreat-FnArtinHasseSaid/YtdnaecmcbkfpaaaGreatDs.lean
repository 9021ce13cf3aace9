/-
  Sources of numbers: where they stand.
-/
import Derived.Test.YtdnaecmcbkfpaaaGreatTr
import Derived.Test.YtdnaecmcbkfpaaaGreatLa
import Derived.Test.YtdnaecmcbkfpaaaGreatPa
import Derived.Test.YtdnaecmcbkfpaaaGreatPa
namespace Go.Proofs.YtdnaecmcbkfpaaaGreat
open Go.RowKit
set_option linter.unusedSimpArgs false
set_option linter.unusedVariables false
set_option linter.unusedSectionVars false
set_option maxRecDepth 20000
-- Sources of numbers: where they stand.
/-- What slot t holds (data that nobody writes), told once more. -/
theorem AWP.ghost {C : Ctx} {n : Nat} {Q : Exit → Env → Prop} {env : Env} {c : Code} {t k : Nat} {y : T} (hl : lk env t = some ⟨k, .val y⟩) (h0 : lk env 3000000 = none) (h : AWP C n c Q ((3000000, ⟨0, .val y⟩) :: env)) : AWP C n c Q env := fun C1 hE a w hF => by
  obtain ⟨hd, hn, κ, V, hI, hV⟩ := hF
  obtain ⟨h1, cs, h2, h3⟩ := hI.val _ _ _ hl
  exact h C1 hE a w ⟨hd, hn, κ, _, hI.bind 3000000 0 y (V t) (by rw [h0]; exact Nat.le_refl _) h1 t ⟨cs, h2, h3⟩, fun t ht => by rw [upd_other _ _ _ _ (by omega)]; exact hV t ht⟩
/-- Bytes. -/
def Byt (l : List Int) : Prop := l.length ≤ 1099511627776 ∧ ∀ x ∈ l, 0 ≤ x ∧ x ≤ 255
/-- A place in a row of bytes. -/
def Sok (l : List Int) (s : Int × Int) : Prop := 0 ≤ s.1 ∧ s.1 ≤ (l.length : Int)
theorem beqF {x y : Int} (h : ¬ x = y) : (x == y) = false := by simpa using h
def hashN (h : Int) : Int := IntKind.u64.wrap (IntKind.u64.wrap (h * 6364136223846793005) + 1442695040888963407)
def drawX (h : Int) : Int := IntKind.i64.wrap (andI .u64 (shrI .u64 h 33) 16777215)
/-- Where the source stands behind a number drawn. -/
def nextS (l : List Int) (s : Int × Int) (n : Int) : Int × Int := if n < 1 then s else if s.1 < (l.length : Int) then (s.1 + 1, hashN s.2) else (s.1, hashN s.2)
/-- The number drawn. -/
def nextX (l : List Int) (s : Int × Int) (n : Int) : Int := if n < 1 then 0 else (if s.1 < (l.length : Int) then drawX (hashN s.2) + l.getD s.1.toNat 0 else drawX (hashN s.2)).tmod n
theorem srcScalar {a : Option Addr} {n c : Nat} {i j : Int} : ∀ t ∈ [T.str (.raw a n c), .int .i64 i, .int .u64 j], t.scalar = true := by
  intro t ht
  simp only [List.mem_cons, List.not_mem_nil, or_false] at ht
  rcases ht with rfl | rfl | rfl <;> rfl
theorem drawX_bound (h : Int) : 0 ≤ drawX h ∧ drawX h ≤ 16777215 := by
  have key : ∀ b : BitVec 64, 0 ≤ ((b &&& BitVec.ofInt 64 16777215).toNat : Int) ∧ ((b &&& BitVec.ofInt 64 16777215).toNat : Int) ≤ 16777215 := by
    intro b
    refine ⟨by omega, ?_⟩
    rw [BitVec.toNat_and]
    have : (BitVec.ofInt 64 16777215).toNat = 16777215 := by decide
    rw [this]
    have := Nat.and_le_right (n := b.toNat) (m := 16777215)
    omega
  have h1 := key (BitVec.ofInt 64 (shrI .u64 h 33))
  unfold drawX andI
  have e : IntKind.u64.wrap ((BitVec.ofInt IntKind.u64.bits (shrI .u64 h 33) &&& BitVec.ofInt IntKind.u64.bits 16777215).toNat : Int) = ((BitVec.ofInt 64 (shrI .u64 h 33) &&& BitVec.ofInt 64 16777215).toNat : Int) := by
    show IntKind.u64.wrap ((BitVec.ofInt 64 (shrI .u64 h 33) &&& BitVec.ofInt 64 16777215).toNat : Int) = _
    rw [IntKind.wrap_u64]
    omega
  rw [e, wid _ (by omega) (by omega)]
  exact h1
theorem byt_at {l : List Int} (hB : Byt l) (i : Nat) : 0 ≤ l.getD i 0 ∧ l.getD i 0 ≤ 255 := by
  rw [List.getD_eq_getElem?_getD]
  cases h : l[i]? with
  | none => simp
  | some x => simpa using hB.2 x (List.mem_of_getElem? h)
theorem nextX_bound {l : List Int} (hB : Byt l) (s : Int × Int) (n : Int) : 0 ≤ nextX l s n ∧ (1 ≤ n → nextX l s n < n) ∧ (n < 1 → nextX l s n = 0) := by
  unfold nextX
  have h1 := drawX_bound (hashN s.2)
  have h2 := byt_at hB s.1.toNat
  split
  · exact ⟨by omega, fun h => by omega, fun _ => rfl⟩
  · refine ⟨?_, fun _ => ?_, fun h => by omega⟩
    · rw [tm _ _ (by split <;> omega)]; exact (emod_b _ n (by omega)).1
    · rw [tm _ _ (by split <;> omega)]; exact (emod_b _ n (by omega)).2
theorem nextS_ok {l : List Int} {s : Int × Int} (hS : Sok l s) (n : Int) : Sok l (nextS l s n) := by
  obtain ⟨h1, h2⟩ := hS
  unfold nextS
  split
  · exact ⟨h1, h2⟩
  · split
    · exact ⟨by simp only; omega, by simp only; omega⟩
    · exact ⟨h1, h2⟩
set_option maxHeartbeats 1000000 in
theorem c_spec_l01Next (a : Option Addr) (c : Nat) (l : List Int) (hB : Byt l) (s : Int × Int) (hS : Sok l s) (n : Int) : AFn Tryz.prog (5000000 + 32) [.str (.src a c l), .box 93 (.agg [.str (.raw a l.length c), .int .i64 s.1, .int .u64 s.2]), .int .i64 n] (.tup [.int .i64 (nextX l s n), .box 93 (.agg [.str (.raw a l.length c), .int .i64 (nextS l s n).1, .int .u64 (nextS l s n).2])]) := by
  refine AFg.of' ttOk Tryz.func32 Tryz.ntmps32 (by rw [Tryz.results32]) (by rfl) (by rfl) (by simp) (by decide) (by decide) srcScalar srcScalar rfl (by simp only [go_sem, Nat.reduceAdd, ↓reduceIte]; rfl) mixed (fun C hP hM hC => ?_)
  by_cases h : n < 1
  · rw [show nextS l s n = s from if_pos h, show nextX l s n = 0 from if_pos h]
    (repeat (first | ((with_reducible refine rgn_cons rfl (fun K hK => ?_)); simp only [go_sem, seval, ↓reduceIte, decide_true, decide_false, h, decide_true]; (refine hK _ _ _ (by simp only [go_sem, Nat.reduceEqDiff, ↓reduceIte]; rfl) ?_); clear hK; clear K) | (with_reducible first | refine rgn_nil (by first | trivial | kernel_rfl) ?_ | refine AWP.seq ?_ | refine tX hC hP (by kernel_rfl) ?_ | refine aX hC hM hP (by kernel_rfl) ?_ | refine AWP.skip ?_ | refine AWP.label ?_ | refine AWP.exit ?_ | refine AWP.block ?_ | refine cTa ?_ | refine cFa ?_) | simp only [qS, Nat.reduceEqDiff, ↓reduceIte]))
    (refine AWP.ret ?_; refine retG1 (by simp only [go_sem, seval, ↓reduceIte, decide_true, decide_false]; rfl) (by simp) (by rfl) ?_)
    rfl
  · have e1 : IntKind.u64.wrap (IntKind.u64.wrap (s.2 * 6364136223846793005) + 1442695040888963407) = hashN s.2 := rfl
    have e2 : IntKind.i64.wrap (IntKind.u64.wrap ((BitVec.ofInt 64 (shrI .u64 (hashN s.2) 33) &&& 16777215#64).toNat : Int)) = drawX (hashN s.2) := rfl
    have h2 := drawX_bound (hashN s.2)
    have h3 := byt_at hB s.1.toNat
    have hb := hB.1
    obtain ⟨hs1, hs2⟩ := hS
    by_cases h1 : s.1 < (l.length : Int)
    · rw [show nextS l s n = (s.1 + 1, hashN s.2) by rw [nextS, if_neg h, if_pos h1], show nextX l s n = (drawX (hashN s.2) + l.getD s.1.toNat 0).tmod n by rw [nextX, if_neg h, if_pos h1]]
      (repeat (first | ((with_reducible refine rgn_cons rfl (fun K hK => ?_)); simp only [go_sem, seval, ↓reduceIte, decide_true, decide_false, h, h1, hs1, show n ≠ 0 by omega, decide_false, decide_true, e1, e2, wid (l.getD s.1.toNat 0) (by omega) (by omega), wid (s.1 + 1) (by omega) (by omega)]; (refine hK _ _ _ (by simp only [go_sem, Nat.reduceEqDiff, ↓reduceIte]; rfl) ?_); clear hK; clear K) | (with_reducible first | refine rgn_nil (by first | trivial | kernel_rfl) ?_ | refine AWP.seq ?_ | refine tX hC hP (by kernel_rfl) ?_ | refine aX hC hM hP (by kernel_rfl) ?_ | refine AWP.skip ?_ | refine AWP.label ?_ | refine AWP.exit ?_ | refine AWP.block ?_ | refine cTa ?_ | refine cFa ?_) | simp only [qS, Nat.reduceEqDiff, ↓reduceIte]))
      (refine AWP.ret ?_; refine retG1 (by simp only [go_sem, seval, ↓reduceIte, decide_true, decide_false]; rfl) (by simp) (by rfl) ?_)
      show _ = T.int .i64 ((IntKind.i64.wrap (drawX (hashN s.2) + l.getD s.1.toNat 0)).tmod n)
      rw [wid _ (by omega) (by omega)]
    · rw [show nextS l s n = (s.1, hashN s.2) by rw [nextS, if_neg h, if_neg h1], show nextX l s n = (drawX (hashN s.2)).tmod n by rw [nextX, if_neg h, if_neg h1]]
      (repeat (first | ((with_reducible refine rgn_cons rfl (fun K hK => ?_)); simp only [go_sem, seval, ↓reduceIte, decide_true, decide_false, h, h1, show n ≠ 0 by omega, decide_false, e1, e2]; (refine hK _ _ _ (by simp only [go_sem, Nat.reduceEqDiff, ↓reduceIte]; rfl) ?_); clear hK; clear K) | (with_reducible first | refine rgn_nil (by first | trivial | kernel_rfl) ?_ | refine AWP.seq ?_ | refine tX hC hP (by kernel_rfl) ?_ | refine aX hC hM hP (by kernel_rfl) ?_ | refine AWP.skip ?_ | refine AWP.label ?_ | refine AWP.exit ?_ | refine AWP.block ?_ | refine cTa ?_ | refine cFa ?_) | simp only [qS, Nat.reduceEqDiff, ↓reduceIte]))
      (refine AWP.ret ?_; refine retG1 (by simp only [go_sem, seval, ↓reduceIte, decide_true, decide_false]; rfl) (by simp) (by rfl) ?_)
      rfl
-- Draws of numbers.
def pickX (l : List Int) (s : Int × Int) (list : List Int) : Int := list.getD (nextX l s list.length).toNat 0
set_option maxHeartbeats 1000000 in
theorem c_spec_l01Pick (a : Option Addr) (c : Nat) (l : List Int) (hB : Byt l) (s : Int × Int) (hS : Sok l s) (list : List Int) (h0 : 0 < list.length) (hl : list.length ≤ 1000) : AFn Tryz.prog (5000000 + 69) [.str (.src a c l), .box 93 (.agg [.str (.raw a l.length c), .int .i64 s.1, .int .u64 s.2]), .sl false 2 (intL list)] (.tup [.int .i64 (pickX l s list), .box 93 (.agg [.str (.raw a l.length c), .int .i64 (nextS l s list.length).1, .int .u64 (nextS l s list.length).2])]) := by
  refine AFg.of' ttOk Tryz.func69 Tryz.ntmps69 (by rw [Tryz.results69]) (by rfl) (by rfl) (by simp) (by decide) (by decide) srcScalar srcScalar rfl (by simp only [go_sem, Nat.reduceAdd, ↓reduceIte]; rfl) mixed (fun C hP hM hC => ?_)
  have h1 := nextX_bound hB s list.length
  have h2 := h1.2.1 (by omega)
  have h3 : (nextX l s (list.length : Int)).toNat < list.length := by omega
  (repeat (first | ((with_reducible refine rgn_cons rfl (fun K hK => ?_)); simp only [go_sem, seval, ↓reduceIte, decide_true, decide_false, h1.1, h2, intL_getD list (nextX l s (list.length : Int)).toNat h3]; (first | refine hK _ _ _ (by simp only [go_sem, Nat.reduceEqDiff, ↓reduceIte]; rfl) ?_ | refine ⟨_, c_spec_l01Next a c l hB s hS list.length, hK _ _ _ (by simp only [go_sem, Nat.reduceEqDiff, ↓reduceIte]; rfl) ?_⟩); clear hK; clear K) | (with_reducible first | refine rgn_nil (by first | trivial | kernel_rfl) ?_ | refine AWP.seq ?_ | refine tX hC hP (by kernel_rfl) ?_ | refine aX hC hM hP (by kernel_rfl) ?_ | refine AWP.skip ?_ | refine AWP.label ?_ | refine AWP.exit ?_ | refine AWP.block ?_ | refine cTa ?_ | refine cFa ?_) | simp only [qS, Nat.reduceEqDiff, ↓reduceIte]))
  (refine AWP.ret ?_; refine retG1 (by simp only [go_sem, seval, ↓reduceIte, decide_true, decide_false]; rfl) (by simp) (by rfl) ?_)
  simp [pickX]
def drawM (l : List Int) (s : Int × Int) : Int := pickX l (nextS l (nextS l s 100) 9999) [2, 3, 4, 5, 6, 7, 8, 9, 10, 12, 16, 25, 27, 30, 49, 101, 210, 2 + nextX l s 100, 2 + nextX l (nextS l s 100) 9999, 10000]
def drawMS (l : List Int) (s : Int × Int) : Int × Int := nextS l (nextS l (nextS l s 100) 9999) 20
-- The beginning of a source.
def frS (l : List Int) : Nat → Int
  | 0 => IntKind.u64.wrap (5113 + IntKind.u64.wrap (l.length : Int))
  | i + 1 => IntKind.u64.wrap (IntKind.u64.wrap (IntKind.u64.wrap (frS l i * 1099511628211) + IntKind.u64.wrap (l.getD i 0)) + 11)
def from0 (l : List Int) : Int × Int := (0, frS l (min l.length 4096))
theorem from0_ok (l : List Int) : Sok l (from0 l) := ⟨Int.le_refl 0, Int.natCast_nonneg _⟩
set_option maxHeartbeats 1000000 in
theorem c_spec_l01From (a : Option Addr) (c : Nat) (l : List Int) (hB : Byt l) : AFn Tryz.prog 30 [.str (.src a c l)] (.box 93 (.agg [.str (.raw a l.length c), .int .i64 (from0 l).1, .int .u64 (from0 l).2])) := by
  refine AFn.of' ttOk (by decide) Tryz.func30 Tryz.ntmps30 (by rw [Tryz.results30]) (by rfl) (by rfl) (by simp) (by decide) (by simp only [go_sem, Nat.reduceAdd, ↓reduceIte]; rfl) mixed (fun C hP hM hC => ?_)
  have hb := hB.1
  (repeat (first | ((with_reducible refine rgn_cons rfl (fun K hK => ?_)); simp only [go_sem, seval, ↓reduceIte, decide_true, decide_false]; (refine hK _ _ _ (by simp only [go_sem, Nat.reduceEqDiff, ↓reduceIte]; rfl) ?_); clear hK; clear K) | (with_reducible first | refine rgn_nil (by first | trivial | kernel_rfl) ?_ | refine AWP.seq ?_ | refine tX hC hP (by kernel_rfl) ?_ | refine aX hC hM hP (by kernel_rfl) ?_ | refine AWP.skip ?_ | refine AWP.label ?_ | refine AWP.exit ?_ | refine AWP.block ?_ | refine cTa ?_ | refine cFa ?_) | simp only [qS, Nat.reduceEqDiff, ↓reduceIte]))
  refine AWP.loop (fun i : Nat => [(4, ⟨0, .val (.int .i64 i)⟩), (3, ⟨0, .val (.addr 11 1 [] 0 [0])⟩), (11, ⟨1, .own (.box 93 (.agg [.str (.raw a l.length c), .int .i64 0, .int .u64 (frS l i)]))⟩), (0, ⟨0, .val (.str (.src a c l))⟩)]) (fun i => i ≤ l.length ∧ i ≤ 4096) (fun i => 4096 - i) 0 ⟨Nat.zero_le _, Nat.zero_le _⟩ (fun i => rfl) ?_ (fun i hi => ?_)
  · simp [Sub, lk, frS]
  · by_cases h1 : i < l.length
    · by_cases h2 : i < 4096
      · (repeat (first | ((with_reducible refine rgn_cons rfl (fun K hK => ?_)); simp only [go_sem, seval, ↓reduceIte, decide_true, decide_false, show (i : Int) < (l.length : Int) by omega, show (i : Int) < 4096 by omega, decide_true, Int.natCast_nonneg, Int.toNat_natCast, wid ((i : Int) + 1) (by omega) (by omega)]; (refine hK _ _ _ (by simp only [go_sem, Nat.reduceEqDiff, ↓reduceIte]; rfl) ?_); clear hK; clear K) | (with_reducible first | refine rgn_nil (by first | trivial | kernel_rfl) ?_ | refine AWP.seq ?_ | refine tX hC hP (by kernel_rfl) ?_ | refine aX hC hM hP (by kernel_rfl) ?_ | refine AWP.skip ?_ | refine AWP.label ?_ | refine AWP.exit ?_ | refine AWP.block ?_ | refine cTa ?_ | refine cFa ?_) | simp only [qS, Nat.reduceEqDiff, ↓reduceIte]))
        exact ⟨i + 1, ⟨h1, h2⟩, by omega, by simp [Sub, lk, frS]⟩
      · (repeat (first | ((with_reducible refine rgn_cons rfl (fun K hK => ?_)); simp only [go_sem, seval, ↓reduceIte, decide_true, decide_false, show (i : Int) < (l.length : Int) by omega, show ¬ (i : Int) < 4096 by omega, decide_true, decide_false]; (refine hK _ _ _ (by simp only [go_sem, Nat.reduceEqDiff, ↓reduceIte]; rfl) ?_); clear hK; clear K) | (with_reducible first | refine rgn_nil (by first | trivial | kernel_rfl) ?_ | refine AWP.seq ?_ | refine tX hC hP (by kernel_rfl) ?_ | refine aX hC hM hP (by kernel_rfl) ?_ | refine AWP.skip ?_ | refine AWP.label ?_ | refine AWP.exit ?_ | refine AWP.block ?_ | refine cTa ?_ | refine cFa ?_) | simp only [qS, Nat.reduceEqDiff, ↓reduceIte]))
        (refine AWP.ret ?_; refine retOk1 (by simp only [go_sem, seval, ↓reduceIte, decide_true, decide_false]; rfl) ?_)
        rw [from0, show min l.length 4096 = i by omega]
    · (repeat (first | ((with_reducible refine rgn_cons rfl (fun K hK => ?_)); simp only [go_sem, seval, ↓reduceIte, decide_true, decide_false, show ¬ (i : Int) < (l.length : Int) by omega, decide_false]; (refine hK _ _ _ (by simp only [go_sem, Nat.reduceEqDiff, ↓reduceIte]; rfl) ?_); clear hK; clear K) | (with_reducible first | refine rgn_nil (by first | trivial | kernel_rfl) ?_ | refine AWP.seq ?_ | refine tX hC hP (by kernel_rfl) ?_ | refine aX hC hM hP (by kernel_rfl) ?_ | refine AWP.skip ?_ | refine AWP.label ?_ | refine AWP.exit ?_ | refine AWP.block ?_ | refine cTa ?_ | refine cFa ?_) | simp only [qS, Nat.reduceEqDiff, ↓reduceIte]))
      (refine AWP.ret ?_; refine retOk1 (by simp only [go_sem, seval, ↓reduceIte, decide_true, decide_false]; rfl) ?_)
      rw [from0, show min l.length 4096 = i by omega]
end Go.Proofs.YtdnaecmcbkfpaaaGreat
