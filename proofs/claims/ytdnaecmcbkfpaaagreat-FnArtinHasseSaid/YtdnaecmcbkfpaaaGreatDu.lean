/-
  Draws of primes, big vectors and Witt vectors.
-/
import Derived.Test.YtdnaecmcbkfpaaaGreatDs
import Derived.Test.YtdnaecmcbkfpaaaGreatLcc
import Derived.Test.YtdnaecmcbkfpaaaGreatLd
import Derived.Test.YtdnaecmcbkfpaaaGreatHk
namespace Go.Proofs.YtdnaecmcbkfpaaaGreat
open Go.RowKit
set_option linter.unusedSimpArgs false
set_option linter.unusedVariables false
set_option linter.unusedSectionVars false
set_option maxRecDepth 20000
-- Draws of primes, big vectors and Witt vectors.
abbrev SRA (a : Option Addr) (c : Nat) (l : List Int) (s : Int × Int) : T := .box 93 (.agg [.str (.raw a l.length c), .int .i64 s.1, .int .u64 s.2])
/-- Powers of p, as many as the source says. -/
def qrL (l : List Int) (p : Int) : Nat → Int → Int × Int → Int × (Int × Int)
  | 0, m, s => (m, s)
  | f + 1, m, s => if m * p ≤ 10000 then (if nextX l s 3 = 0 then qrL l p f (m * p) (nextS l s 3) else (m, nextS l s 3)) else (m, s)
def qrP (l : List Int) (s : Int × Int) : Int := pickX l s [2, 2, 3, 3, 5, 7]
def qrQ (l : List Int) (s : Int × Int) : Int × (Int × Int) := qrL l (qrP l s) 20 (qrP l s) (nextS l s 6)
theorem pick_in {l : List Int} (hB : Byt l) (s : Int × Int) (list : List Int) (h0 : 0 < list.length) : pickX l s list ∈ list := by
  have h1 := nextX_bound hB s list.length
  have h2 := h1.2.1 (by omega)
  unfold pickX
  rw [List.getD_eq_getElem?_getD, List.getElem?_eq_getElem (by omega), Option.getD_some]
  exact List.getElem_mem _
theorem qrP_b {l : List Int} (hB : Byt l) (s : Int × Int) : 2 ≤ qrP l s ∧ qrP l s ≤ 7 := by
  have := pick_in hB s [2, 2, 3, 3, 5, 7] (by simp)
  simp only [List.mem_cons, List.not_mem_nil, or_false] at this
  unfold qrP
  omega
theorem qrL_ok {l : List Int} {p : Int} (hp : 2 ≤ p) : ∀ (f : Nat) (m : Int) (s : Int × Int), 1 ≤ m → m ≤ 10000 → Sok l s → (1 ≤ (qrL l p f m s).1 ∧ (qrL l p f m s).1 ≤ 10000) ∧ Sok l (qrL l p f m s).2
  | 0, m, s, h1, h2, h3 => ⟨⟨h1, h2⟩, h3⟩
  | f + 1, m, s, h1, h2, h3 => by
    unfold qrL
    split
    · rename_i h
      split
      · exact qrL_ok hp f _ _ (by have : m * 2 ≤ m * p := Int.mul_le_mul_of_nonneg_left hp (by omega); omega) h (nextS_ok h3 3)
      · exact ⟨⟨h1, h2⟩, nextS_ok h3 3⟩
    · exact ⟨⟨h1, h2⟩, h3⟩
theorem qrQ_ok {l : List Int} (hB : Byt l) {s : Int × Int} (hS : Sok l s) : (1 ≤ (qrQ l s).1 ∧ (qrQ l s).1 ≤ 10000) ∧ Sok l (qrQ l s).2 := by
  have hb := qrP_b hB s
  exact qrL_ok hb.1 20 _ _ (by omega) (by omega) (nextS_ok hS 6)
def qrA (l : List Int) (s : Int × Int) : Int := if nextX l (qrQ l s).2 30 = 0 then pickX l (nextS l (qrQ l s).2 30) [11, 4] else qrP l s
def qrB (l : List Int) (s : Int × Int) : Int := if nextX l (qrQ l s).2 30 = 0 then (qrQ l s).1 else if nextX l (qrQ l s).2 30 = 1 then pickX l (nextS l (qrQ l s).2 30) [6, 1, 10001] else (qrQ l s).1
def qrS (l : List Int) (s : Int × Int) : Int × Int := if nextX l (qrQ l s).2 30 = 0 then nextS l (nextS l (qrQ l s).2 30) 2 else if nextX l (qrQ l s).2 30 = 1 then nextS l (nextS l (qrQ l s).2 30) 3 else nextS l (qrQ l s).2 30
theorem qrS_ok {l : List Int} (hB : Byt l) {s : Int × Int} (hS : Sok l s) : Sok l (qrS l s) := by
  have h := (qrQ_ok hB hS).2
  unfold qrS
  split
  · exact nextS_ok (nextS_ok h _) _
  · split
    · exact nextS_ok (nextS_ok h _) _
    · exact nextS_ok h _
theorem qrB_b {l : List Int} (hB : Byt l) {s : Int × Int} (hS : Sok l s) : 1 ≤ qrB l s ∧ qrB l s ≤ 10001 := by
  have h := (qrQ_ok hB hS).1
  unfold qrB
  split
  · omega
  · split
    · have := pick_in hB (nextS l (qrQ l s).2 30) [6, 1, 10001] (by simp)
      simp only [List.mem_cons, List.not_mem_nil, or_false] at this
      omega
    · omega
set_option maxHeartbeats 2000000 in
theorem c_spec_l15Prime (a : Option Addr) (c : Nat) (l : List Int) (hB : Byt l) (s : Int × Int) (hS : Sok l s)  : AFn Tryz.prog (5000000 + 31) [.str (.src a c l), .box 93 (.agg [.str (.raw a l.length c), .int .i64 s.1, .int .u64 s.2])] (.tup [(.tup [.int .i64 (qrA l s), .int .i64 (qrB l s)]), .box 93 (.agg [.str (.raw a l.length c), .int .i64 (qrS l s).1, .int .u64 (qrS l s).2])]) := by
  refine AFg.of' ttOk Tryz.func31 Tryz.ntmps31 (by rw [Tryz.results31]) (by rfl) (by rfl) (by simp) (by decide) (by decide) srcScalar srcScalar rfl (by simp only [go_sem, Nat.reduceAdd, ↓reduceIte]; rfl) mixed (fun C hP hM hC => ?_)
  have hb := qrP_b hB s
  have hQ := qrQ_ok hB hS
  (repeat (first | ((with_reducible refine rgn_cons rfl (fun K hK => ?_)); simp only [go_sem, seval, ↓reduceIte, decide_true, decide_false, show pickX l s [2, 2, 3, 3, 5, 7] = qrP l s from rfl]; (first | refine hK _ _ _ (by simp only [go_sem, Nat.reduceEqDiff, ↓reduceIte]; rfl) ?_ | refine ⟨_, c_spec_l01Pick a c l hB s hS [2, 2, 3, 3, 5, 7] (by simp) (by simp), hK _ _ _ (by simp only [go_sem, Nat.reduceEqDiff, ↓reduceIte]; rfl) ?_⟩); clear hK; clear K) | (with_reducible first | refine rgn_nil (by first | trivial | kernel_rfl) ?_ | refine AWP.seq ?_ | refine tX hC hP (by kernel_rfl) ?_ | refine aX hC hM hP (by kernel_rfl) ?_ | refine AWP.skip ?_ | refine AWP.label ?_ | refine AWP.exit ?_ | refine AWP.block ?_ | refine cTa ?_ | refine cFa ?_) | simp only [qS, Nat.reduceEqDiff, ↓reduceIte]))
  refine AWP.loop (fun w : Nat × Int × (Int × Int) => [(5, ⟨0, .val (.int .i64 w.2.1)⟩), (4, ⟨0, .val (.int .i64 (qrP l s))⟩), (3000000, ⟨0, .val (.str (.src a c l))⟩), (0, ⟨0, .val (.addr 3000001 0 [] 0 [0])⟩), (3000001, ⟨0, .own (.box 93 (.agg [.str (.raw a l.length c), .int .i64 w.2.2.1, .int .u64 w.2.2.2]))⟩)]) (fun w => qrL l (qrP l s) w.1 w.2.1 w.2.2 = qrQ l s ∧ 10000 < w.2.1 * 2 ^ w.1 ∧ 1 ≤ w.2.1 ∧ w.2.1 ≤ 10000 ∧ Sok l w.2.2) (fun w => w.1) (20, qrP l s, nextS l s 6) ⟨rfl, by simp only; omega, by simp only; omega, by simp only; omega, nextS_ok hS 6⟩ (fun i => rfl) ?_ (fun w hw => ?_)
  · simp [Sub, lk]
  · obtain ⟨f, m, s1⟩ := w
    simp only at hw ⊢
    obtain ⟨hE, hf, hm1, hm2, hS1⟩ := hw
    have hmp : 0 ≤ m * qrP l s ∧ m * qrP l s ≤ 70000 := by
      constructor
      · exact Int.mul_nonneg (by omega) (by omega)
      · have := Int.mul_le_mul hm2 hb.2 (by omega) (by omega); omega
    cases f with
    | zero => simp at hf; omega
    | succ f =>
      by_cases c1 : m * qrP l s ≤ 10000
      · by_cases c2 : nextX l s1 3 = 0
        · rw [qrL, if_pos c1, if_pos c2] at hE
          (repeat (first | ((with_reducible refine rgn_cons rfl (fun K hK => ?_)); simp only [go_sem, seval, ↓reduceIte, decide_true, decide_false, wid (m * qrP l s) (by omega) (by omega), c1, c2, decide_true]; (first | refine hK _ _ _ (by simp only [go_sem, Nat.reduceEqDiff, ↓reduceIte]; rfl) ?_ | refine ⟨_, c_spec_l01Next a c l hB s1 hS1 3, hK _ _ _ (by simp only [go_sem, Nat.reduceEqDiff, ↓reduceIte]; rfl) ?_⟩); clear hK; clear K) | (with_reducible first | refine rgn_nil (by first | trivial | kernel_rfl) ?_ | refine AWP.seq ?_ | refine tX hC hP (by kernel_rfl) ?_ | refine aX hC hM hP (by kernel_rfl) ?_ | refine AWP.skip ?_ | refine AWP.label ?_ | refine AWP.exit ?_ | refine AWP.block ?_ | refine cTa ?_ | refine cFa ?_) | simp only [qS, Nat.reduceEqDiff, ↓reduceIte]))
          exact ⟨(f, m * qrP l s, nextS l s1 3), ⟨hE, by
            have h2 : m * 2 ^ (f + 1) = m * 2 * 2 ^ f := by rw [Int.pow_succ]; grind
            have h3 : m * 2 * 2 ^ f ≤ m * qrP l s * 2 ^ f := Int.mul_le_mul_of_nonneg_right (Int.mul_le_mul_of_nonneg_left hb.1 (by omega)) (Int.pow_nonneg (by decide))
            simp only; omega, by
            have : m * 2 ≤ m * qrP l s := Int.mul_le_mul_of_nonneg_left hb.1 (by omega)
            simp only; omega, c1, nextS_ok hS1 3⟩, by simp only; omega, by simp [Sub, lk]⟩
        · rw [qrL, if_pos c1, if_neg c2] at hE
          have e1 : (qrQ l s).1 = m := by rw [← hE]
          have e2 : (qrQ l s).2 = nextS l s1 3 := by rw [← hE]
          have hS2 := nextS_ok hS1 3
          by_cases d0 : nextX l (nextS l s1 3) 30 = 0
          · unfold qrA qrB qrS
            rw [e1, e2, if_pos d0, if_pos d0, if_pos d0]
            (repeat (first | ((with_reducible refine rgn_cons rfl (fun K hK => ?_)); simp only [go_sem, seval, ↓reduceIte, decide_true, decide_false, wid (m * qrP l s) (by omega) (by omega), c1, beqF c2, d0, decide_true]; (first | refine hK _ _ _ (by simp only [go_sem, Nat.reduceEqDiff, ↓reduceIte]; rfl) ?_ | refine ⟨_, c_spec_l01Next a c l hB s1 hS1 3, hK _ _ _ (by simp only [go_sem, Nat.reduceEqDiff, ↓reduceIte]; rfl) ?_⟩ | refine ⟨_, c_spec_l01Next a c l hB _ hS2 30, hK _ _ _ (by simp only [go_sem, Nat.reduceEqDiff, ↓reduceIte]; rfl) ?_⟩ | refine ⟨_, c_spec_l01Pick a c l hB _ (nextS_ok hS2 30) [11, 4] (by simp) (by simp), hK _ _ _ (by simp only [go_sem, Nat.reduceEqDiff, ↓reduceIte]; rfl) ?_⟩); clear hK; clear K) | (with_reducible first | refine rgn_nil (by first | trivial | kernel_rfl) ?_ | refine AWP.seq ?_ | refine tX hC hP (by kernel_rfl) ?_ | refine aX hC hM hP (by kernel_rfl) ?_ | refine AWP.skip ?_ | refine AWP.label ?_ | refine AWP.exit ?_ | refine AWP.block ?_ | refine cTa ?_ | refine cFa ?_) | simp only [qS, Nat.reduceEqDiff, ↓reduceIte]))
            (refine AWP.ret ?_; refine retG2 (by simp only [go_sem, seval, ↓reduceIte, decide_true, decide_false]; rfl) (by simp only [go_sem, seval, ↓reduceIte, decide_true, decide_false]; rfl) (by simp) (by rfl) ?_)
            rfl
          · by_cases d1 : nextX l (nextS l s1 3) 30 = 1
            · unfold qrA qrB qrS
              rw [e1, e2, if_neg d0, if_neg d0, if_neg d0, if_pos d1, if_pos d1]
              (repeat (first | ((with_reducible refine rgn_cons rfl (fun K hK => ?_)); simp only [go_sem, seval, ↓reduceIte, decide_true, decide_false, wid (m * qrP l s) (by omega) (by omega), c1, beqF c2, d1, show ((1 : Int) == 0) = false from rfl, decide_true]; (first | refine hK _ _ _ (by simp only [go_sem, Nat.reduceEqDiff, ↓reduceIte]; rfl) ?_ | refine ⟨_, c_spec_l01Next a c l hB s1 hS1 3, hK _ _ _ (by simp only [go_sem, Nat.reduceEqDiff, ↓reduceIte]; rfl) ?_⟩ | refine ⟨_, c_spec_l01Next a c l hB _ hS2 30, hK _ _ _ (by simp only [go_sem, Nat.reduceEqDiff, ↓reduceIte]; rfl) ?_⟩ | refine ⟨_, c_spec_l01Pick a c l hB _ (nextS_ok hS2 30) [6, 1, 10001] (by simp) (by simp), hK _ _ _ (by simp only [go_sem, Nat.reduceEqDiff, ↓reduceIte]; rfl) ?_⟩); clear hK; clear K) | (with_reducible first | refine rgn_nil (by first | trivial | kernel_rfl) ?_ | refine AWP.seq ?_ | refine tX hC hP (by kernel_rfl) ?_ | refine aX hC hM hP (by kernel_rfl) ?_ | refine AWP.skip ?_ | refine AWP.label ?_ | refine AWP.exit ?_ | refine AWP.block ?_ | refine cTa ?_ | refine cFa ?_) | simp only [qS, Nat.reduceEqDiff, ↓reduceIte]))
              (refine AWP.ret ?_; refine retG2 (by simp only [go_sem, seval, ↓reduceIte, decide_true, decide_false]; rfl) (by simp only [go_sem, seval, ↓reduceIte, decide_true, decide_false]; rfl) (by simp) (by rfl) ?_)
              rfl
            · unfold qrA qrB qrS
              rw [e1, e2, if_neg d0, if_neg d0, if_neg d0, if_neg d1, if_neg d1]
              (repeat (first | ((with_reducible refine rgn_cons rfl (fun K hK => ?_)); simp only [go_sem, seval, ↓reduceIte, decide_true, decide_false, wid (m * qrP l s) (by omega) (by omega), c1, beqF c2, beqF d0, beqF d1, decide_true]; (first | refine hK _ _ _ (by simp only [go_sem, Nat.reduceEqDiff, ↓reduceIte]; rfl) ?_ | refine ⟨_, c_spec_l01Next a c l hB s1 hS1 3, hK _ _ _ (by simp only [go_sem, Nat.reduceEqDiff, ↓reduceIte]; rfl) ?_⟩ | refine ⟨_, c_spec_l01Next a c l hB _ hS2 30, hK _ _ _ (by simp only [go_sem, Nat.reduceEqDiff, ↓reduceIte]; rfl) ?_⟩); clear hK; clear K) | (with_reducible first | refine rgn_nil (by first | trivial | kernel_rfl) ?_ | refine AWP.seq ?_ | refine tX hC hP (by kernel_rfl) ?_ | refine aX hC hM hP (by kernel_rfl) ?_ | refine AWP.skip ?_ | refine AWP.label ?_ | refine AWP.exit ?_ | refine AWP.block ?_ | refine cTa ?_ | refine cFa ?_) | simp only [qS, Nat.reduceEqDiff, ↓reduceIte]))
              (refine AWP.ret ?_; refine retG2 (by simp only [go_sem, seval, ↓reduceIte, decide_true, decide_false]; rfl) (by simp only [go_sem, seval, ↓reduceIte, decide_true, decide_false]; rfl) (by simp) (by rfl) ?_)
              rfl
      · rw [qrL, if_neg c1] at hE
        have e1 : (qrQ l s).1 = m := by rw [← hE]
        have e2 : (qrQ l s).2 = s1 := by rw [← hE]
        by_cases d0 : nextX l s1 30 = 0
        · unfold qrA qrB qrS
          rw [e1, e2, if_pos d0, if_pos d0, if_pos d0]
          (repeat (first | ((with_reducible refine rgn_cons rfl (fun K hK => ?_)); simp only [go_sem, seval, ↓reduceIte, decide_true, decide_false, wid (m * qrP l s) (by omega) (by omega), c1, d0, decide_false]; (first | refine hK _ _ _ (by simp only [go_sem, Nat.reduceEqDiff, ↓reduceIte]; rfl) ?_ | refine ⟨_, c_spec_l01Next a c l hB _ hS1 30, hK _ _ _ (by simp only [go_sem, Nat.reduceEqDiff, ↓reduceIte]; rfl) ?_⟩ | refine ⟨_, c_spec_l01Pick a c l hB _ (nextS_ok hS1 30) [11, 4] (by simp) (by simp), hK _ _ _ (by simp only [go_sem, Nat.reduceEqDiff, ↓reduceIte]; rfl) ?_⟩); clear hK; clear K) | (with_reducible first | refine rgn_nil (by first | trivial | kernel_rfl) ?_ | refine AWP.seq ?_ | refine tX hC hP (by kernel_rfl) ?_ | refine aX hC hM hP (by kernel_rfl) ?_ | refine AWP.skip ?_ | refine AWP.label ?_ | refine AWP.exit ?_ | refine AWP.block ?_ | refine cTa ?_ | refine cFa ?_) | simp only [qS, Nat.reduceEqDiff, ↓reduceIte]))
          (refine AWP.ret ?_; refine retG2 (by simp only [go_sem, seval, ↓reduceIte, decide_true, decide_false]; rfl) (by simp only [go_sem, seval, ↓reduceIte, decide_true, decide_false]; rfl) (by simp) (by rfl) ?_)
          rfl
        · by_cases d1 : nextX l s1 30 = 1
          · unfold qrA qrB qrS
            rw [e1, e2, if_neg d0, if_neg d0, if_neg d0, if_pos d1, if_pos d1]
            (repeat (first | ((with_reducible refine rgn_cons rfl (fun K hK => ?_)); simp only [go_sem, seval, ↓reduceIte, decide_true, decide_false, wid (m * qrP l s) (by omega) (by omega), c1, d1, show ((1 : Int) == 0) = false from rfl, decide_false]; (first | refine hK _ _ _ (by simp only [go_sem, Nat.reduceEqDiff, ↓reduceIte]; rfl) ?_ | refine ⟨_, c_spec_l01Next a c l hB _ hS1 30, hK _ _ _ (by simp only [go_sem, Nat.reduceEqDiff, ↓reduceIte]; rfl) ?_⟩ | refine ⟨_, c_spec_l01Pick a c l hB _ (nextS_ok hS1 30) [6, 1, 10001] (by simp) (by simp), hK _ _ _ (by simp only [go_sem, Nat.reduceEqDiff, ↓reduceIte]; rfl) ?_⟩); clear hK; clear K) | (with_reducible first | refine rgn_nil (by first | trivial | kernel_rfl) ?_ | refine AWP.seq ?_ | refine tX hC hP (by kernel_rfl) ?_ | refine aX hC hM hP (by kernel_rfl) ?_ | refine AWP.skip ?_ | refine AWP.label ?_ | refine AWP.exit ?_ | refine AWP.block ?_ | refine cTa ?_ | refine cFa ?_) | simp only [qS, Nat.reduceEqDiff, ↓reduceIte]))
            (refine AWP.ret ?_; refine retG2 (by simp only [go_sem, seval, ↓reduceIte, decide_true, decide_false]; rfl) (by simp only [go_sem, seval, ↓reduceIte, decide_true, decide_false]; rfl) (by simp) (by rfl) ?_)
            rfl
          · unfold qrA qrB qrS
            rw [e1, e2, if_neg d0, if_neg d0, if_neg d0, if_neg d1, if_neg d1]
            (repeat (first | ((with_reducible refine rgn_cons rfl (fun K hK => ?_)); simp only [go_sem, seval, ↓reduceIte, decide_true, decide_false, wid (m * qrP l s) (by omega) (by omega), c1, beqF d0, beqF d1, decide_false]; (first | refine hK _ _ _ (by simp only [go_sem, Nat.reduceEqDiff, ↓reduceIte]; rfl) ?_ | refine ⟨_, c_spec_l01Next a c l hB _ hS1 30, hK _ _ _ (by simp only [go_sem, Nat.reduceEqDiff, ↓reduceIte]; rfl) ?_⟩); clear hK; clear K) | (with_reducible first | refine rgn_nil (by first | trivial | kernel_rfl) ?_ | refine AWP.seq ?_ | refine tX hC hP (by kernel_rfl) ?_ | refine aX hC hM hP (by kernel_rfl) ?_ | refine AWP.skip ?_ | refine AWP.label ?_ | refine AWP.exit ?_ | refine AWP.block ?_ | refine cTa ?_ | refine cFa ?_) | simp only [qS, Nat.reduceEqDiff, ↓reduceIte]))
            (refine AWP.ret ?_; refine retG2 (by simp only [go_sem, seval, ↓reduceIte, decide_true, decide_false]; rfl) (by simp only [go_sem, seval, ↓reduceIte, decide_true, decide_false]; rfl) (by simp) (by rfl) ?_)
            rfl
/-- Numbers drawn one behind the other. -/
def nxS (l : List Int) (M : Int) (s : Int × Int) : Nat → Int × Int
  | 0 => s
  | i + 1 => nextS l (nxS l M s i) M
def nxL (l : List Int) (M : Int) (s : Int × Int) : Nat → List Int
  | 0 => []
  | i + 1 => nxL l M s i ++ [nextX l (nxS l M s i) M]
theorem nxL_length (l : List Int) (M : Int) (s : Int × Int) : ∀ n, (nxL l M s n).length = n
  | 0 => rfl
  | n + 1 => by rw [nxL, List.length_append, nxL_length l M s n]; rfl
theorem nxS_ok {l : List Int} {M : Int} {s : Int × Int} (hS : Sok l s) : ∀ n, Sok l (nxS l M s n)
  | 0 => hS
  | n + 1 => nextS_ok (nxS_ok hS n) M
theorem nxL_b {l : List Int} (hB : Byt l) {M : Int} (hM : 1 ≤ M) (s : Int × Int) : ∀ n, ∀ x ∈ nxL l M s n, 0 ≤ x ∧ x < M
  | 0, x, h => by simp [nxL] at h
  | n + 1, x, h => by
    rw [nxL, List.mem_append] at h
    rcases h with h | h
    · exact nxL_b hB hM s n x h
    · simp only [List.mem_cons, List.not_mem_nil, or_false] at h
      have := nextX_bound hB (nxS l M s n) M
      rw [h]; exact ⟨this.1, this.2.1 hM⟩
/-- A draw's numbers behind a 1. -/
def dkN (l : List Int) (s : Int × Int) : Nat := (1 + nextX l (qrS l s) 10).toNat
def mxA (m : Int) : Int := if 1 < m then m else 1
def dkM (l : List Int) (s : Int × Int) : Int := mxA (qrB l s)
def dkL (l : List Int) (s : Int × Int) : List Int := 1 :: nxL l (dkM l s) (nextS l (qrS l s) 10) (dkN l s)
def dkS (l : List Int) (s : Int × Int) : Int × Int := nxS l (dkM l s) (nextS l (qrS l s) 10) (dkN l s)
theorem dkN_b {l : List Int} (hB : Byt l) (s : Int × Int) : ((dkN l s : Nat) : Int) = 1 + nextX l (qrS l s) 10 ∧ 1 ≤ dkN l s ∧ dkN l s ≤ 10 := by
  have h := nextX_bound hB (qrS l s) 10
  have h1 := h.2.1 (by decide)
  unfold dkN
  omega
theorem intL_one (x : Int) : [T.int .i64 x] = intL [x] := rfl
set_option maxHeartbeats 2000000 in
theorem c_spec_l15Draw_a (a : Option Addr) (c : Nat) (l : List Int) (hB : Byt l) (s : Int × Int) (hS : Sok l s) (h : nextX l (dkS l s) 30 = 0) : AFn Tryz.prog (5000000 + 63) [.str (.src a c l), .box 93 (.agg [.str (.raw a l.length c), .int .i64 s.1, .int .u64 s.2])] (.tup [(.tup [.int .i64 (qrA l s), .agg [.int .i64 (qrB l s), .sl true 2 (intL ((dkL l s).set 0 0))]]), .box 93 (.agg [.str (.raw a l.length c), .int .i64 (nextS l (dkS l s) 30).1, .int .u64 (nextS l (dkS l s) 30).2])]) := by
  refine AFg.of' ttOk Tryz.func63 Tryz.ntmps63 (by rw [Tryz.results63]) (by rfl) (by rfl) (by simp) (by decide) (by decide) srcScalar srcScalar rfl (by simp only [go_sem, Nat.reduceAdd, ↓reduceIte]; rfl) mixed (fun C hP hM hC => ?_)
  have hP1 := qrS_ok hB hS
  have hP2 := nextS_ok hP1 10
  have hN := dkN_b hB s
  have hb := qrB_b hB hS
  (repeat (first | ((with_reducible refine rgn_cons rfl (fun K hK => ?_)); simp only [go_sem, seval, ↓reduceIte, decide_true, decide_false, ← hN.1, wid ((dkN l s : Nat) : Int) (by omega) (by omega), intL_one]; (first | refine hK _ _ _ (by simp only [go_sem, Nat.reduceEqDiff, ↓reduceIte]; rfl) ?_ | refine ⟨_, c_spec_l15Prime a c l hB s hS, hK _ _ _ (by simp only [go_sem, Nat.reduceEqDiff, ↓reduceIte]; rfl) ?_⟩ | refine ⟨_, c_spec_l01Next a c l hB _ hP1 10, hK _ _ _ (by simp only [go_sem, Nat.reduceEqDiff, ↓reduceIte]; rfl) ?_⟩); clear hK; clear K) | (with_reducible first | refine rgn_nil (by first | trivial | kernel_rfl) ?_ | refine AWP.seq ?_ | refine tX hC hP (by kernel_rfl) ?_ | refine aX hC hM hP (by kernel_rfl) ?_ | refine AWP.skip ?_ | refine AWP.label ?_ | refine AWP.exit ?_ | refine AWP.block ?_ | refine cTa ?_ | refine cFa ?_) | simp only [qS, Nat.reduceEqDiff, ↓reduceIte]))
  refine AWP.loop (fun w : Nat × Nat => [(7, ⟨0, .val (.int .i64 (dkN l s - w.1 : Nat))⟩), (5, ⟨0, .val (.int .i64 (qrB l s))⟩), (4, ⟨0, .val (.int .i64 (qrA l s))⟩), (6, ⟨w.2, .own (.box 31 (.agg [.int .i64 (qrB l s), .sl true 2 (intL (1 :: nxL l (dkM l s) (nextS l (qrS l s) 10) w.1))]))⟩), (3, ⟨1, .own (.box 31 (.agg [.int .i64 0, .nil]))⟩), (3000000, ⟨0, .val (.str (.src a c l))⟩), (0, ⟨0, .val (.addr 3000001 0 [] 0 [0])⟩), (3000001, ⟨0, .own (.box 93 (.agg [.str (.raw a l.length c), .int .i64 (nxS l (dkM l s) (nextS l (qrS l s) 10) w.1).1, .int .u64 (nxS l (dkM l s) (nextS l (qrS l s) 10) w.1).2]))⟩)]) (fun w => w.1 ≤ dkN l s) (fun w => dkN l s - w.1) (0, 2) (Nat.zero_le _) (fun i => rfl) ?_ (fun w hw => ?_)
  · simp [Sub, lk, nxL, nxS]
  · obtain ⟨i, v⟩ := w
    simp only at hw ⊢
    by_cases hi : i < dkN l s
    · have hSi := nxS_ok (M := dkM l s) hP2 i
      have hll := nxL_length l (dkM l s) (nextS l (qrS l s) 10) i
      have hsn : (1 :: nxL l (dkM l s) (nextS l (qrS l s) 10) i) ++ [nextX l (nxS l (dkM l s) (nextS l (qrS l s) 10) i) (dkM l s)] = 1 :: nxL l (dkM l s) (nextS l (qrS l s) 10) (i + 1) := rfl
      have hmx : (if qrB l s > 1 then qrB l s else 1) = dkM l s := by unfold dkM mxA; rfl
      have hmx2 : (if 1 < qrB l s then qrB l s else 1) = dkM l s := hmx
      (repeat (first | ((with_reducible refine rgn_cons rfl (fun K hK => ?_)); simp only [go_sem, seval, ↓reduceIte, decide_true, decide_false, show (0 : Int) < ((dkN l s - i : Nat) : Int) by omega, decide_true, hmx, hmx2, intL_snoc, List.length_cons, hll, hsn, show i + 1 + 1 ≤ 1099511627776 by omega, show (i + 1 + 1) * 8 ≤ 140737488355328 by omega, show IntKind.i64.wrap (((dkN l s - i : Nat) : Int) - 1) = ((dkN l s - (i + 1) : Nat) : Int) by rw [wid _ (by omega) (by omega)]; omega]; (first | refine hK _ _ _ (by simp only [go_sem, Nat.reduceEqDiff, ↓reduceIte]; rfl) ?_ | refine ⟨_, c_spec_l01Next a c l hB _ hSi (dkM l s), hK _ _ _ (by simp only [go_sem, Nat.reduceEqDiff, ↓reduceIte]; rfl) ?_⟩); clear hK; clear K) | (with_reducible first | refine rgn_nil (by first | trivial | kernel_rfl) ?_ | refine AWP.seq ?_ | refine tX hC hP (by kernel_rfl) ?_ | refine aX hC hM hP (by kernel_rfl) ?_ | refine AWP.skip ?_ | refine AWP.label ?_ | refine AWP.exit ?_ | refine AWP.block ?_ | refine cTa ?_ | refine cFa ?_) | simp only [qS, Nat.reduceEqDiff, ↓reduceIte]))
      exact ⟨(i + 1, v + 1), by simp only; omega, by simp only; omega, by simp [Sub, lk, nxS]⟩
    · have e : i = dkN l s := by omega
      subst e
      have hSi := nxS_ok (M := dkM l s) hP2 (dkN l s)
      have hll := nxL_length l (dkM l s) (nextS l (qrS l s) 10) (dkN l s)
      have hlen : (1 :: nxL l (dkM l s) (nextS l (qrS l s) 10) (dkN l s)).length = dkN l s + 1 := by rw [List.length_cons, hll]
      have h' : nextX l (nxS l (dkM l s) (nextS l (qrS l s) 10) (dkN l s)) 30 = 0 := h
      (repeat (first | ((with_reducible refine rgn_cons rfl (fun K hK => ?_)); simp only [go_sem, seval, ↓reduceIte, decide_true, decide_false, show ¬ (0 : Int) < ((dkN l s - dkN l s : Nat) : Int) by omega, decide_false, h', hlen, show (0 : Int) < ((dkN l s + 1 : Nat) : Int) by omega, Int.le_refl, Int.toNat_zero, List.take_zero, Nat.zero_mul, intL_get _ 0 (show 0 < (1 :: nxL l (dkM l s) (nextS l (qrS l s) 10) (dkN l s)).length by omega), intL_modify]; (first | refine hK _ _ _ (by simp only [go_sem, Nat.reduceEqDiff, ↓reduceIte]; rfl) ?_ | refine ⟨_, c_spec_l01Next a c l hB _ hSi 30, hK _ _ _ (by simp only [go_sem, Nat.reduceEqDiff, ↓reduceIte]; rfl) ?_⟩); clear hK; clear K) | (with_reducible first | refine rgn_nil (by first | trivial | kernel_rfl) ?_ | refine AWP.seq ?_ | refine tX hC hP (by kernel_rfl) ?_ | refine aX hC hM hP (by kernel_rfl) ?_ | refine AWP.skip ?_ | refine AWP.label ?_ | refine AWP.exit ?_ | refine AWP.block ?_ | refine cTa ?_ | refine cFa ?_) | simp only [qS, Nat.reduceEqDiff, ↓reduceIte]))
      (refine AWP.ret ?_; refine retG2 (by simp only [go_sem, seval, ↓reduceIte, decide_true, decide_false]; rfl) (by simp only [go_sem, seval, ↓reduceIte, decide_true, decide_false]; rfl) (by simp) (by rfl) ?_)
      rfl
set_option maxHeartbeats 2000000 in
theorem c_spec_l15Draw_b (a : Option Addr) (c : Nat) (l : List Int) (hB : Byt l) (s : Int × Int) (hS : Sok l s) (h : ¬ nextX l (dkS l s) 30 = 0) : AFn Tryz.prog (5000000 + 63) [.str (.src a c l), .box 93 (.agg [.str (.raw a l.length c), .int .i64 s.1, .int .u64 s.2])] (.tup [(.tup [.int .i64 (qrA l s), .agg [.int .i64 (qrB l s), .sl true 2 (intL (dkL l s))]]), .box 93 (.agg [.str (.raw a l.length c), .int .i64 (nextS l (dkS l s) 30).1, .int .u64 (nextS l (dkS l s) 30).2])]) := by
  refine AFg.of' ttOk Tryz.func63 Tryz.ntmps63 (by rw [Tryz.results63]) (by rfl) (by rfl) (by simp) (by decide) (by decide) srcScalar srcScalar rfl (by simp only [go_sem, Nat.reduceAdd, ↓reduceIte]; rfl) mixed (fun C hP hM hC => ?_)
  have hP1 := qrS_ok hB hS
  have hP2 := nextS_ok hP1 10
  have hN := dkN_b hB s
  have hb := qrB_b hB hS
  (repeat (first | ((with_reducible refine rgn_cons rfl (fun K hK => ?_)); simp only [go_sem, seval, ↓reduceIte, decide_true, decide_false, ← hN.1, wid ((dkN l s : Nat) : Int) (by omega) (by omega), intL_one]; (first | refine hK _ _ _ (by simp only [go_sem, Nat.reduceEqDiff, ↓reduceIte]; rfl) ?_ | refine ⟨_, c_spec_l15Prime a c l hB s hS, hK _ _ _ (by simp only [go_sem, Nat.reduceEqDiff, ↓reduceIte]; rfl) ?_⟩ | refine ⟨_, c_spec_l01Next a c l hB _ hP1 10, hK _ _ _ (by simp only [go_sem, Nat.reduceEqDiff, ↓reduceIte]; rfl) ?_⟩); clear hK; clear K) | (with_reducible first | refine rgn_nil (by first | trivial | kernel_rfl) ?_ | refine AWP.seq ?_ | refine tX hC hP (by kernel_rfl) ?_ | refine aX hC hM hP (by kernel_rfl) ?_ | refine AWP.skip ?_ | refine AWP.label ?_ | refine AWP.exit ?_ | refine AWP.block ?_ | refine cTa ?_ | refine cFa ?_) | simp only [qS, Nat.reduceEqDiff, ↓reduceIte]))
  refine AWP.loop (fun w : Nat × Nat => [(7, ⟨0, .val (.int .i64 (dkN l s - w.1 : Nat))⟩), (5, ⟨0, .val (.int .i64 (qrB l s))⟩), (4, ⟨0, .val (.int .i64 (qrA l s))⟩), (6, ⟨w.2, .own (.box 31 (.agg [.int .i64 (qrB l s), .sl true 2 (intL (1 :: nxL l (dkM l s) (nextS l (qrS l s) 10) w.1))]))⟩), (3, ⟨1, .own (.box 31 (.agg [.int .i64 0, .nil]))⟩), (3000000, ⟨0, .val (.str (.src a c l))⟩), (0, ⟨0, .val (.addr 3000001 0 [] 0 [0])⟩), (3000001, ⟨0, .own (.box 93 (.agg [.str (.raw a l.length c), .int .i64 (nxS l (dkM l s) (nextS l (qrS l s) 10) w.1).1, .int .u64 (nxS l (dkM l s) (nextS l (qrS l s) 10) w.1).2]))⟩)]) (fun w => w.1 ≤ dkN l s) (fun w => dkN l s - w.1) (0, 2) (Nat.zero_le _) (fun i => rfl) ?_ (fun w hw => ?_)
  · simp [Sub, lk, nxL, nxS]
  · obtain ⟨i, v⟩ := w
    simp only at hw ⊢
    by_cases hi : i < dkN l s
    · have hSi := nxS_ok (M := dkM l s) hP2 i
      have hll := nxL_length l (dkM l s) (nextS l (qrS l s) 10) i
      have hsn : (1 :: nxL l (dkM l s) (nextS l (qrS l s) 10) i) ++ [nextX l (nxS l (dkM l s) (nextS l (qrS l s) 10) i) (dkM l s)] = 1 :: nxL l (dkM l s) (nextS l (qrS l s) 10) (i + 1) := rfl
      have hmx : (if qrB l s > 1 then qrB l s else 1) = dkM l s := by unfold dkM mxA; rfl
      have hmx2 : (if 1 < qrB l s then qrB l s else 1) = dkM l s := hmx
      (repeat (first | ((with_reducible refine rgn_cons rfl (fun K hK => ?_)); simp only [go_sem, seval, ↓reduceIte, decide_true, decide_false, show (0 : Int) < ((dkN l s - i : Nat) : Int) by omega, decide_true, hmx, hmx2, intL_snoc, List.length_cons, hll, hsn, show i + 1 + 1 ≤ 1099511627776 by omega, show (i + 1 + 1) * 8 ≤ 140737488355328 by omega, show IntKind.i64.wrap (((dkN l s - i : Nat) : Int) - 1) = ((dkN l s - (i + 1) : Nat) : Int) by rw [wid _ (by omega) (by omega)]; omega]; (first | refine hK _ _ _ (by simp only [go_sem, Nat.reduceEqDiff, ↓reduceIte]; rfl) ?_ | refine ⟨_, c_spec_l01Next a c l hB _ hSi (dkM l s), hK _ _ _ (by simp only [go_sem, Nat.reduceEqDiff, ↓reduceIte]; rfl) ?_⟩); clear hK; clear K) | (with_reducible first | refine rgn_nil (by first | trivial | kernel_rfl) ?_ | refine AWP.seq ?_ | refine tX hC hP (by kernel_rfl) ?_ | refine aX hC hM hP (by kernel_rfl) ?_ | refine AWP.skip ?_ | refine AWP.label ?_ | refine AWP.exit ?_ | refine AWP.block ?_ | refine cTa ?_ | refine cFa ?_) | simp only [qS, Nat.reduceEqDiff, ↓reduceIte]))
      exact ⟨(i + 1, v + 1), by simp only; omega, by simp only; omega, by simp [Sub, lk, nxS]⟩
    · have e : i = dkN l s := by omega
      subst e
      have hSi := nxS_ok (M := dkM l s) hP2 (dkN l s)
      have hll := nxL_length l (dkM l s) (nextS l (qrS l s) 10) (dkN l s)
      have h' : ¬ nextX l (nxS l (dkM l s) (nextS l (qrS l s) 10) (dkN l s)) 30 = 0 := h
      (repeat (first | ((with_reducible refine rgn_cons rfl (fun K hK => ?_)); simp only [go_sem, seval, ↓reduceIte, decide_true, decide_false, show ¬ (0 : Int) < ((dkN l s - dkN l s : Nat) : Int) by omega, decide_false, beqF h']; (first | refine hK _ _ _ (by simp only [go_sem, Nat.reduceEqDiff, ↓reduceIte]; rfl) ?_ | refine ⟨_, c_spec_l01Next a c l hB _ hSi 30, hK _ _ _ (by simp only [go_sem, Nat.reduceEqDiff, ↓reduceIte]; rfl) ?_⟩); clear hK; clear K) | (with_reducible first | refine rgn_nil (by first | trivial | kernel_rfl) ?_ | refine AWP.seq ?_ | refine tX hC hP (by kernel_rfl) ?_ | refine aX hC hM hP (by kernel_rfl) ?_ | refine AWP.skip ?_ | refine AWP.label ?_ | refine AWP.exit ?_ | refine AWP.block ?_ | refine cTa ?_ | refine cFa ?_) | simp only [qS, Nat.reduceEqDiff, ↓reduceIte]))
      (refine AWP.ret ?_; refine retG2 (by simp only [go_sem, seval, ↓reduceIte, decide_true, decide_false]; rfl) (by simp only [go_sem, seval, ↓reduceIte, decide_true, decide_false]; rfl) (by simp) (by rfl) ?_)
      rfl
theorem dkL_length {l : List Int} (hB : Byt l) (s : Int × Int) : (dkL l s).length ≤ 11 := by
  have := dkN_b hB s
  rw [dkL, List.length_cons, nxL_length]; omega
theorem dkS_ok {l : List Int} (hB : Byt l) {s : Int × Int} (hS : Sok l s) : Sok l (dkS l s) := nxS_ok (nextS_ok (qrS_ok hB hS) 10) _
theorem l15Draw_ex {a : Option Addr} {c : Nat} {l : List Int} (hB : Byt l) {s : Int × Int} (hS : Sok l s) : ∃ p m la s', Sok l s' ∧ la.length ≤ 11 ∧ AFn Tryz.prog (5000000 + 63) [.str (.src a c l), SRA a c l s] (.tup [.tup [.int .i64 p, .agg [.int .i64 m, .sl true 2 (intL la)]], SRA a c l s']) := by
  have hl := dkL_length hB s
  by_cases h : nextX l (dkS l s) 30 = 0
  · exact ⟨_, _, _, _, nextS_ok (dkS_ok hB hS) 30, by rw [List.length_set]; exact hl, c_spec_l15Draw_a a c l hB s hS h⟩
  · exact ⟨_, _, _, _, nextS_ok (dkS_ok hB hS) 30, hl, c_spec_l15Draw_b a c l hB s hS h⟩
set_option maxHeartbeats 1000000 in
theorem c_spec_DrawArtinHasseCoefficient (a : Option Addr) (c : Nat) (l : List Int) (hB : Byt l) : AFn Tryz.prog 5 [.str (.src a c l)] (.tup [.int .i64 (qrA l (from0 l)), .int .i64 (nextX l (qrS l (from0 l)) 12 - (nextX l (nextS l (qrS l (from0 l)) 12) 24).tdiv 23)]) := by
  refine AFn.of' ttOk (by decide) Tryz.func5 Tryz.ntmps5 (by rw [Tryz.results5]) (by rfl) (by rfl) (by simp) (by decide) (by simp only [go_sem, Nat.reduceAdd, ↓reduceIte]; rfl) mixed (fun C hP hM hC => ?_)
  have q1 := qrS_ok hB (from0_ok l)
  have q2 := nextS_ok q1 12
  have b1 := nextX_bound hB (qrS l (from0 l)) 12
  have b2 := nextX_bound hB (nextS l (qrS l (from0 l)) 12) 24
  have b3 := b1.2.1 (by decide)
  have b4 := b2.2.1 (by decide)
  have b5 : (nextX l (nextS l (qrS l (from0 l)) 12) 24).tdiv 23 = nextX l (nextS l (qrS l (from0 l)) 12) 24 / 23 := Int.tdiv_eq_ediv_of_nonneg b2.1
  refine AWP.ghost (t := 0) rfl rfl ?_
  (repeat (first | ((with_reducible refine rgn_cons rfl (fun K hK => ?_)); simp only [go_sem, seval, ↓reduceIte, decide_true, decide_false, show (23 : Int) ≠ 0 by decide, wid ((nextX l (nextS l (qrS l (from0 l)) 12) 24).tdiv 23) (by omega) (by omega), wid (nextX l (qrS l (from0 l)) 12 - (nextX l (nextS l (qrS l (from0 l)) 12) 24).tdiv 23) (by omega) (by omega)]; (first | refine hK _ _ _ (by simp only [go_sem, Nat.reduceEqDiff, ↓reduceIte]; rfl) ?_ | refine ⟨_, c_spec_l01From a c l hB, hK _ _ _ (by simp only [go_sem, Nat.reduceEqDiff, ↓reduceIte]; rfl) ?_⟩ | refine ⟨_, c_spec_l15Prime a c l hB _ (from0_ok l), hK _ _ _ (by simp only [go_sem, Nat.reduceEqDiff, ↓reduceIte]; rfl) ?_⟩ | refine ⟨_, c_spec_l01Next a c l hB _ q1 12, hK _ _ _ (by simp only [go_sem, Nat.reduceEqDiff, ↓reduceIte]; rfl) ?_⟩ | refine ⟨_, c_spec_l01Next a c l hB _ q2 24, hK _ _ _ (by simp only [go_sem, Nat.reduceEqDiff, ↓reduceIte]; rfl) ?_⟩); clear hK; clear K) | (with_reducible first | refine rgn_nil (by first | trivial | kernel_rfl) ?_ | refine AWP.seq ?_ | refine tX hC hP (by kernel_rfl) ?_ | refine aX hC hM hP (by kernel_rfl) ?_ | refine AWP.skip ?_ | refine AWP.label ?_ | refine AWP.exit ?_ | refine AWP.block ?_ | refine cTa ?_ | refine cFa ?_) | simp only [qS, Nat.reduceEqDiff, ↓reduceIte]))
  (refine AWP.ret ?_; refine retOk2 (by simp only [go_sem, seval, ↓reduceIte, decide_true, decide_false]; rfl) (by simp only [go_sem, seval, ↓reduceIte, decide_true, decide_false]; rfl) (by simp) ?_)
  rfl
set_option maxHeartbeats 1000000 in
theorem c_spec_DrawArtinHasse (a : Option Addr) (c : Nat) (l : List Int) (hB : Byt l) : AFn Tryz.prog 8 [.str (.src a c l)] (.tup [.int .i64 (qrA l (from0 l)), .int .i64 (qrB l (from0 l)), .int .i64 (nextX l (qrS l (from0 l)) 12)]) := by
  refine AFn.of' ttOk (by decide) Tryz.func8 Tryz.ntmps8 (by rw [Tryz.results8]) (by rfl) (by rfl) (by simp) (by decide) (by simp only [go_sem, Nat.reduceAdd, ↓reduceIte]; rfl) mixed (fun C hP hM hC => ?_)
  refine AWP.ghost (t := 0) rfl rfl ?_
  (repeat (first | ((with_reducible refine rgn_cons rfl (fun K hK => ?_)); simp only [go_sem, seval, ↓reduceIte, decide_true, decide_false]; (first | refine hK _ _ _ (by simp only [go_sem, Nat.reduceEqDiff, ↓reduceIte]; rfl) ?_ | refine ⟨_, c_spec_l01From a c l hB, hK _ _ _ (by simp only [go_sem, Nat.reduceEqDiff, ↓reduceIte]; rfl) ?_⟩ | refine ⟨_, c_spec_l15Prime a c l hB _ (from0_ok l), hK _ _ _ (by simp only [go_sem, Nat.reduceEqDiff, ↓reduceIte]; rfl) ?_⟩ | refine ⟨_, c_spec_l01Next a c l hB _ (qrS_ok hB (from0_ok l)) 12, hK _ _ _ (by simp only [go_sem, Nat.reduceEqDiff, ↓reduceIte]; rfl) ?_⟩); clear hK; clear K) | (with_reducible first | refine rgn_nil (by first | trivial | kernel_rfl) ?_ | refine AWP.seq ?_ | refine tX hC hP (by kernel_rfl) ?_ | refine aX hC hM hP (by kernel_rfl) ?_ | refine AWP.skip ?_ | refine AWP.label ?_ | refine AWP.exit ?_ | refine AWP.block ?_ | refine cTa ?_ | refine cFa ?_) | simp only [qS, Nat.reduceEqDiff, ↓reduceIte]))
  (refine AWP.ret ?_; refine retOk3 (by simp only [go_sem, seval, ↓reduceIte, decide_true, decide_false]; rfl) (by simp only [go_sem, seval, ↓reduceIte, decide_true, decide_false]; rfl) (by simp only [go_sem, seval, ↓reduceIte, decide_true, decide_false]; rfl) (by simp) ?_)
  rfl
/-- A draw's list: each bound is drawn too. -/
def dlS (l : List Int) (M : Int) (s : Int × Int) : Nat → Int × Int
  | 0 => s
  | i + 1 => nextS l (nextS l (dlS l M s i) 60) (M + (nextX l (dlS l M s i) 60).tdiv 59)
def dlL (l : List Int) (M : Int) (s : Int × Int) : Nat → List Int
  | 0 => []
  | i + 1 => dlL l M s i ++ [nextX l (nextS l (dlS l M s i) 60) (M + (nextX l (dlS l M s i) 60).tdiv 59)]
theorem dlL_length (l : List Int) (M : Int) (s : Int × Int) : ∀ n, (dlL l M s n).length = n
  | 0 => rfl
  | n + 1 => by rw [dlL, List.length_append, dlL_length l M s n]; rfl
theorem dlS_ok {l : List Int} {M : Int} {s : Int × Int} (hS : Sok l s) : ∀ n, Sok l (dlS l M s n)
  | 0 => hS
  | n + 1 => nextS_ok (nextS_ok (dlS_ok hS n) 60) _
def dbN (l : List Int) : Nat := (nextX l (qrS l (from0 l)) 12).toNat
set_option maxHeartbeats 2000000 in
theorem c_spec_DrawBigOfBlocks (a : Option Addr) (c : Nat) (l : List Int) (hB : Byt l) : AFn Tryz.prog 12 [.str (.src a c l)] (.tup [.int .i64 (qrA l (from0 l)), .int .i64 (qrB l (from0 l)), .sl true 2 (intL (dlL l (mxA (qrB l (from0 l))) (nextS l (qrS l (from0 l)) 12) (dbN l)))]) := by
  refine AFn.of' ttOk (by decide) Tryz.func12 Tryz.ntmps12 (by rw [Tryz.results12]) (by rfl) (by rfl) (by simp) (by decide) (by simp only [go_sem, Nat.reduceAdd, ↓reduceIte]; rfl) mixed (fun C hP hM hC => ?_)
  have hP1 := qrS_ok hB (from0_ok l)
  have hP2 := nextS_ok hP1 12
  have hb := qrB_b hB (from0_ok l)
  have b1 := nextX_bound hB (qrS l (from0 l)) 12
  have b2 := b1.2.1 (by decide)
  have hN : ((dbN l : Nat) : Int) = nextX l (qrS l (from0 l)) 12 := by unfold dbN; omega
  refine AWP.ghost (t := 0) rfl rfl ?_
  (repeat (first | ((with_reducible refine rgn_cons rfl (fun K hK => ?_)); simp only [go_sem, seval, ↓reduceIte, decide_true, decide_false, ← hN]; (first | refine hK _ _ _ (by simp only [go_sem, Nat.reduceEqDiff, ↓reduceIte]; rfl) ?_ | refine ⟨_, c_spec_l01From a c l hB, hK _ _ _ (by simp only [go_sem, Nat.reduceEqDiff, ↓reduceIte]; rfl) ?_⟩ | refine ⟨_, c_spec_l15Prime a c l hB _ (from0_ok l), hK _ _ _ (by simp only [go_sem, Nat.reduceEqDiff, ↓reduceIte]; rfl) ?_⟩ | refine ⟨_, c_spec_l01Next a c l hB _ hP1 12, hK _ _ _ (by simp only [go_sem, Nat.reduceEqDiff, ↓reduceIte]; rfl) ?_⟩); clear hK; clear K) | (with_reducible first | refine rgn_nil (by first | trivial | kernel_rfl) ?_ | refine AWP.seq ?_ | refine tX hC hP (by kernel_rfl) ?_ | refine aX hC hM hP (by kernel_rfl) ?_ | refine AWP.skip ?_ | refine AWP.label ?_ | refine AWP.exit ?_ | refine AWP.block ?_ | refine cTa ?_ | refine cFa ?_) | simp only [qS, Nat.reduceEqDiff, ↓reduceIte]))
  refine AWP.loop (fun w : Nat × Nat => [(9, ⟨0, .val (.int .i64 (dbN l - w.1 : Nat))⟩), (7, ⟨0, .val (.int .i64 (qrB l (from0 l)))⟩), (6, ⟨0, .val (.int .i64 (qrA l (from0 l)))⟩), (8, ⟨w.2, .own (.sl true 2 (intL (dlL l (mxA (qrB l (from0 l))) (nextS l (qrS l (from0 l)) 12) w.1)))⟩), (3000000, ⟨0, .val (.str (.src a c l))⟩), (5, ⟨0, .val (.addr 11 1 [] 0 [0])⟩), (11, ⟨1, .own (.box 93 (.agg [.str (.raw a l.length c), .int .i64 (dlS l (mxA (qrB l (from0 l))) (nextS l (qrS l (from0 l)) 12) w.1).1, .int .u64 (dlS l (mxA (qrB l (from0 l))) (nextS l (qrS l (from0 l)) 12) w.1).2]))⟩)]) (fun w => w.1 ≤ dbN l) (fun w => dbN l - w.1) (0, 1) (Nat.zero_le _) (fun i => rfl) ?_ (fun w hw => ?_)
  · simp [Sub, lk, dlL, dlS, intL]
  · obtain ⟨i, v⟩ := w
    simp only at hw ⊢
    by_cases hi : i < dbN l
    · have hSi := dlS_ok (M := mxA (qrB l (from0 l))) hP2 i
      have hll := dlL_length l (mxA (qrB l (from0 l))) (nextS l (qrS l (from0 l)) 12) i
      have hsn : dlL l (mxA (qrB l (from0 l))) (nextS l (qrS l (from0 l)) 12) i ++ [nextX l (nextS l (dlS l (mxA (qrB l (from0 l))) (nextS l (qrS l (from0 l)) 12) i) 60) (mxA (qrB l (from0 l)) + (nextX l (dlS l (mxA (qrB l (from0 l))) (nextS l (qrS l (from0 l)) 12) i) 60).tdiv 59)] = dlL l (mxA (qrB l (from0 l))) (nextS l (qrS l (from0 l)) 12) (i + 1) := rfl
      have hmx2 : (if 1 < qrB l (from0 l) then qrB l (from0 l) else 1) = mxA (qrB l (from0 l)) := rfl
      have c1 := nextX_bound hB (dlS l (mxA (qrB l (from0 l))) (nextS l (qrS l (from0 l)) 12) i) 60
      have c2 := c1.2.1 (by decide)
      have c3 : (nextX l (dlS l (mxA (qrB l (from0 l))) (nextS l (qrS l (from0 l)) 12) i) 60).tdiv 59 = nextX l (dlS l (mxA (qrB l (from0 l))) (nextS l (qrS l (from0 l)) 12) i) 60 / 59 := Int.tdiv_eq_ediv_of_nonneg c1.1
      have c4 : 1 ≤ mxA (qrB l (from0 l)) ∧ mxA (qrB l (from0 l)) ≤ 10001 := by unfold mxA; split <;> omega
      (repeat (first | ((with_reducible refine rgn_cons rfl (fun K hK => ?_)); simp only [go_sem, seval, ↓reduceIte, decide_true, decide_false, show (0 : Int) < ((dbN l - i : Nat) : Int) by omega, decide_true, hmx2, show (59 : Int) ≠ 0 by decide, wid ((nextX l (dlS l (mxA (qrB l (from0 l))) (nextS l (qrS l (from0 l)) 12) i) 60).tdiv 59) (by omega) (by omega), wid (mxA (qrB l (from0 l)) + (nextX l (dlS l (mxA (qrB l (from0 l))) (nextS l (qrS l (from0 l)) 12) i) 60).tdiv 59) (by omega) (by omega), intL_snoc, hll, hsn, show i + 1 ≤ 1099511627776 by omega, show (i + 1) * 8 ≤ 140737488355328 by omega, show IntKind.i64.wrap (((dbN l - i : Nat) : Int) - 1) = ((dbN l - (i + 1) : Nat) : Int) by rw [wid _ (by omega) (by omega)]; omega]; (first | refine hK _ _ _ (by simp only [go_sem, Nat.reduceEqDiff, ↓reduceIte]; rfl) ?_ | refine ⟨_, c_spec_l01Next a c l hB _ hSi 60, hK _ _ _ (by simp only [go_sem, Nat.reduceEqDiff, ↓reduceIte]; rfl) ?_⟩ | refine ⟨_, c_spec_l01Next a c l hB _ (nextS_ok hSi 60) (mxA (qrB l (from0 l)) + (nextX l (dlS l (mxA (qrB l (from0 l))) (nextS l (qrS l (from0 l)) 12) i) 60).tdiv 59), hK _ _ _ (by simp only [go_sem, Nat.reduceEqDiff, ↓reduceIte]; rfl) ?_⟩); clear hK; clear K) | (with_reducible first | refine rgn_nil (by first | trivial | kernel_rfl) ?_ | refine AWP.seq ?_ | refine tX hC hP (by kernel_rfl) ?_ | refine aX hC hM hP (by kernel_rfl) ?_ | refine AWP.skip ?_ | refine AWP.label ?_ | refine AWP.exit ?_ | refine AWP.block ?_ | refine cTa ?_ | refine cFa ?_) | simp only [qS, Nat.reduceEqDiff, ↓reduceIte]))
      exact ⟨(i + 1, v + 1), by simp only; omega, by simp only; omega, by simp [Sub, lk, dlS]⟩
    · have e : i = dbN l := by omega
      subst e
      (repeat (first | ((with_reducible refine rgn_cons rfl (fun K hK => ?_)); simp only [go_sem, seval, ↓reduceIte, decide_true, decide_false, show ¬ (0 : Int) < ((dbN l - dbN l : Nat) : Int) by omega, decide_false]; (refine hK _ _ _ (by simp only [go_sem, Nat.reduceEqDiff, ↓reduceIte]; rfl) ?_); clear hK; clear K) | (with_reducible first | refine rgn_nil (by first | trivial | kernel_rfl) ?_ | refine AWP.seq ?_ | refine tX hC hP (by kernel_rfl) ?_ | refine aX hC hM hP (by kernel_rfl) ?_ | refine AWP.skip ?_ | refine AWP.label ?_ | refine AWP.exit ?_ | refine AWP.block ?_ | refine cTa ?_ | refine cFa ?_) | simp only [qS, Nat.reduceEqDiff, ↓reduceIte]))
      (refine AWP.ret ?_; refine retOk3 (by simp only [go_sem, seval, ↓reduceIte, decide_true, decide_false]; rfl) (by simp only [go_sem, seval, ↓reduceIte, decide_true, decide_false]; rfl) (by simp only [go_sem, seval, ↓reduceIte, decide_true, decide_false]; rfl) (by simp) ?_)
      rfl
theorem dbN_b {l : List Int} (hB : Byt l) : dbN l ≤ 12 := by
  have b1 := nextX_bound hB (qrS l (from0 l)) 12
  have b2 := b1.2.1 (by decide)
  unfold dbN; omega
set_option maxHeartbeats 1000000 in
theorem c_spec_DrawWittOfBig (a : Option Addr) (c : Nat) (l : List Int) (hB : Byt l) (p m : Int) (la : List Int) (s' : Int × Int) (hS' : Sok l s') (hla : la.length ≤ 11) (hC1 : AFn Tryz.prog (5000000 + 63) [.str (.src a c l), SRA a c l (from0 l)] (.tup [.tup [.int .i64 p, .agg [.int .i64 m, .sl true 2 (intL la)]], SRA a c l s'])) : AFn Tryz.prog 24 [.str (.src a c l)] (.tup [.int .i64 p, .agg [.int .i64 m, .sl true 2 (intL la)], .int .i64 (nextX l s' ((la.length : Int) + 1))]) := by
  refine AFn.of' ttOk (by decide) Tryz.func24 Tryz.ntmps24 (by rw [Tryz.results24]) (by rfl) (by rfl) (by simp) (by decide) (by simp only [go_sem, Nat.reduceAdd, ↓reduceIte]; rfl) mixed (fun C hP hM hC => ?_)
  refine AWP.ghost (t := 0) rfl rfl ?_
  (repeat (first | ((with_reducible refine rgn_cons rfl (fun K hK => ?_)); simp only [go_sem, seval, ↓reduceIte, decide_true, decide_false, wid ((la.length : Int) + 1) (by omega) (by omega)]; (first | refine hK _ _ _ (by simp only [go_sem, Nat.reduceEqDiff, ↓reduceIte]; rfl) ?_ | refine ⟨_, c_spec_l01From a c l hB, hK _ _ _ (by simp only [go_sem, Nat.reduceEqDiff, ↓reduceIte]; rfl) ?_⟩ | refine ⟨_, hC1, hK _ _ _ (by simp only [go_sem, Nat.reduceEqDiff, ↓reduceIte]; rfl) ?_⟩ | refine ⟨_, c_spec_l01Next a c l hB s' hS' ((la.length : Int) + 1), hK _ _ _ (by simp only [go_sem, Nat.reduceEqDiff, ↓reduceIte]; rfl) ?_⟩); clear hK; clear K) | (with_reducible first | refine rgn_nil (by first | trivial | kernel_rfl) ?_ | refine AWP.seq ?_ | refine tX hC hP (by kernel_rfl) ?_ | refine aX hC hM hP (by kernel_rfl) ?_ | refine AWP.skip ?_ | refine AWP.label ?_ | refine AWP.exit ?_ | refine AWP.block ?_ | refine cTa ?_ | refine cFa ?_) | simp only [qS, Nat.reduceEqDiff, ↓reduceIte]))
  (refine AWP.ret ?_; refine retOk3 (by simp only [go_sem, seval, ↓reduceIte, decide_true, decide_false]; rfl) (by simp only [go_sem, seval, ↓reduceIte, decide_true, decide_false]; rfl) (by simp only [go_sem, seval, ↓reduceIte, decide_true, decide_false]; rfl) (by simp) ?_)
  rfl
theorem DrawWittOfBig_ex {a : Option Addr} {c : Nat} {l : List Int} (hB : Byt l) : ∃ p m la n, la.length ≤ 11 ∧ AFn Tryz.prog 24 [.str (.src a c l)] (.tup [.int .i64 p, .agg [.int .i64 m, .sl true 2 (intL la)], .int .i64 n]) := by
  obtain ⟨p, m, la, s', hS', hl, hC1⟩ := l15Draw_ex (a := a) (c := c) hB (from0_ok l)
  exact ⟨p, m, la, _, hl, c_spec_DrawWittOfBig a c l hB p m la s' hS' hl hC1⟩
end Go.Proofs.YtdnaecmcbkfpaaaGreat
