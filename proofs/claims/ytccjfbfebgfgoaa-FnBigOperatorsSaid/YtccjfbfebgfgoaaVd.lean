/-
  Operators of big vectors: what the program's operations give.
-/
import Derived.Test.YtccjfbfebgfgoaaVb
import Derived.Test.YtccjfbfebgfgoaaWs
import Derived.Test.YtccjfbfebgfgoaaDz
import Derived.Test.YtccjfbfebgfgoaaBy
import Derived.Test.YtccjfbfebgfgoaaLq
namespace Go.Proofs.Ytccjfbfebgfgoaa
open Go.RowKit
set_option linter.unusedSimpArgs false
set_option linter.unusedVariables false
set_option linter.unusedSectionVars false
set_option maxRecDepth 20000
-- Operators of big vectors: what the program's operations give.
/-- The code with another rest behind its first k parts. -/
def putSeq : Nat → Code → Code → Code
  | 0, R, _ => R
  | k + 1, R, .seq x y => .seq x (putSeq k R y)
  | _ + 1, _, c => c
theorem putSeq_drop : ∀ (k : Nat) (c : Code), putSeq k (dropSeq k c) c = c
  | 0, _ => rfl
  | k + 1, c => by cases c <;> simp [putSeq, dropSeq, putSeq_drop]
/-- What follows the first k parts is looked at once, from fewer slots; the walk to it does not see it. -/
theorem AWP.tailR {C : Ctx} {n : Nat} {Q : Exit → Env → Prop} {env : Env} {c : Code} (k : Nat) (E : Env) (h : AWP C n (dropSeq k c) Q E) (h2 : ∀ R, AWP C n R Q E → AWP C n (putSeq k R c) Q env) : AWP C n c Q env := by
  have h3 := h2 _ h
  rwa [putSeq_drop] at h3
theorem c_impl_copyOf_int64_bo (l : List Int) (hl : l.length ≤ 1000000000) : AFn Try.prog 85 [.sl false 2 (intL l)] (.sl true 2 (intL l)) := by
  refine AFn.of' ttOk (by decide) Try.func85 Try.ntmps85 (by rw [Try.results85]) (by rfl) (by rfl) (by simp) (by decide) (by simp only [go_sem, Nat.reduceAdd, ↓reduceIte]; rfl) mixed (fun C hP hM hC => ?_)
  (repeat (first | ((with_reducible refine rgn_cons rfl (fun K hK => ?_)); simp only [go_sem, seval, ↓reduceIte, decide_true, decide_false, intL_plain, Nat.zero_add, List.length_nil, show l.length ≤ 1099511627776 by omega, show l.length * 8 ≤ 140737488355328 by omega]; (refine hK _ _ _ (by simp only [go_sem, Nat.reduceEqDiff, ↓reduceIte]; rfl) ?_); clear hK; clear K) | (with_reducible first | refine rgn_nil (by first | trivial | kernel_rfl) ?_ | refine AWP.seq ?_ | refine tX hC hP (by kernel_rfl) ?_ | refine aX hC hM hP (by kernel_rfl) ?_ | refine AWP.skip ?_ | refine AWP.label ?_ | refine AWP.exit ?_ | refine AWP.block ?_ | refine cT (by simp only [go_sem, Nat.reduceEqDiff, ↓reduceIte]; with_reducible rfl) ?_ | refine cF (by simp only [go_sem, Nat.reduceEqDiff, ↓reduceIte]; with_reducible rfl) ?_) | simp only [qS, Nat.reduceEqDiff, ↓reduceIte]))
  (refine AWP.ret ?_; first | refine retOk1 (by simp only [go_sem, seval, ↓reduceIte, decide_true, decide_false]; rfl) ?_ | refine retOk2 (by simp only [go_sem, seval, ↓reduceIte, decide_true, decide_false]; rfl) (by simp only [go_sem, seval, ↓reduceIte, decide_true, decide_false]; rfl) (by simp) ?_ | refine retOk3 (by simp only [go_sem, seval, ↓reduceIte, decide_true, decide_false]; rfl) (by simp only [go_sem, seval, ↓reduceIte, decide_true, decide_false]; rfl) (by simp only [go_sem, seval, ↓reduceIte, decide_true, decide_false]; rfl) (by simp) ?_)
  rfl
theorem BV.ser {m : Int} {d : Nat} {a : List Int} (h : BV m d a) : isSer m a = true := by
  have := h.big
  simp only [isBig, Bool.and_eq_true] at this
  exact this.1
theorem and_t {a b : Prop} [Decidable a] [Decidable b] (h : a ∧ b) : (decide a && decide b) = true := by simp [h]
theorem c_impl_CutSeries_bo (m : Int) (a : List Int) (d e : Nat) (h : BV m d a) (he : 1 ≤ e) (he2 : e ≤ d) : AFn Try.prog 30 [.agg [.int .i64 m, .sl false 2 (intL a)], .int .i64 e] (.tup [.agg [.int .i64 m, .sl true 2 (intL (a.take (e + 1)))], .int .i64 0]) := by
  refine AFn.of' ttOk (by decide) Try.func30 Try.ntmps30 (by rw [Try.results30]) (by rfl) (by rfl) (by simp) (by decide) (by simp only [go_sem, Nat.reduceAdd, ↓reduceIte]; rfl) mixed (fun C hP hM hC => ?_)
  have hl := h.len
  have hs := h.ser
  have hd := h.d2
  (repeat (first | ((with_reducible refine rgn_cons rfl (fun K hK => ?_)); simp only [go_sem, seval, ↓reduceIte, decide_true, decide_false, hs, wid ((e : Int) + 1) (by omega) (by omega), show ((e : Int) + 1) ≤ (a.length : Int) by omega, Int.le_refl, show (0 : Int) ≤ (e : Int) + 1 by omega, show ((e : Int) + 1).toNat = e + 1 by omega, Int.toNat_zero, List.drop_zero, intL_tk, show (decide ((1 : Int) ≤ (e : Int)) && decide ((e : Int) ≤ (a.length : Int) - 1)) = true from and_t ⟨by omega, by omega⟩]; (first | refine hK _ _ _ (by simp only [go_sem, Nat.reduceEqDiff, ↓reduceIte]; rfl) ?_ | refine ⟨_, c_impl_IsSeries m a h.sh, hK _ _ _ (by simp only [go_sem, Nat.reduceEqDiff, ↓reduceIte]; rfl) ?_⟩ | refine ⟨_, c_impl_Series_degree m a h.sh, hK _ _ _ (by simp only [go_sem, Nat.reduceEqDiff, ↓reduceIte]; rfl) ?_⟩ | refine ⟨_, c_impl_in _ _ _, hK _ _ _ (by simp only [go_sem, Nat.reduceEqDiff, ↓reduceIte]; rfl) ?_⟩ | refine ⟨_, c_impl_copyOf_int64_bo (a.take (e + 1)) (by rw [List.length_take]; omega), hK _ _ _ (by simp only [go_sem, Nat.reduceEqDiff, ↓reduceIte]; rfl) ?_⟩); clear hK; clear K) | (with_reducible first | refine rgn_nil (by first | trivial | kernel_rfl) ?_ | refine AWP.seq ?_ | refine tX hC hP (by kernel_rfl) ?_ | refine aX hC hM hP (by kernel_rfl) ?_ | refine AWP.skip ?_ | refine AWP.label ?_ | refine AWP.exit ?_ | refine AWP.block ?_ | refine cT (by simp only [go_sem, Nat.reduceEqDiff, ↓reduceIte]; with_reducible rfl) ?_ | refine cF (by simp only [go_sem, Nat.reduceEqDiff, ↓reduceIte]; with_reducible rfl) ?_) | simp only [qS, Nat.reduceEqDiff, ↓reduceIte]))
  (refine AWP.ret ?_; first | refine retOk1 (by simp only [go_sem, seval, ↓reduceIte, decide_true, decide_false]; rfl) ?_ | refine retOk2 (by simp only [go_sem, seval, ↓reduceIte, decide_true, decide_false]; rfl) (by simp only [go_sem, seval, ↓reduceIte, decide_true, decide_false]; rfl) (by simp) ?_ | refine retOk3 (by simp only [go_sem, seval, ↓reduceIte, decide_true, decide_false]; rfl) (by simp only [go_sem, seval, ↓reduceIte, decide_true, decide_false]; rfl) (by simp only [go_sem, seval, ↓reduceIte, decide_true, decide_false]; rfl) (by simp) ?_)
  rfl
theorem froF {m : Int} {d : Nat} {a : List Int} (h : BV m d a) (n : Nat) (h1 : 1 ≤ n) (h2 : n ≤ d) : AFn Try.prog 25 [.agg [.int .i64 m, .sl false 2 (intL a)], .int .i64 n] (.tup [.agg [.int .i64 m, .sl true 2 (intL (fL m n (d / n) (cL m a d) d))], .int .i64 0]) := by
  have hd := h.d2
  have hl := h.len
  have h0 : froC m a n = 0 := by
    simp only [froC, h.big, if_true]
    rw [if_pos (and_t ⟨by omega, by omega⟩), if_neg (by omega)]
  have h1 := c_impl_FrobeniusOfBig_ok m n a h.sh h0
  rwa [h0, h.len, Nat.add_sub_cancel, Int.toNat_natCast] at h1
theorem verC {m : Int} {d : Nat} {a : List Int} (h : BV m d a) (n : Nat) (h1 : 1 ≤ n) (h2 : n ≤ 100) : AFn Try.prog 27 [.agg [.int .i64 m, .sl false 2 (intL a)], .int .i64 n] (.tup [.agg [.int .i64 m, .sl true 2 (intL (spreadL a n d))], .int .i64 0]) := by
  have h0 : bigC m a n 1 100 = 0 := by
    simp only [bigC, h.big, if_true]
    rw [if_pos (and_t ⟨by omega, by omega⟩)]
  have h1 := c_impl_VerschiebungOfBig_ok m n a h.sh h0
  rwa [h0, h.len, Nat.add_sub_cancel, Int.toNat_natCast] at h1
theorem powC {m : Int} {d : Nat} {a : List Int} (h : BV m d a) (n : Nat) (h2 : n ≤ 20) : AFn Try.prog 39 [.agg [.int .i64 m, .sl false 2 (intL a)], .int .i64 n] (.tup [.agg [.int .i64 m, .sl true 2 (intL (powB m a d n))], .int .i64 0]) := by
  have h0 : bigC m a n 0 20 = 0 := by
    simp only [bigC, h.big, if_true]
    rw [if_pos (and_t ⟨by omega, by omega⟩)]
  have h1 := c_impl_PowerOfBig_ok m n a h.sh h0
  rwa [h0, h.len, Nat.add_sub_cancel, Int.toNat_natCast] at h1
theorem BV.small {m : Int} {d e : Nat} {a : List Int} (h : BV m d a) {b : List Int} {H : Nat → Int} (g : Rep m e b H) (h1 : 1 ≤ e) (h2 : e ≤ d) : BV m e b :=
  ⟨g.1, g.at0 (by have := h.m1; omega), h1, Nat.le_trans h2 h.d2, h.m1, h.m2⟩
theorem powB_rep {m : Int} {d : Nat} {a : List Int} {G : Nat → Int} (hm : 1 < m) (r : Rep m d a G) : ∀ k, ∃ H, Rep m d (powB m a d k) H
  | 0 => ⟨_, Rep.rep hm (by omega)⟩
  | k + 1 => by
    obtain ⟨H, h⟩ := powB_rep hm r k
    exact ⟨_, h.prod hm r⟩
end Go.Proofs.Ytccjfbfebgfgoaa
