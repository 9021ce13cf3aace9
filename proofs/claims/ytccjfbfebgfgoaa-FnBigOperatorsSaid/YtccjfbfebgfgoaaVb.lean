/-
  Big vectors: what the program's operations give, told for vectors that are well formed.
-/
import Derived.Test.YtccjfbfebgfgoaaWr
import Derived.Test.YtccjfbfebgfgoaaLv
import Derived.Test.YtccjfbfebgfgoaaLu
import Derived.Test.YtccjfbfebgfgoaaLx
import Derived.Test.YtccjfbfebgfgoaaLi
namespace Go.Proofs.Ytccjfbfebgfgoaa
open Go.RowKit
set_option linter.unusedSimpArgs false
set_option linter.unusedVariables false
set_option linter.unusedSectionVars false
set_option maxRecDepth 20000
-- Big vectors: what the program's operations give, told for vectors that are well formed.
/-- A big vector of degree d modulo m. -/
structure BV (m : Int) (d : Nat) (a : List Int) : Prop where
  num : numL m d a
  one : at' a 0 = 1
  d1 : 1 ≤ d
  d2 : d ≤ 10
  m1 : 2 ≤ m
  m2 : m ≤ 10000
theorem bv_of {m : Int} {l : List Int} (h : isBig m l = true) : ∃ d, l.length = d + 1 ∧ BV m d l := by
  obtain ⟨h1, h2, h3, h4, h5, h6⟩ := isBig_facts h
  exact ⟨l.length - 1, by omega, ⟨by omega, h5⟩, h6, by omega, by omega, h3, h4⟩
theorem BV.len {m : Int} {d : Nat} {a : List Int} (h : BV m d a) : a.length = d + 1 := h.num.1
theorem BV.sh {m : Int} {d : Nat} {a : List Int} (h : BV m d a) : a.length ≤ 1099511627776 := by have := h.len; have := h.d2; omega
theorem BV.big {m : Int} {d : Nat} {a : List Int} (h : BV m d a) : isBig m a = true := by
  have hl := h.len
  have h1 := h.d1; have h2 := h.d2; have h3 := h.m1; have h4 := h.m2
  have h5 : a.getD 0 0 = 1 := h.one
  have h6 : a.all (isNum m) = true := by
    rw [List.all_eq_true]
    intro x hx
    have := h.num.2 x hx
    simp only [isNum, Bool.and_eq_true, decide_eq_true_eq]
    omega
  rw [isBig, isSer, h6, h5, hl]
  simp
  omega
theorem BV.two {m : Int} {d : Nat} {a b : List Int} (h : BV m d a) (g : BV m d b) : twoB m a m b = 0 := by
  have h1 := h.len; have h2 := g.len
  simp [twoB, h.big, g.big, alikeB, h1, h2]
theorem BV.rep {m : Int} {d : Nat} {a : List Int} {G : Nat → Int} (h : BV m d a) (r : Rep m d a G) {b : List Int} {H : Nat → Int} (g : Rep m d b H) : BV m d b :=
  ⟨g.1, g.at0 (by have := h.m1; omega), h.d1, h.d2, h.m1, h.m2⟩
theorem mulC {m : Int} {d : Nat} {a b : List Int} (h : BV m d a) (g : BV m d b) : AFn Try.prog 8 [.agg [.int .i64 m, .sl false 2 (intL a)], .agg [.int .i64 m, .sl false 2 (intL b)]] (.tup [.agg [.int .i64 m, .sl true 2 (intL (prodL m a b d))], .int .i64 0]) := by
  have h1 := c_impl_MultiplyBig_ok m m a b h.sh g.sh (h.two g)
  rwa [h.two g, h.len, Nat.add_sub_cancel] at h1
theorem mulS {m : Int} {d : Nat} {a b : List Int} (h : BV m d a) (g : BV m d b) : AFn Try.prog 9 [.agg [.int .i64 m, .sl false 2 (intL a)], .agg [.int .i64 m, .sl false 2 (intL b)]] (.tup [.agg [.int .i64 m, .sl true 2 (intL (prodL m a b d))], .int .i64 0]) := by
  have h1 := c_spec_MultiplyBig_ok m m a b h.sh g.sh (h.two g)
  rwa [h.two g, h.len, Nat.add_sub_cancel] at h1
theorem addC {m : Int} {d : Nat} {a b : List Int} (h : BV m d a) (g : BV m d b) : AFn Try.prog 10 [.agg [.int .i64 m, .sl false 2 (intL a)], .agg [.int .i64 m, .sl false 2 (intL b)]] (.tup [.agg [.int .i64 m, .sl true 2 (intL (timesL m a b d))], .int .i64 0]) := by
  have h1 := c_impl_AddBig_ok m m a b h.sh g.sh (h.two g)
  rwa [h.two g, h.len, Nat.add_sub_cancel] at h1
theorem addS {m : Int} {d : Nat} {a b : List Int} (h : BV m d a) (g : BV m d b) : AFn Try.prog 11 [.agg [.int .i64 m, .sl false 2 (intL a)], .agg [.int .i64 m, .sl false 2 (intL b)]] (.tup [.agg [.int .i64 m, .sl true 2 (intL (timesL m a b d))], .int .i64 0]) := by
  have h1 := c_spec_AddBig_ok m m a b h.sh g.sh (h.two g)
  rwa [h.two g, h.len, Nat.add_sub_cancel] at h1
theorem BV.onec {m : Int} {d : Nat} {a : List Int} (h : BV m d a) : oneC m a = 0 := by simp [oneC, h.big]
theorem negC {m : Int} {d : Nat} {a : List Int} (h : BV m d a) : AFn Try.prog 16 [.agg [.int .i64 m, .sl false 2 (intL a)]] (.tup [.agg [.int .i64 m, .sl true 2 (intL (invS m a d))], .int .i64 0]) := by
  have h1 := c_impl_NegateBig_ok m a h.sh h.onec
  rwa [h.onec, h.len, Nat.add_sub_cancel] at h1
theorem mulnC {m : Int} {d : Nat} {a : List Int} (h : BV m d a) (n : Nat) (hn : n ≤ 1000) : AFn Try.prog 17 [.agg [.int .i64 m, .sl false 2 (intL a)], .int .i64 n] (.tup [.agg [.int .i64 m, .sl true 2 (intL (powL m a n d))], .int .i64 0]) := by
  have h0 : bigC m a n 0 1000 = 0 := by simp [bigC, h.big]; omega
  have h1 := c_impl_MultipleOfBig_ok m n a h.sh h0
  rwa [h0, h.len, Nat.add_sub_cancel, Int.toNat_natCast] at h1
theorem ghC {m : Int} {d : Nat} {a : List Int} (h : BV m d a) : AFn Try.prog 18 [.agg [.int .i64 m, .sl false 2 (intL a)]] (.tup [.sl true 2 (intL (ghL m (cL m a d) d)), .int .i64 0]) := by
  have h1 := c_impl_GhostsOfBig_ok m a h.sh h.onec
  rwa [h.onec, h.len, Nat.add_sub_cancel] at h1
theorem repCC {m : Int} {d : Nat} {a : List Int} (h : BV m d a) : AFn Try.prog 15 [.int .i64 m, .int .i64 d, .int .i64 1] (.tup [.agg [.int .i64 m, .sl true 2 (intL (geo m 1 1 d))], .int .i64 0]) := by
  have h1 := h.d1; have h2 := h.d2; have h3 := h.m1; have h4 := h.m2
  have hc : codeN m [1] = 0 := by simp [codeN, isNum]; omega
  have h0 : repC m d 1 = 0 := by simp [repC, hc]; omega
  have h1 := c_impl_RepresentativeBig_ok m d 1 h0
  rwa [h0, Int.toNat_natCast] at h1
/-- The code of a law's first lines. -/
theorem c_laws_big (a : Option Addr) (c : Nat) (l : List Int) : AFn Try.prog 6 [.str (.src a c l)] (.bool (decide ((4096 : Int) < (l.length : Int)))) := by
  refine AFn.of' ttOk (by decide) Try.func6 Try.ntmps6 (by rw [Try.results6]) (by rfl) (by rfl) (by simp) (by decide) (by simp only [go_sem, Nat.reduceAdd, ↓reduceIte]; rfl) mixed (fun C hP hM hC => ?_)
  (repeat (first | ((with_reducible refine rgn_cons rfl (fun K hK => ?_)); simp only [go_sem, seval, ↓reduceIte, decide_true, decide_false]; (refine hK _ _ _ (by simp only [go_sem, Nat.reduceEqDiff, ↓reduceIte]; rfl) ?_); clear hK; clear K) | (with_reducible first | refine rgn_nil (by first | trivial | kernel_rfl) ?_ | refine AWP.seq ?_ | refine tX hC hP (by kernel_rfl) ?_ | refine aX hC hM hP (by kernel_rfl) ?_ | refine AWP.skip ?_ | refine AWP.label ?_ | refine AWP.exit ?_ | refine AWP.block ?_ | refine cT (by simp only [go_sem, Nat.reduceEqDiff, ↓reduceIte]; with_reducible rfl) ?_ | refine cF (by simp only [go_sem, Nat.reduceEqDiff, ↓reduceIte]; with_reducible rfl) ?_) | simp only [qS, Nat.reduceEqDiff, ↓reduceIte]))
  (refine AWP.ret ?_; first | refine retOk1 (by simp only [go_sem, seval, ↓reduceIte, decide_true, decide_false]; rfl) ?_ | refine retOk2 (by simp only [go_sem, seval, ↓reduceIte, decide_true, decide_false]; rfl) (by simp only [go_sem, seval, ↓reduceIte, decide_true, decide_false]; rfl) (by simp) ?_ | refine retOk3 (by simp only [go_sem, seval, ↓reduceIte, decide_true, decide_false]; rfl) (by simp only [go_sem, seval, ↓reduceIte, decide_true, decide_false]; rfl) (by simp only [go_sem, seval, ↓reduceIte, decide_true, decide_false]; rfl) (by simp) ?_)
  rfl
theorem bneT {x y : Int} (h : ¬ x = y) : (x != y) = true := by simpa using h
/-- The code behind its first k parts. -/
def dropSeq : Nat → Code → Code
  | 0, c => c
  | k + 1, .seq _ y => dropSeq k y
  | _ + 1, c => c
/-- What follows the first k parts is looked at once, from fewer slots. -/
theorem AWP.tailAt {C : Ctx} {n : Nat} {Q : Exit → Env → Prop} {env : Env} {c : Code} (k : Nat) (E : Env) (h : AWP C n (dropSeq k c) Q E) (h2 : AWP C n (dropSeq k c) Q E → AWP C n c Q env) : AWP C n c Q env := h2 h
end Go.Proofs.Ytccjfbfebgfgoaa
