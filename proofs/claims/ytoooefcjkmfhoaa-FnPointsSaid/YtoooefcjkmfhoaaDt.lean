/-
  Draws of points.
-/
import Derived.Test.YtoooefcjkmfhoaaDq
import Derived.Test.YtoooefcjkmfhoaaXa
namespace Go.Proofs.Ytoooefcjkmfhoaa
open Go.RowKit
set_option linter.unusedSimpArgs false
set_option linter.unusedVariables false
set_option linter.unusedSectionVars false
set_option maxRecDepth 20000
-- Draws of points.
/-- A point of a list, sometimes turned over. -/
def atQ (l : List Int) (p : Int) (p0 : List Int) (s : Int × Int) : List Int × (Int × Int) :=
  if p0.length = 2 then (if nextX l s 2 = 0 then (p0.set 1 (-(p0.getD 1 0) % p), nextS l s 2) else (p0, nextS l s 2)) else (p0, s)
/-- One point drawn. -/
def atP (l : List Int) (p a b : Int) (prev : List (List Int)) (s : Int × Int) : List Int × (Int × Int) :=
  if isE p a b = true then
    if 0 < nextX l (nextS l (nextS l s p) p) 12 then
      if 0 < prev.length then
        if nextX l (nextS l (nextS l (nextS l (nextS l s p) p) 12) ((ptsL p a b).length : Int)) 4 = 0 then atQ l p (prev.getD 0 []) (nextS l (nextS l (nextS l (nextS l (nextS l s p) p) 12) ((ptsL p a b).length : Int)) 4)
        else ((ptsL p a b).getD (nextX l (nextS l (nextS l (nextS l s p) p) 12) ((ptsL p a b).length : Int)).toNat [], nextS l (nextS l (nextS l (nextS l (nextS l s p) p) 12) ((ptsL p a b).length : Int)) 4)
      else ((ptsL p a b).getD (nextX l (nextS l (nextS l (nextS l s p) p) 12) ((ptsL p a b).length : Int)).toNat [], nextS l (nextS l (nextS l (nextS l s p) p) 12) ((ptsL p a b).length : Int))
    else ([nextX l s p, nextX l (nextS l s p) p], nextS l (nextS l (nextS l s p) p) 12)
  else ([nextX l s p, nextX l (nextS l s p) p], nextS l (nextS l s p) p)
def atR (l : List Int) (p a b : Int) (s : Int × Int) : Nat → List (List Int) × (Int × Int)
  | 0 => ([], s)
  | k + 1 => ((atR l p a b s k).1 ++ [(atP l p a b (atR l p a b s k).1 (atR l p a b s k).2).1], (atP l p a b (atR l p a b s k).1 (atR l p a b s k).2).2)
/-- Few and small numbers. -/
def Row (x : List Int) : Prop := x.length ≤ 2 ∧ ∀ z ∈ x, 0 ≤ z ∧ z ≤ 101
theorem Row.set {x : List Int} (h : Row x) {i : Nat} {v : Int} (hv : 0 ≤ v ∧ v ≤ 101) : Row (x.set i v) := by
  refine ⟨by rw [List.length_set]; exact h.1, fun z hz => ?_⟩
  rcases List.mem_or_eq_of_mem_set hz with g | g
  · exact h.2 z g
  · rw [g]; exact hv
theorem Row.at {x : List Int} (h : Row x) (i : Nat) : 0 ≤ at' x i ∧ at' x i ≤ 101 := by
  unfold at'
  by_cases g : i < x.length
  · rw [List.getD_eq_getElem?_getD, List.getElem?_eq_getElem g, Option.getD_some]
    exact h.2 _ (List.getElem_mem _)
  · rw [List.getD_eq_getElem?_getD, List.getElem?_eq_none (by omega)]
    simp
theorem atQ_ok {l : List Int} {p : Int} {p0 : List Int} {s : Int × Int} (hS : Sok l s) (h0 : 0 < p) (h1 : p ≤ 101) (hp : Row p0) : Sok l (atQ l p p0 s).2 ∧ Row (atQ l p p0 s).1 := by
  unfold atQ
  split
  · split
    · have := emod_b (-(p0.getD 1 0)) p h0
      exact ⟨nextS_ok hS _, hp.set (by omega)⟩
    · exact ⟨nextS_ok hS _, hp⟩
  · exact ⟨hS, hp⟩
theorem isE_code {p a b : Int} (h : isE p a b = true) : codeE p a b = 0 := by
  simp only [isE, Bool.and_eq_true, bne_iff_ne] at h
  obtain ⟨⟨⟨h1, h2⟩, h3⟩, h4⟩ := h
  have h5 : (isNum p a && isNum p b) = true := by rw [h2, h3]; rfl
  rw [codeE, if_pos h1, if_pos h5, if_neg h4]
theorem Row.nil : Row [] := ⟨by simp, by simp⟩
theorem ptsL_row {p a b : Int} (h : isE p a b = true) : ∀ x ∈ ptsL p a b, Row x := by
  intro x hx
  have hf := (codeE_zero (isE_code h)).1
  have hp := fieldB_facts hf
  have hh := ptsL_has (by omega) x hx
  rcases hasB_cases hh with rfl | ⟨u, v, rfl⟩
  · exact Row.nil
  · obtain ⟨g1, g2, _⟩ := (hasB_two (by omega)).1 hh
    refine ⟨by simp, fun z hz => ?_⟩
    simp only [List.mem_cons, List.not_mem_nil, or_false] at hz
    omega
theorem getD_row {L : List (List Int)} (h : ∀ x ∈ L, Row x) (i : Nat) : Row (L.getD i []) := by
  by_cases g : i < L.length
  · rw [List.getD_eq_getElem?_getD, List.getElem?_eq_getElem g, Option.getD_some]
    exact h _ (List.getElem_mem _)
  · rw [List.getD_eq_getElem?_getD, List.getElem?_eq_none (by omega)]
    exact Row.nil
theorem two_row {l : List Int} (hB : Byt l) {p : Int} (hp : p ≤ 101) (s t : Int × Int) : Row [nextX l s p, nextX l t p] := by
  have h1 := nextX_bound hB s p
  have h2 := nextX_bound hB t p
  refine ⟨by simp, fun z hz => ?_⟩
  simp only [List.mem_cons, List.not_mem_nil, or_false] at hz
  by_cases g : 1 ≤ p
  · have := h1.2.1 g
    have := h2.2.1 g
    rcases hz with rfl | rfl <;> omega
  · have := h1.2.2 (by omega)
    have := h2.2.2 (by omega)
    rcases hz with rfl | rfl <;> omega
theorem atP_ok {l : List Int} (hB : Byt l) {p a b : Int} (h1 : p ≤ 101) {prev : List (List Int)} {s : Int × Int} (hS : Sok l s) (hp : ∀ x ∈ prev, Row x) : Sok l (atP l p a b prev s).2 ∧ Row (atP l p a b prev s).1 := by
  unfold atP
  have q2 := nextS_ok (nextS_ok hS p) p
  split
  · rename_i hE
    have hL := ptsL_row hE
    have hf := fieldB_facts (codeE_zero (isE_code hE)).1
    split
    · have q4 := nextS_ok (nextS_ok q2 12) ((ptsL p a b).length : Int)
      split
      · split
        · exact atQ_ok (nextS_ok q4 4) (by omega) h1 (getD_row hp 0)
        · exact ⟨nextS_ok q4 4, getD_row hL _⟩
      · exact ⟨q4, getD_row hL _⟩
    · exact ⟨nextS_ok q2 12, two_row hB h1 _ _⟩
  · exact ⟨q2, two_row hB h1 _ _⟩
theorem atR_ok {l : List Int} (hB : Byt l) {p a b : Int} (h1 : p ≤ 101) {s : Int × Int} (hS : Sok l s) : ∀ k, Sok l (atR l p a b s k).2 ∧ (∀ x ∈ (atR l p a b s k).1, Row x) ∧ (atR l p a b s k).1.length = k
  | 0 => ⟨hS, by simp [atR], rfl⟩
  | k + 1 => by
    obtain ⟨g1, h2, h3⟩ := atR_ok hB (a := a) (b := b) h1 hS k
    have h4 := atP_ok hB (a := a) (b := b) h1 g1 h2
    refine ⟨h4.1, ?_, by simp [atR, h3]⟩
    intro x hx
    simp only [atR, List.mem_append, List.mem_singleton] at hx
    rcases hx with hx | rfl
    · exact h2 x hx
    · exact h4.2
set_option maxHeartbeats 8000000 in
theorem c_spec_l18At (a : Option Addr) (c : Nat) (l : List Int) (hB : Byt l) (s : Int × Int) (hS : Sok l s) (n : Nat) (hn : n ≤ 100) (p x y : Int) (s1 : Int × Int) (hS1 : Sok l s1) (hp : p ≤ 101) (hC1 : AFn Try.prog (5000000 + 36) [.str (.src a c l), SRQ a c l s] (.tup [.tup [.int .i64 p, .int .i64 x, .int .i64 y], SRQ a c l s1])) : AFn Try.prog (5000000 + 54) [.str (.src a c l), .box 78 (.agg [.str (.raw a l.length c), .int .i64 s.1, .int .u64 s.2]), .int .i64 (n : Int)] (.tup [(.tup [.int .i64 p, .int .i64 x, .int .i64 y, .sl true 37 (rowsO ((atR l p x y s1 n).1))]), .box 78 (.agg [.str (.raw a l.length c), .int .i64 ((atR l p x y s1 n).2).1, .int .u64 ((atR l p x y s1 n).2).2])]) := by
  refine AFg.of' ttOk Try.func54 Try.ntmps54 (by rw [Try.results54]) (by rfl) (by rfl) (by simp) (by decide) (by decide) srcScalar srcScalar rfl (by simp only [go_sem, Nat.reduceAdd, ↓reduceIte]; rfl) mixed (fun C hP hM hC => ?_)
  (repeat (first | ((with_reducible refine rgn_cons rfl (fun K hK => ?_)); simp only [go_sem, seval, ↓reduceIte, decide_true, decide_false]; (first | refine hK _ _ _ (by simp only [go_sem, Nat.reduceEqDiff, ↓reduceIte]; rfl) ?_ | refine ⟨_, hC1, hK _ _ _ (by simp only [go_sem, Nat.reduceEqDiff, ↓reduceIte]; rfl) ?_⟩); clear hK; clear K) | (with_reducible first | refine rgn_nil (by first | trivial | kernel_rfl) ?_ | refine AWP.seq ?_ | refine tX hC hP (by kernel_rfl) ?_ | refine aX hC hM hP (by kernel_rfl) ?_ | refine AWP.skip ?_ | refine AWP.label ?_ | refine AWP.exit ?_ | refine AWP.block ?_ | refine cTa ?_ | refine cFa ?_) | simp only [qS, Nat.reduceEqDiff, ↓reduceIte]))
  refine AWP.loop (fun w : Nat × Nat => [(1, ⟨0, .val (.int .i64 ((n : Int) - w.1))⟩), (8, ⟨0, .val (.int .i64 p)⟩), (9, ⟨0, .val (.int .i64 x)⟩), (10, ⟨0, .val (.int .i64 y)⟩), (11, ⟨w.2, .own (.sl true 37 (rowsO ((atR l p x y s1 w.1).1)))⟩), (3000000, ⟨0, .val (.str (.src a c l))⟩), (0, ⟨0, .val (.addr 3000001 0 [] 0 [0])⟩), (3000001, ⟨0, .own (.box 78 (.agg [.str (.raw a l.length c), .int .i64 (atR l p x y s1 w.1).2.1, .int .u64 (atR l p x y s1 w.1).2.2]))⟩)]) (fun w => w.1 ≤ n) (fun w => n - w.1) (0, 1) (Nat.zero_le _) (fun i => rfl) ?_ (fun w hw => ?_)
  · simp [Sub, lk, atR, rowsO]
  · obtain ⟨k, v⟩ := w
    simp only at hw ⊢
    by_cases hk : k < n
    · obtain ⟨h1, h2, h3⟩ := atR_ok hB (a := x) (b := y) hp hS1 k
      have q1 := nextS_ok h1 p
      have q2 := nextS_ok q1 p
      have hw1 := wid ((n : Int) - (k : Int) - 1) (by omega) (by omega)
      have hk2 : ((n : Int) - (k : Int)) - 1 = (n : Int) - ((k + 1 : Nat) : Int) := by omega
      have hpos : (0 : Int) < (n : Int) - (k : Int) := by omega
      have eR : ∀ r, atP l p x y (atR l p x y s1 k).1 (atR l p x y s1 k).2 = r → atR l p x y s1 (k + 1) = ((atR l p x y s1 k).1 ++ [r.1], r.2) := by
        intro r hr
        rw [atR, hr]
      generalize (atR l p x y s1 k).1 = prev at *
      generalize (atR l p x y s1 k).2 = st at *
      have hkk : prev.length + 1 ≤ 1099511627776 := by omega
      have hk24 : (prev.length + 1) * 24 ≤ 140737488355328 := by omega
      have cN1 := c_spec_l01Next a c l hB st h1 p
      have cN2 := c_spec_l01Next a c l hB _ q1 p
      have q3 := nextS_ok q2 12
      have cN3 := c_spec_l01Next a c l hB _ q2 12
      by_cases hE : isE p x y = true
      · have hcode := isE_code hE
        have hkv := CurveOk.of hcode
        have hL := ptsL_len hkv
        have hrow := ptsL_row hE
        have hf := (codeE_zero hcode).1
        have hpp := fieldB_facts hf
        have hn0 : 0 < (ptsL p x y).length := List.length_pos_of_mem (ptsL_mem hf (l := []) rfl)
        have cPts := c_spec_l18Points p x y hkv
        have q4 := nextS_ok q3 ((ptsL p x y).length : Int)
        have cN4 := c_spec_l01Next a c l hB _ q3 ((ptsL p x y).length : Int)
        have b4 := nextX_bound hB (nextS l (nextS l (nextS l st p) p) 12) ((ptsL p x y).length : Int)
        have q5 := nextS_ok q4 4
        have cN5 := c_spec_l01Next a c l hB _ q4 4
        have cN6 := c_spec_l01Next a c l hB _ q5 2
        have eP : atP l p x y prev st = (if 0 < nextX l (nextS l (nextS l st p) p) 12 then
            if 0 < prev.length then
              if nextX l (nextS l (nextS l (nextS l (nextS l st p) p) 12) ((ptsL p x y).length : Int)) 4 = 0 then atQ l p (prev.getD 0 []) (nextS l (nextS l (nextS l (nextS l (nextS l st p) p) 12) ((ptsL p x y).length : Int)) 4)
              else ((ptsL p x y).getD (nextX l (nextS l (nextS l (nextS l st p) p) 12) ((ptsL p x y).length : Int)).toNat [], nextS l (nextS l (nextS l (nextS l (nextS l st p) p) 12) ((ptsL p x y).length : Int)) 4)
            else ((ptsL p x y).getD (nextX l (nextS l (nextS l (nextS l st p) p) 12) ((ptsL p x y).length : Int)).toNat [], nextS l (nextS l (nextS l (nextS l st p) p) 12) ((ptsL p x y).length : Int))
          else ([nextX l st p, nextX l (nextS l st p) p], nextS l (nextS l (nextS l st p) p) 12)) := by rw [atP, if_pos hE]
        generalize nextS l (nextS l (nextS l (nextS l (nextS l st p) p) 12) ((ptsL p x y).length : Int)) 4 = t5 at *
        generalize nextX l (nextS l (nextS l (nextS l (nextS l st p) p) 12) ((ptsL p x y).length : Int)) 4 = x5 at *
        generalize nextS l (nextS l (nextS l (nextS l st p) p) 12) ((ptsL p x y).length : Int) = t4 at *
        generalize nextX l (nextS l (nextS l (nextS l st p) p) 12) ((ptsL p x y).length : Int) = x4 at *
        generalize nextS l (nextS l (nextS l st p) p) 12 = t3 at *
        generalize nextX l (nextS l (nextS l st p) p) 12 = x3 at *
        generalize nextS l (nextS l st p) p = t2 at *
        generalize nextX l (nextS l st p) p = x2 at *
        generalize nextS l st p = t1 at *
        generalize nextX l st p = x1 at *
        have hx4 := b4.2.1 (by omega)
        have hi : x4.toNat < (ptsL p x y).length := by omega
        have hR := getD_row hrow x4.toNat
        have cO := c_spec_l01Own ((ptsL p x y).getD x4.toNat []) (by have := hR.1; omega)
        have f1 := rowsO_get (ptsL p x y) x4.toNat hi
        have f2 := sizeL_takeO (ptsL p x y) x4.toNat (Nat.le_of_lt hi)
        by_cases g3 : 0 < x3
        · rw [if_pos g3] at eP
          by_cases gp : 0 < prev.length
          · rw [if_pos gp] at eP
            have gpi : (0 : Int) < (prev.length : Int) := by omega
            have hR0 := getD_row h2 0
            have f3 := rowsO_get prev 0 gp
            have cO0 := c_spec_l01Own (prev.getD 0 []) (by have := hR0.1; omega)
            have hA1 : 0 ≤ (prev.getD 0 []).getD 1 0 ∧ (prev.getD 0 []).getD 1 0 ≤ 101 := hR0.at 1
            by_cases g5 : x5 = 0
            · rw [if_pos g5] at eP
              subst g5
              by_cases gl : (prev.getD 0 []).length = 2
              · have gl2 : (((prev.getD 0 []).length : Int) == 2) = true := by rw [gl]; rfl
                by_cases g6 : nextX l t5 2 = 0
                · have e1 := eR _ (eP.trans (show atQ l p (prev.getD 0 []) t5 = _ by rw [atQ, if_pos gl, if_pos g6]))
                  (repeat (first | ((with_reducible refine rgn_cons rfl (fun K hK => ?_)); simp only [go_sem, seval, ↓reduceIte, decide_true, decide_false, hpos, decide_true, hE, hw1, rowsO_snocL, hkk, hk24, g3, b4.1, hx4, f1, f2, Nat.mul_one, gp, gpi, f3, Int.le_refl, Int.toNat_zero, List.take_zero, Nat.zero_mul, gl, gl2, g6, sizeL_take (prev.getD 0 []) 1 (by omega), intL_get _ 1 (show 1 < (prev.getD 0 []).length by omega), show (1 : Int) < ((prev.getD 0 []).length : Int) by omega, intL_modify, Int.zero_sub, wid (-((prev.getD 0 []).getD 1 0)) (by omega) (by omega)]; (first | refine hK _ _ _ (by simp only [go_sem, Nat.reduceEqDiff, ↓reduceIte]; rfl) ?_ | refine ⟨_, cN1, hK _ _ _ (by simp only [go_sem, Nat.reduceEqDiff, ↓reduceIte]; rfl) ?_⟩ | refine ⟨_, cN2, hK _ _ _ (by simp only [go_sem, Nat.reduceEqDiff, ↓reduceIte]; rfl) ?_⟩ | refine ⟨_, c_spec_l18Is p x y, hK _ _ _ (by simp only [go_sem, Nat.reduceEqDiff, ↓reduceIte]; rfl) ?_⟩ | refine ⟨_, cN3, hK _ _ _ (by simp only [go_sem, Nat.reduceEqDiff, ↓reduceIte]; rfl) ?_⟩ | refine ⟨_, cPts, hK _ _ _ (by simp only [go_sem, Nat.reduceEqDiff, ↓reduceIte]; rfl) ?_⟩ | refine ⟨_, cN4, hK _ _ _ (by simp only [go_sem, Nat.reduceEqDiff, ↓reduceIte]; rfl) ?_⟩ | refine ⟨_, cN5, hK _ _ _ (by simp only [go_sem, Nat.reduceEqDiff, ↓reduceIte]; rfl) ?_⟩ | refine ⟨_, cN6, hK _ _ _ (by simp only [go_sem, Nat.reduceEqDiff, ↓reduceIte]; rfl) ?_⟩ | refine ⟨_, cO, hK _ _ _ (by simp only [go_sem, Nat.reduceEqDiff, ↓reduceIte]; rfl) ?_⟩ | refine ⟨_, cO0, hK _ _ _ (by simp only [go_sem, Nat.reduceEqDiff, ↓reduceIte]; rfl) ?_⟩ | refine ⟨_, c_spec_l01Mod p (-((prev.getD 0 []).getD 1 0)) (by omega) (by omega), hK _ _ _ (by simp only [go_sem, Nat.reduceEqDiff, ↓reduceIte]; rfl) ?_⟩); clear hK; clear K) | (with_reducible first | refine rgn_nil (by first | trivial | kernel_rfl) ?_ | refine AWP.seq ?_ | refine tX hC hP (by kernel_rfl) ?_ | refine aX hC hM hP (by kernel_rfl) ?_ | refine AWP.skip ?_ | refine AWP.label ?_ | refine AWP.exit ?_ | refine AWP.block ?_ | refine cTa ?_ | refine cFa ?_) | simp only [qS, Nat.reduceEqDiff, ↓reduceIte]))
                  exact ⟨(k + 1, v + 1), by simp only; omega, by simp only; omega, by simp [Sub, lk, e1]; omega⟩
                · have e1 := eR _ (eP.trans (show atQ l p (prev.getD 0 []) t5 = _ by rw [atQ, if_pos gl, if_neg g6]))
                  (repeat (first | ((with_reducible refine rgn_cons rfl (fun K hK => ?_)); simp only [go_sem, seval, ↓reduceIte, decide_true, decide_false, hpos, decide_true, hE, hw1, rowsO_snocL, hkk, hk24, g3, b4.1, hx4, f1, f2, Nat.mul_one, gp, gpi, f3, Int.le_refl, Int.toNat_zero, List.take_zero, Nat.zero_mul, gl, gl2, beqF g6]; (first | refine hK _ _ _ (by simp only [go_sem, Nat.reduceEqDiff, ↓reduceIte]; rfl) ?_ | refine ⟨_, cN1, hK _ _ _ (by simp only [go_sem, Nat.reduceEqDiff, ↓reduceIte]; rfl) ?_⟩ | refine ⟨_, cN2, hK _ _ _ (by simp only [go_sem, Nat.reduceEqDiff, ↓reduceIte]; rfl) ?_⟩ | refine ⟨_, c_spec_l18Is p x y, hK _ _ _ (by simp only [go_sem, Nat.reduceEqDiff, ↓reduceIte]; rfl) ?_⟩ | refine ⟨_, cN3, hK _ _ _ (by simp only [go_sem, Nat.reduceEqDiff, ↓reduceIte]; rfl) ?_⟩ | refine ⟨_, cPts, hK _ _ _ (by simp only [go_sem, Nat.reduceEqDiff, ↓reduceIte]; rfl) ?_⟩ | refine ⟨_, cN4, hK _ _ _ (by simp only [go_sem, Nat.reduceEqDiff, ↓reduceIte]; rfl) ?_⟩ | refine ⟨_, cN5, hK _ _ _ (by simp only [go_sem, Nat.reduceEqDiff, ↓reduceIte]; rfl) ?_⟩ | refine ⟨_, cN6, hK _ _ _ (by simp only [go_sem, Nat.reduceEqDiff, ↓reduceIte]; rfl) ?_⟩ | refine ⟨_, cO, hK _ _ _ (by simp only [go_sem, Nat.reduceEqDiff, ↓reduceIte]; rfl) ?_⟩ | refine ⟨_, cO0, hK _ _ _ (by simp only [go_sem, Nat.reduceEqDiff, ↓reduceIte]; rfl) ?_⟩); clear hK; clear K) | (with_reducible first | refine rgn_nil (by first | trivial | kernel_rfl) ?_ | refine AWP.seq ?_ | refine tX hC hP (by kernel_rfl) ?_ | refine aX hC hM hP (by kernel_rfl) ?_ | refine AWP.skip ?_ | refine AWP.label ?_ | refine AWP.exit ?_ | refine AWP.block ?_ | refine cTa ?_ | refine cFa ?_) | simp only [qS, Nat.reduceEqDiff, ↓reduceIte]))
                  exact ⟨(k + 1, v + 1), by simp only; omega, by simp only; omega, by simp [Sub, lk, e1]; omega⟩
              · have gl2 : (((prev.getD 0 []).length : Int) == 2) = false := beqF (by omega)
                have e1 := eR _ (eP.trans (show atQ l p (prev.getD 0 []) t5 = _ by rw [atQ, if_neg gl]))
                (repeat (first | ((with_reducible refine rgn_cons rfl (fun K hK => ?_)); simp only [go_sem, seval, ↓reduceIte, decide_true, decide_false, hpos, decide_true, hE, hw1, rowsO_snocL, hkk, hk24, g3, b4.1, hx4, f1, f2, Nat.mul_one, gp, gpi, f3, Int.le_refl, Int.toNat_zero, List.take_zero, Nat.zero_mul, gl2]; (first | refine hK _ _ _ (by simp only [go_sem, Nat.reduceEqDiff, ↓reduceIte]; rfl) ?_ | refine ⟨_, cN1, hK _ _ _ (by simp only [go_sem, Nat.reduceEqDiff, ↓reduceIte]; rfl) ?_⟩ | refine ⟨_, cN2, hK _ _ _ (by simp only [go_sem, Nat.reduceEqDiff, ↓reduceIte]; rfl) ?_⟩ | refine ⟨_, c_spec_l18Is p x y, hK _ _ _ (by simp only [go_sem, Nat.reduceEqDiff, ↓reduceIte]; rfl) ?_⟩ | refine ⟨_, cN3, hK _ _ _ (by simp only [go_sem, Nat.reduceEqDiff, ↓reduceIte]; rfl) ?_⟩ | refine ⟨_, cPts, hK _ _ _ (by simp only [go_sem, Nat.reduceEqDiff, ↓reduceIte]; rfl) ?_⟩ | refine ⟨_, cN4, hK _ _ _ (by simp only [go_sem, Nat.reduceEqDiff, ↓reduceIte]; rfl) ?_⟩ | refine ⟨_, cN5, hK _ _ _ (by simp only [go_sem, Nat.reduceEqDiff, ↓reduceIte]; rfl) ?_⟩ | refine ⟨_, cO, hK _ _ _ (by simp only [go_sem, Nat.reduceEqDiff, ↓reduceIte]; rfl) ?_⟩ | refine ⟨_, cO0, hK _ _ _ (by simp only [go_sem, Nat.reduceEqDiff, ↓reduceIte]; rfl) ?_⟩); clear hK; clear K) | (with_reducible first | refine rgn_nil (by first | trivial | kernel_rfl) ?_ | refine AWP.seq ?_ | refine tX hC hP (by kernel_rfl) ?_ | refine aX hC hM hP (by kernel_rfl) ?_ | refine AWP.skip ?_ | refine AWP.label ?_ | refine AWP.exit ?_ | refine AWP.block ?_ | refine cTa ?_ | refine cFa ?_) | simp only [qS, Nat.reduceEqDiff, ↓reduceIte]))
                exact ⟨(k + 1, v + 1), by simp only; omega, by simp only; omega, by simp [Sub, lk, e1]; omega⟩
            · rw [if_neg g5] at eP
              have e1 := eR _ eP
              (repeat (first | ((with_reducible refine rgn_cons rfl (fun K hK => ?_)); simp only [go_sem, seval, ↓reduceIte, decide_true, decide_false, hpos, decide_true, hE, hw1, rowsO_snocL, hkk, hk24, g3, b4.1, hx4, f1, f2, Nat.mul_one, gp, gpi, beqF g5]; (first | refine hK _ _ _ (by simp only [go_sem, Nat.reduceEqDiff, ↓reduceIte]; rfl) ?_ | refine ⟨_, cN1, hK _ _ _ (by simp only [go_sem, Nat.reduceEqDiff, ↓reduceIte]; rfl) ?_⟩ | refine ⟨_, cN2, hK _ _ _ (by simp only [go_sem, Nat.reduceEqDiff, ↓reduceIte]; rfl) ?_⟩ | refine ⟨_, c_spec_l18Is p x y, hK _ _ _ (by simp only [go_sem, Nat.reduceEqDiff, ↓reduceIte]; rfl) ?_⟩ | refine ⟨_, cN3, hK _ _ _ (by simp only [go_sem, Nat.reduceEqDiff, ↓reduceIte]; rfl) ?_⟩ | refine ⟨_, cPts, hK _ _ _ (by simp only [go_sem, Nat.reduceEqDiff, ↓reduceIte]; rfl) ?_⟩ | refine ⟨_, cN4, hK _ _ _ (by simp only [go_sem, Nat.reduceEqDiff, ↓reduceIte]; rfl) ?_⟩ | refine ⟨_, cN5, hK _ _ _ (by simp only [go_sem, Nat.reduceEqDiff, ↓reduceIte]; rfl) ?_⟩ | refine ⟨_, cO, hK _ _ _ (by simp only [go_sem, Nat.reduceEqDiff, ↓reduceIte]; rfl) ?_⟩); clear hK; clear K) | (with_reducible first | refine rgn_nil (by first | trivial | kernel_rfl) ?_ | refine AWP.seq ?_ | refine tX hC hP (by kernel_rfl) ?_ | refine aX hC hM hP (by kernel_rfl) ?_ | refine AWP.skip ?_ | refine AWP.label ?_ | refine AWP.exit ?_ | refine AWP.block ?_ | refine cTa ?_ | refine cFa ?_) | simp only [qS, Nat.reduceEqDiff, ↓reduceIte]))
              exact ⟨(k + 1, v + 1), by simp only; omega, by simp only; omega, by simp [Sub, lk, e1]; omega⟩
          · rw [if_neg gp] at eP
            have e1 := eR _ eP
            (repeat (first | ((with_reducible refine rgn_cons rfl (fun K hK => ?_)); simp only [go_sem, seval, ↓reduceIte, decide_true, decide_false, hpos, decide_true, hE, hw1, rowsO_snocL, hkk, hk24, g3, b4.1, hx4, f1, f2, Nat.mul_one, show ¬ (0 : Int) < (prev.length : Int) by omega, decide_false]; (first | refine hK _ _ _ (by simp only [go_sem, Nat.reduceEqDiff, ↓reduceIte]; rfl) ?_ | refine ⟨_, cN1, hK _ _ _ (by simp only [go_sem, Nat.reduceEqDiff, ↓reduceIte]; rfl) ?_⟩ | refine ⟨_, cN2, hK _ _ _ (by simp only [go_sem, Nat.reduceEqDiff, ↓reduceIte]; rfl) ?_⟩ | refine ⟨_, c_spec_l18Is p x y, hK _ _ _ (by simp only [go_sem, Nat.reduceEqDiff, ↓reduceIte]; rfl) ?_⟩ | refine ⟨_, cN3, hK _ _ _ (by simp only [go_sem, Nat.reduceEqDiff, ↓reduceIte]; rfl) ?_⟩ | refine ⟨_, cPts, hK _ _ _ (by simp only [go_sem, Nat.reduceEqDiff, ↓reduceIte]; rfl) ?_⟩ | refine ⟨_, cN4, hK _ _ _ (by simp only [go_sem, Nat.reduceEqDiff, ↓reduceIte]; rfl) ?_⟩ | refine ⟨_, cO, hK _ _ _ (by simp only [go_sem, Nat.reduceEqDiff, ↓reduceIte]; rfl) ?_⟩); clear hK; clear K) | (with_reducible first | refine rgn_nil (by first | trivial | kernel_rfl) ?_ | refine AWP.seq ?_ | refine tX hC hP (by kernel_rfl) ?_ | refine aX hC hM hP (by kernel_rfl) ?_ | refine AWP.skip ?_ | refine AWP.label ?_ | refine AWP.exit ?_ | refine AWP.block ?_ | refine cTa ?_ | refine cFa ?_) | simp only [qS, Nat.reduceEqDiff, ↓reduceIte]))
            exact ⟨(k + 1, v + 1), by simp only; omega, by simp only; omega, by simp [Sub, lk, e1]; omega⟩
        · rw [if_neg g3] at eP
          have e1 := eR _ eP
          (repeat (first | ((with_reducible refine rgn_cons rfl (fun K hK => ?_)); simp only [go_sem, seval, ↓reduceIte, decide_true, decide_false, hpos, decide_true, hE, hw1, rowsO_snoc2, hkk, hk24, g3, decide_false]; (first | refine hK _ _ _ (by simp only [go_sem, Nat.reduceEqDiff, ↓reduceIte]; rfl) ?_ | refine ⟨_, cN1, hK _ _ _ (by simp only [go_sem, Nat.reduceEqDiff, ↓reduceIte]; rfl) ?_⟩ | refine ⟨_, cN2, hK _ _ _ (by simp only [go_sem, Nat.reduceEqDiff, ↓reduceIte]; rfl) ?_⟩ | refine ⟨_, c_spec_l18Is p x y, hK _ _ _ (by simp only [go_sem, Nat.reduceEqDiff, ↓reduceIte]; rfl) ?_⟩ | refine ⟨_, cN3, hK _ _ _ (by simp only [go_sem, Nat.reduceEqDiff, ↓reduceIte]; rfl) ?_⟩); clear hK; clear K) | (with_reducible first | refine rgn_nil (by first | trivial | kernel_rfl) ?_ | refine AWP.seq ?_ | refine tX hC hP (by kernel_rfl) ?_ | refine aX hC hM hP (by kernel_rfl) ?_ | refine AWP.skip ?_ | refine AWP.label ?_ | refine AWP.exit ?_ | refine AWP.block ?_ | refine cTa ?_ | refine cFa ?_) | simp only [qS, Nat.reduceEqDiff, ↓reduceIte]))
          exact ⟨(k + 1, v + 1), by simp only; omega, by simp only; omega, by simp [Sub, lk, e1]; omega⟩
      · have hE' : isE p x y = false := by simpa using hE
        have e1 := eR _ (show atP l p x y prev st = _ by rw [atP, if_neg (by simp [hE'])])
        (repeat (first | ((with_reducible refine rgn_cons rfl (fun K hK => ?_)); simp only [go_sem, seval, ↓reduceIte, decide_true, decide_false, hpos, decide_true, hE', hw1, rowsO_snoc2, hkk, hk24]; (first | refine hK _ _ _ (by simp only [go_sem, Nat.reduceEqDiff, ↓reduceIte]; rfl) ?_ | refine ⟨_, cN1, hK _ _ _ (by simp only [go_sem, Nat.reduceEqDiff, ↓reduceIte]; rfl) ?_⟩ | refine ⟨_, cN2, hK _ _ _ (by simp only [go_sem, Nat.reduceEqDiff, ↓reduceIte]; rfl) ?_⟩ | refine ⟨_, c_spec_l18Is p x y, hK _ _ _ (by simp only [go_sem, Nat.reduceEqDiff, ↓reduceIte]; rfl) ?_⟩); clear hK; clear K) | (with_reducible first | refine rgn_nil (by first | trivial | kernel_rfl) ?_ | refine AWP.seq ?_ | refine tX hC hP (by kernel_rfl) ?_ | refine aX hC hM hP (by kernel_rfl) ?_ | refine AWP.skip ?_ | refine AWP.label ?_ | refine AWP.exit ?_ | refine AWP.block ?_ | refine cTa ?_ | refine cFa ?_) | simp only [qS, Nat.reduceEqDiff, ↓reduceIte]))
        exact ⟨(k + 1, v + 1), by simp only; omega, by simp only; omega, by simp [Sub, lk, e1]; omega⟩
    · rw [show n = k by omega]
      (repeat (first | ((with_reducible refine rgn_cons rfl (fun K hK => ?_)); simp only [go_sem, seval, ↓reduceIte, decide_true, decide_false, show ¬ (0 : Int) < (k : Int) - (k : Int) by omega, decide_false]; (refine hK _ _ _ (by simp only [go_sem, Nat.reduceEqDiff, ↓reduceIte]; rfl) ?_); clear hK; clear K) | (with_reducible first | refine rgn_nil (by first | trivial | kernel_rfl) ?_ | refine AWP.seq ?_ | refine tX hC hP (by kernel_rfl) ?_ | refine aX hC hM hP (by kernel_rfl) ?_ | refine AWP.skip ?_ | refine AWP.label ?_ | refine AWP.exit ?_ | refine AWP.block ?_ | refine cTa ?_ | refine cFa ?_) | simp only [qS, Nat.reduceEqDiff, ↓reduceIte]))
      (refine AWP.ret ?_; refine retG4 (by simp only [go_sem, seval, ↓reduceIte, decide_true, decide_false]; rfl) (by simp only [go_sem, seval, ↓reduceIte, decide_true, decide_false]; rfl) (by simp only [go_sem, seval, ↓reduceIte, decide_true, decide_false]; rfl) (by simp only [go_sem, seval, ↓reduceIte, decide_true, decide_false]; rfl) (by simp) (by rfl) ?_)
      rfl
theorem l18At_ex {a : Option Addr} {c : Nat} {l : List Int} (hB : Byt l) {s : Int × Int} (hS : Sok l s) (n : Nat) (hn : n ≤ 100) : ∃ p x y L s', Sok l s' ∧ p ≤ 101 ∧ L.length = n ∧ (∀ z ∈ L, Row z) ∧ AFn Try.prog (5000000 + 54) [.str (.src a c l), SRQ a c l s, .int .i64 (n : Int)] (.tup [.tup [.int .i64 p, .int .i64 x, .int .i64 y, .sl true 37 (rowsO L)], SRQ a c l s']) := by
  obtain ⟨p, x, y, s1, hS1, hp, hC1⟩ := l18Some_ex (a := a) (c := c) hB hS
  obtain ⟨h1, h2, h3⟩ := atR_ok hB (a := x) (b := y) hp hS1 n
  exact ⟨p, x, y, _, _, h1, hp, h3, h2, c_spec_l18At a c l hB s hS n hn p x y s1 hS1 hp hC1⟩
set_option maxHeartbeats 1000000 in
theorem c_spec_DrawAddPoints (a : Option Addr) (c : Nat) (l : List Int) (hB : Byt l) (p x y : Int) (L1 L2 : List Int) (s' : Int × Int) (hC1 : AFn Try.prog (5000000 + 54) [.str (.src a c l), SRQ a c l (from0 l), .int .i64 2] (.tup [.tup [.int .i64 p, .int .i64 x, .int .i64 y, .sl true 37 (rowsO [L1, L2])], SRQ a c l s'])) : AFn Try.prog 25 [.str (.src a c l)] (.tup [.int .i64 p, .int .i64 x, .int .i64 y, .sl true 2 (intL L1), .sl true 2 (intL L2)]) := by
  refine AFn.of' ttOk (by decide) Try.func25 Try.ntmps25 (by rw [Try.results25]) (by rfl) (by rfl) (by simp) (by decide) (by simp only [go_sem, Nat.reduceAdd, ↓reduceIte]; rfl) mixed (fun C hP hM hC => ?_)
  refine AWP.ghost (t := 0) rfl rfl ?_
  (repeat (first | ((with_reducible refine rgn_cons rfl (fun K hK => ?_)); simp only [go_sem, seval, ↓reduceIte, decide_true, decide_false, rowsO_get [L1, L2] 0 (by simp), rowsO_get [L1, L2] 1 (by simp), sizeL_takeO [L1, L2] 1 (by simp), List.length_cons, List.length_nil, Int.le_refl, Int.toNat_zero, Int.toNat_one, List.take_zero, Nat.zero_mul, Nat.mul_one, List.getD_cons_zero, List.getD_cons_succ, show (0 : Int) < 2 by decide, show (1 : Int) < 2 by decide, show (0 : Int) ≤ 1 by decide]; (first | refine hK _ _ _ (by simp only [go_sem, Nat.reduceEqDiff, ↓reduceIte]; rfl) ?_ | refine ⟨_, c_spec_l01From a c l hB, hK _ _ _ (by simp only [go_sem, Nat.reduceEqDiff, ↓reduceIte]; rfl) ?_⟩ | refine ⟨_, hC1, hK _ _ _ (by simp only [go_sem, Nat.reduceEqDiff, ↓reduceIte]; rfl) ?_⟩); clear hK; clear K) | (with_reducible first | refine rgn_nil (by first | trivial | kernel_rfl) ?_ | refine AWP.seq ?_ | refine tX hC hP (by kernel_rfl) ?_ | refine aX hC hM hP (by kernel_rfl) ?_ | refine AWP.skip ?_ | refine AWP.label ?_ | refine AWP.exit ?_ | refine AWP.block ?_ | refine cTa ?_ | refine cFa ?_) | simp only [qS, Nat.reduceEqDiff, ↓reduceIte]))
  (refine AWP.ret ?_; refine retA5 (by simp only [go_sem, seval, ↓reduceIte, decide_true, decide_false, rowsO_get [L1, L2] 0 (by simp), rowsO_get [L1, L2] 1 (by simp), List.getD_cons_zero, List.getD_cons_succ, T.isNode, T.refFree]; rfl) (by simp only [go_sem, seval, ↓reduceIte, decide_true, decide_false, rowsO_get [L1, L2] 0 (by simp), rowsO_get [L1, L2] 1 (by simp), List.getD_cons_zero, List.getD_cons_succ, T.isNode, T.refFree]; rfl) (by simp only [go_sem, seval, ↓reduceIte, decide_true, decide_false, rowsO_get [L1, L2] 0 (by simp), rowsO_get [L1, L2] 1 (by simp), List.getD_cons_zero, List.getD_cons_succ, T.isNode, T.refFree]; rfl) (by simp only [go_sem, seval, ↓reduceIte, decide_true, decide_false, rowsO_get [L1, L2] 0 (by simp), rowsO_get [L1, L2] 1 (by simp), List.getD_cons_zero, List.getD_cons_succ, T.isNode, T.refFree]; rfl) (by simp only [go_sem, seval, ↓reduceIte, decide_true, decide_false, rowsO_get [L1, L2] 0 (by simp), rowsO_get [L1, L2] 1 (by simp), List.getD_cons_zero, List.getD_cons_succ, T.isNode, T.refFree]; rfl) (by rfl) ?_)
  rfl
theorem DrawAddPoints_ex {a : Option Addr} {c : Nat} {l : List Int} (hB : Byt l) : ∃ p x y L1 L2, Row L1 ∧ Row L2 ∧ AFn Try.prog 25 [.str (.src a c l)] (.tup [.int .i64 p, .int .i64 x, .int .i64 y, .sl true 2 (intL L1), .sl true 2 (intL L2)]) := by
  obtain ⟨p, x, y, L, s', _, _, hl, hr, hC1⟩ := l18At_ex (a := a) (c := c) hB (from0_ok l) 2 (by omega)
  match L, hl, hr, hC1 with
  | [L1, L2], _, hr, hC1 => exact ⟨p, x, y, L1, L2, hr L1 (by simp), hr L2 (by simp), c_spec_DrawAddPoints a c l hB p x y L1 L2 s' hC1⟩
end Go.Proofs.Ytoooefcjkmfhoaa
