/-
  Draws of planes.
-/
import Derived.Test.YtapdekacpecgiaaGreatDw
import Derived.Test.YtapdekacpecgiaaGreatKb
import Derived.Test.YtapdekacpecgiaaGreatKk
namespace Go.Proofs.YtapdekacpecgiaaGreat
open Go.RowKit
set_option linter.unusedSimpArgs false
set_option linter.unusedVariables false
set_option linter.unusedSectionVars false
set_option maxRecDepth 20000
-- Draws of planes.
-- Windows of lists: what the operations read.
theorem Tsize_win (e : TypeId) (k h : Nat) (l : List T) : T.size (.win e k h l) = 1 := rfl
theorem TnoOwn_win (e : TypeId) (k h : Nat) (l : List T) : T.noOwn (.win e k h l) = false := rfl
theorem TrefFree_win (e : TypeId) (k h : Nat) (l : List T) : T.refFree (.win e k h l) = T.refFreeL l := rfl
theorem Tpure_win (e : TypeId) (k h : Nat) (l : List T) : T.pure (.win e k h l) = false := rfl
theorem Tsolid_win (e : TypeId) (k h : Nat) (l : List T) : T.solid (.win e k h l) = true := rfl
theorem Tplain_win (e : TypeId) (k h : Nat) (l : List T) : T.plain (.win e k h l) = false := rfl
theorem TisAgg_win (e : TypeId) (k h : Nat) (l : List T) : T.isAgg (.win e k h l) = false := rfl
theorem Tscalar_win (e : TypeId) (k h : Nat) (l : List T) : T.scalar (.win e k h l) = false := rfl
theorem TisNode_win (e : TypeId) (k h : Nat) (l : List T) : T.isNode (.win e k h l) = true := rfl
theorem TnoF_win (e : TypeId) (k h : Nat) (l : List T) : T.noF (.win e k h l) = T.noFL l := by simp [T.noF]
theorem Tfreeze_win (e : TypeId) (k h : Nat) (l : List T) : T.freeze (.win e k h l) = .sl false e (((T.freezeL l).take h).drop k) := rfl
theorem Tkids_win (e : TypeId) (k h : Nat) (l : List T) : T.kids (.win e k h l) = l := rfl
theorem Tborrow_win (s j : Nat) (p : List Nat) (e : TypeId) (k h : Nat) (l : List T) : T.borrow s j p (.win e k h l) = .ref s j p := rfl
theorem resolve_win (e : TypeId) (k h : Nat) (l : List T) (c : T → Rd) : resolve (.win e k h l) c = .fail := rfl
attribute [go_sem ↓] Tsize_win TnoOwn_win TrefFree_win Tpure_win Tsolid_win Tplain_win TisAgg_win Tscalar_win TisNode_win TnoF_win Tfreeze_win Tkids_win Tborrow_win
attribute [go_sem] resolve_win
theorem AWP.weak {C : Ctx} {n : Nat} {Q : Exit → Env → Prop} {env : Env} {c : Code} {t k : Nat} {y y' : T} (hl : lk env t = some ⟨k, .val y⟩) (hle : ∀ X s p cs, CR X s p y cs → CR X s p y' cs) (hno : y'.noOwn = true) (hag : y'.isAgg = y.isAgg) (h : AWP C n c Q ((t, ⟨k, .val y'⟩) :: env)) : AWP C n c Q env := fun C1 hE a w hF => by
  obtain ⟨hd, hn, κ, V, hI, hV⟩ := hF
  obtain ⟨h1, cs, h2, h3⟩ := hI.val _ _ _ hl
  exact h C1 hE a w ⟨hd, hn, κ, _, hI.bind t k y' (V t) (by rw [hl]; exact Nat.le_refl _) hno t ⟨cs, h2.trans (mkv_of_isAgg hag.symm cs), hle _ _ _ _ h3⟩, fun t' ht => by
    by_cases e : t' = t
    · subst e; rw [upd_same]; exact hV t' ht
    · rw [upd_other _ _ _ _ e]; exact hV t' ht⟩
theorem le_nilS (m : Int) (X : Cx) (s : Nat) (p : List Nat) (cs : List Value) (h : CR X s p (.fptr (.agg [.int .i64 m, .nil])) cs) : CR X s p (.fptr (.agg [.int .i64 m, .sl false 2 (intL [])])) cs := by
  simp only [CR, CRL, T.size, T.sizeL, T.pure, T.pureL] at h ⊢
  obtain ⟨b, off, cur, e, fz, h1, h2, h3, h4, h5, h6, h7, h8⟩ := h
  exact ⟨b, off, cur, e, fz, h1, h2, h3, h4, rfl, h6, ⟨none, 0, h7, Nat.le_refl _, Nat.zero_le _, fun t ht => (by cases ht), rfl, fun h => absurd rfl h⟩, h8⟩
theorem le_nilP (m : Int) (X : Cx) (s : Nat) (p : List Nat) (cs : List Value) (h : CR X s p (.fptr (.agg [.int .i64 m, .nil])) cs) : CR X s p (.fptr (.agg [.int .i64 m, .sl false 27 (rowsF [])])) cs := by
  simp only [CR, CRL, T.size, T.sizeL, T.pure, T.pureL] at h ⊢
  obtain ⟨b, off, cur, e, fz, h1, h2, h3, h4, h5, h6, h7, h8⟩ := h
  exact ⟨b, off, cur, e, fz, h1, h2, h3, h4, rfl, h6, ⟨none, 0, h7, Nat.le_refl _, Nat.zero_le _, fun t ht => (by cases ht), rfl, fun h => absurd rfl h⟩, h8⟩
def PlT (R : T) (m : Int) (t : List (List Int)) : Prop := R = (.agg [.int .i64 m, .sl true 27 (rowsO t)]) ∨ ∃ k h L, k ≤ h ∧ h ≤ L.length ∧ L.length ≤ 1000 ∧ t = (L.take h).drop k ∧ R = .agg [.int .i64 m, .win 27 k h (rowsO L)]
theorem win_length {k h : Nat} {L : List (List Int)} (h1 : k ≤ h) (h2 : h ≤ L.length) : ((L.take h).drop k).length = h - k := by rw [List.length_drop, List.length_take]; omega
theorem win_len {k h : Nat} {L : List (List Int)} (h1 : k ≤ h) (h2 : h ≤ L.length) : (((rowsO L).take h).drop k).length = h - k := by rw [List.length_drop, List.length_take, rowsO_length]; omega
theorem rowsF_win (k h : Nat) (L : List (List Int)) : ((rowsF L).take h).drop k = rowsF ((L.take h).drop k) := by simp [rowsF]
set_option maxHeartbeats 1000000 in
theorem c_spec_l03Make_su (m : Int) (ll : List (List Int)) : AFn Tryz.prog 74 [.int .i64 m, .sl true 27 (rowsO ll)] (.agg [.int .i64 m, .sl true 27 (rowsO ll)]) := by
  refine AFn.of' ttOk (by decide) Tryz.func74 Tryz.ntmps74 (by rw [Tryz.results74]) (by rfl) (by rfl) (by simp) (by decide) (by simp only [go_sem, Nat.reduceAdd, ↓reduceIte]; rfl) mixed (fun C hP hM hC => ?_)
  (repeat (first | ((with_reducible refine rgn_cons rfl (fun K hK => ?_)); simp only [go_sem, seval, ↓reduceIte, decide_true, decide_false]; (refine hK _ _ _ (by simp only [go_sem, Nat.reduceEqDiff, ↓reduceIte]; rfl) ?_); clear hK; clear K) | (with_reducible first | refine rgn_nil (by first | trivial | kernel_rfl) ?_ | refine AWP.seq ?_ | refine tX hC hP (by kernel_rfl) ?_ | refine aX hC hM hP (by kernel_rfl) ?_ | refine AWP.skip ?_ | refine AWP.label ?_ | refine AWP.exit ?_ | refine AWP.block ?_ | refine cTa ?_ | refine cFa ?_) | simp only [qS, Nat.reduceEqDiff, ↓reduceIte]))
  (refine AWP.ret ?_; refine retOk1 (by simp only [go_sem, seval, ↓reduceIte, decide_true, decide_false]; rfl) ?_)
  rfl
def w3S (l : List Int) (m : Int) (D : Nat) (s : Int × Int) : Nat → Int × Int
  | 0 => s
  | i + 1 => lsS l m (w3S l m D s i) (D - i + 1)
def w3R (l : List Int) (m : Int) (D : Nat) (s : Int × Int) : Nat → List (List Int)
  | 0 => []
  | i + 1 => w3R l m D s i ++ [lsL l m (w3S l m D s i) (D - i + 1)]
theorem w3S_ok {l : List Int} {m : Int} {D : Nat} {s : Int × Int} (hS : Sok l s) : ∀ i, Sok l (w3S l m D s i)
  | 0 => hS
  | i + 1 => lsS_ok (w3S_ok hS i) _
theorem w3R_len (l : List Int) (m : Int) (D : Nat) (s : Int × Int) : ∀ i, (w3R l m D s i).length = i
  | 0 => rfl
  | i + 1 => by rw [w3R, List.length_append, w3R_len l m D s i]; rfl
theorem w3R_rows (l : List Int) (m : Int) (D : Nat) (s : Int × Int) : ∀ i, ∀ x ∈ w3R l m D s i, x.length ≤ D + 1 ∧ 1 ≤ x.length
  | 0, x, h => by simp [w3R] at h
  | i + 1, x, h => by
    rw [w3R, List.mem_append] at h
    rcases h with h | h
    · exact w3R_rows l m D s i x h
    · simp only [List.mem_singleton] at h
      rw [h, lsL_length]; omega
def z00 (t : List (List Int)) : List (List Int) := t.set 0 ((t.getD 0 []).set 0 0)
def w3T (l : List Int) (m : Int) (D : Nat) (s : Int × Int) : List (List Int) := if nextX l (w3S l m D s (D + 1)) 3 = 0 then z00 (w3R l m D s (D + 1)) else w3R l m D s (D + 1)
set_option maxHeartbeats 4000000 in
theorem c_spec_l03With (a : Option Addr) (c : Nat) (l : List Int) (hB : Byt l) (s : Int × Int) (hS : Sok l s) (m : Int) (D : Nat) (hD : D ≤ 100) : AFn Tryz.prog (5000000 + 239) [.str (.src a c l), .box 155 (.agg [.str (.raw a l.length c), .int .i64 s.1, .int .u64 s.2]), .int .i64 m, .int .i64 D] (.tup [.agg [.int .i64 m, .sl true 27 (rowsO (w3T l m D s))], .box 155 (.agg [.str (.raw a l.length c), .int .i64 (nextS l (w3S l m D s (D + 1)) 3).1, .int .u64 (nextS l (w3S l m D s (D + 1)) 3).2])]) := by
  refine AFg.of' ttOk Tryz.func239 Tryz.ntmps239 (by rw [Tryz.results239]) (by rfl) (by rfl) (by simp) (by decide) (by decide) srcScalar srcScalar rfl (by simp only [go_sem, Nat.reduceAdd, ↓reduceIte]; rfl) mixed (fun C hP hM hC => ?_)
  (repeat (first | ((with_reducible refine rgn_cons rfl (fun K hK => ?_)); simp only [go_sem, seval, ↓reduceIte, decide_true, decide_false]; (refine hK _ _ _ (by simp only [go_sem, Nat.reduceEqDiff, ↓reduceIte]; rfl) ?_); clear hK; clear K) | (with_reducible first | refine rgn_nil (by first | trivial | kernel_rfl) ?_ | refine AWP.seq ?_ | refine tX hC hP (by kernel_rfl) ?_ | refine aX hC hM hP (by kernel_rfl) ?_ | refine AWP.skip ?_ | refine AWP.label ?_ | refine AWP.exit ?_ | refine AWP.block ?_ | refine cTa ?_ | refine cFa ?_) | simp only [qS, Nat.reduceEqDiff, ↓reduceIte]))
  refine AWP.loop (fun w : Nat × Nat => [(8, ⟨0, .val (.int .i64 w.1)⟩), (7, ⟨w.2, .own (.sl true 27 (rowsO (w3R l m D s w.1)))⟩), (1, ⟨0, .val (.int .i64 m)⟩), (2, ⟨0, .val (.int .i64 D)⟩), (6, ⟨1, .own (.box 26 (.agg [.int .i64 0, .nil]))⟩), (3000000, ⟨0, .val (.str (.src a c l))⟩), (0, ⟨0, .val (.addr 3000001 0 [] 0 [0])⟩), (3000001, ⟨0, .own (.box 155 (.agg [.str (.raw a l.length c), .int .i64 (w3S l m D s w.1).1, .int .u64 (w3S l m D s w.1).2]))⟩)]) (fun w => w.1 ≤ D + 1) (fun w => D + 1 - w.1) (0, 1) (Nat.zero_le _) (fun i => rfl) ?_ (fun w hw => ?_)
  · simp [Sub, lk, w3R, w3S, rowsO]
  · obtain ⟨i, v⟩ := w
    simp only at hw ⊢
    have h1 := w3S_ok (m := m) (D := D) hS i
    by_cases hi : i ≤ D
    · have u1 : IntKind.i64.wrap ((D : Int) - (i : Int)) = ((D - i : Nat) : Int) := by rw [wid _ (by omega) (by omega)]; omega
      have u2 : IntKind.i64.wrap (((D - i : Nat) : Int) + 1) = ((D - i + 1 : Nat) : Int) := by rw [wid _ (by omega) (by omega)]; omega
      have hL := c_spec_l01List a c l hB (w3S l m D s i) h1 m ((D - i + 1 : Nat) : Int) (by omega)
      rw [Int.toNat_natCast] at hL
      have hll := w3R_len l m D s i
      (repeat (first | ((with_reducible refine rgn_cons rfl (fun K hK => ?_)); simp only [go_sem, seval, ↓reduceIte, decide_true, decide_false, show (i : Int) ≤ (D : Int) by omega, decide_true, u1, u2, hll, rowsO_snocT, rowsO_length, show i + 1 ≤ 1099511627776 by omega, show (i + 1) * 24 ≤ 140737488355328 by omega, wid ((i : Int) + 1) (by omega) (by omega)]; (first | refine hK _ _ _ (by simp only [go_sem, Nat.reduceEqDiff, ↓reduceIte]; rfl) ?_ | refine ⟨_, hL, hK _ _ _ (by simp only [go_sem, Nat.reduceEqDiff, ↓reduceIte]; rfl) ?_⟩); clear hK; clear K) | (with_reducible first | refine rgn_nil (by first | trivial | kernel_rfl) ?_ | refine AWP.seq ?_ | refine tX hC hP (by kernel_rfl) ?_ | refine aX hC hM hP (by kernel_rfl) ?_ | refine AWP.skip ?_ | refine AWP.label ?_ | refine AWP.exit ?_ | refine AWP.block ?_ | refine cTa ?_ | refine cFa ?_) | simp only [qS, Nat.reduceEqDiff, ↓reduceIte]))
      exact ⟨(i + 1, v + 1), by simp only; omega, by simp only; omega, by simp [Sub, lk, w3R, w3S]⟩
    · have hi2 : i = D + 1 := by omega
      subst hi2
      have hll := w3R_len l m D s (D + 1)
      have hrow : 0 < ((w3R l m D s (D + 1)).getD 0 []).length := by
        have h0 : (w3R l m D s (D + 1)).getD 0 [] ∈ w3R l m D s (D + 1) := by
          rw [List.getD_eq_getElem?_getD, List.getElem?_eq_getElem (by rw [hll]; omega)]
          exact List.getElem_mem _
        exact (w3R_rows l m D s (D + 1) _ h0).2
      by_cases h : nextX l (w3S l m D s (D + 1)) 3 = 0
      · (repeat (first | ((with_reducible refine rgn_cons rfl (fun K hK => ?_)); simp only [go_sem, seval, ↓reduceIte, decide_true, decide_false, show ¬ ((D + 1 : Nat) : Int) ≤ (D : Int) by omega, decide_false, h, rowsO_length, hll, show (0 : Int) < ((D + 1 : Nat) : Int) by omega, Int.le_refl, Int.toNat_zero, List.take_zero, Nat.zero_mul, rowsO_at (w3R l m D s (D + 1)) 0 (by rw [hll]; omega), show (0 : Int) < (((w3R l m D s (D + 1)).getD 0 []).length : Int) by omega, intL_get _ 0 hrow, rowsO_modify (w3R l m D s (D + 1)) 0 0 0 (by rw [hll]; omega)]; (first | refine hK _ _ _ (by simp only [go_sem, Nat.reduceEqDiff, ↓reduceIte]; rfl) ?_ | refine ⟨_, c_spec_l01Next a c l hB (w3S l m D s (D + 1)) h1 3, hK _ _ _ (by simp only [go_sem, Nat.reduceEqDiff, ↓reduceIte]; rfl) ?_⟩ | refine ⟨_, c_spec_l03Make_su _ _, hK _ _ _ (by simp only [go_sem, Nat.reduceEqDiff, ↓reduceIte]; rfl) ?_⟩); clear hK; clear K) | (with_reducible first | refine rgn_nil (by first | trivial | kernel_rfl) ?_ | refine AWP.seq ?_ | refine tX hC hP (by kernel_rfl) ?_ | refine aX hC hM hP (by kernel_rfl) ?_ | refine AWP.skip ?_ | refine AWP.label ?_ | refine AWP.exit ?_ | refine AWP.block ?_ | refine cTa ?_ | refine cFa ?_) | simp only [qS, Nat.reduceEqDiff, ↓reduceIte]))
        (refine AWP.ret ?_; refine retG1 (by simp only [go_sem, seval, ↓reduceIte, decide_true, decide_false]; rfl) (by simp) (by rfl) ?_)
        rw [w3T, if_pos h]; rfl
      · (repeat (first | ((with_reducible refine rgn_cons rfl (fun K hK => ?_)); simp only [go_sem, seval, ↓reduceIte, decide_true, decide_false, show ¬ ((D + 1 : Nat) : Int) ≤ (D : Int) by omega, decide_false, beqF h]; (first | refine hK _ _ _ (by simp only [go_sem, Nat.reduceEqDiff, ↓reduceIte]; rfl) ?_ | refine ⟨_, c_spec_l01Next a c l hB (w3S l m D s (D + 1)) h1 3, hK _ _ _ (by simp only [go_sem, Nat.reduceEqDiff, ↓reduceIte]; rfl) ?_⟩ | refine ⟨_, c_spec_l03Make_su _ _, hK _ _ _ (by simp only [go_sem, Nat.reduceEqDiff, ↓reduceIte]; rfl) ?_⟩); clear hK; clear K) | (with_reducible first | refine rgn_nil (by first | trivial | kernel_rfl) ?_ | refine AWP.seq ?_ | refine tX hC hP (by kernel_rfl) ?_ | refine aX hC hM hP (by kernel_rfl) ?_ | refine AWP.skip ?_ | refine AWP.label ?_ | refine AWP.exit ?_ | refine AWP.block ?_ | refine cTa ?_ | refine cFa ?_) | simp only [qS, Nat.reduceEqDiff, ↓reduceIte]))
        (refine AWP.ret ?_; refine retG1 (by simp only [go_sem, seval, ↓reduceIte, decide_true, decide_false]; rfl) (by simp) (by rfl) ?_)
        rw [w3T, if_neg h]
theorem w3T_shape (l : List Int) (m : Int) (D : Nat) (s : Int × Int) : (w3T l m D s).length = D + 1 ∧ ∀ x ∈ w3T l m D s, x.length ≤ D + 1 ∧ 1 ≤ x.length := by
  have h1 := w3R_len l m D s (D + 1)
  have h2 := w3R_rows l m D s (D + 1)
  unfold w3T
  split
  · refine ⟨by rw [z00, List.length_set, h1], fun x hx => ?_⟩
    rcases List.mem_or_eq_of_mem_set hx with h | h
    · exact h2 x h
    · rw [h, List.length_set]
      refine h2 _ ?_
      rw [List.getD_eq_getElem?_getD, List.getElem?_eq_getElem (by rw [h1]; omega)]
      exact List.getElem_mem _
  · exact ⟨h1, h2⟩
def Shp (t : List (List Int)) : Prop := t.length ≤ 1000 ∧ ∀ x ∈ t, x.length ≤ 1000 ∧ 1 ≤ x.length
theorem Shp.row {t : List (List Int)} (h : Shp t) {i : Nat} (hi : i < t.length) : (t.getD i []).length ≤ 1000 ∧ 1 ≤ (t.getD i []).length := by
  rw [List.getD_eq_getElem?_getD, List.getElem?_eq_getElem hi]
  exact h.2 _ (List.getElem_mem _)
theorem Shp.sm {t : List (List Int)} (h : Shp t) : Sm t := ⟨by have := h.1; omega, fun i => by
  by_cases hi : i < t.length
  · have := (h.row hi).1; omega
  · rw [List.getD_eq_getElem?_getD, List.getElem?_eq_none (by omega)]; exact Nat.zero_le _⟩
theorem Shp.set {t : List (List Int)} (h : Shp t) (i j : Nat) (v : Int) : Shp (t.set i ((t.getD i []).set j v)) := by
  by_cases hi : i < t.length
  · refine ⟨by rw [List.length_set]; exact h.1, fun x hx => ?_⟩
    rcases List.mem_or_eq_of_mem_set hx with h1 | h1
    · exact h.2 x h1
    · rw [h1, List.length_set]; exact h.row hi
  · rw [List.set_eq_of_length_le (by omega)]; exact h
theorem Shp.win {t : List (List Int)} (h : Shp t) (a b : Nat) : Shp ((t.take b).drop a) := ⟨by have := h.1; simp; omega, fun x hx => h.2 x (List.mem_of_mem_take (List.mem_of_mem_drop hx))⟩
set_option maxHeartbeats 2000000 in
theorem c_spec_l03Draw (a : Option Addr) (c : Nat) (l : List Int) (hB : Byt l) (s : Int × Int) (hS : Sok l s) (t : List (List Int)) (s' : Int × Int) (hC0 : AFn Tryz.prog (5000000 + 239) [.str (.src a c l), SRC a c l (d2S l s), .int .i64 (drawM l s), .int .i64 (1 + d2n l s)] (.tup [.agg [.int .i64 (drawM l s), .sl true 27 (rowsO t)], SRC a c l s'])) : AFn Tryz.prog (5000000 + 187) [.str (.src a c l), .box 155 (.agg [.str (.raw a l.length c), .int .i64 s.1, .int .u64 s.2])] (.tup [.agg [.int .i64 (drawM l s), .sl true 27 (rowsO t)], .box 155 (.agg [.str (.raw a l.length c), .int .i64 s'.1, .int .u64 s'.2])]) := by
  refine AFg.of' ttOk Tryz.func187 Tryz.ntmps187 (by rw [Tryz.results187]) (by rfl) (by rfl) (by simp) (by decide) (by decide) srcScalar srcScalar rfl (by simp only [go_sem, Nat.reduceAdd, ↓reduceIte]; rfl) mixed (fun C hP hM hC => ?_)
  have hb := d2n_bound hB s
  have q1 := drawMS_ok hS
  have q2 := nextS_ok q1 4
  have q3 := nextS_ok q2 6
  have q4 := nextS_ok q3 10
  (repeat (first | ((with_reducible refine rgn_cons rfl (fun K hK => ?_)); simp only [go_sem, seval, ↓reduceIte, decide_true, decide_false, show pickX l (nextS l (nextS l (nextS l (drawMS l s) 4) 6) 10) [nextX l (drawMS l s) 4, nextX l (nextS l (drawMS l s) 4) 6, nextX l (nextS l (nextS l (drawMS l s) 4) 6) 10] = d2n l s from rfl, wid (1 + d2n l s) (by omega) (by omega), show nextS l (nextS l (nextS l (nextS l (drawMS l s) 4) 6) 10) 3 = d2S l s from rfl]; (first | refine hK _ _ _ (by simp only [go_sem, Nat.reduceEqDiff, ↓reduceIte]; rfl) ?_ | refine ⟨_, c_spec_l01DrawModulus a c l hB s hS, hK _ _ _ (by simp only [go_sem, Nat.reduceEqDiff, ↓reduceIte]; rfl) ?_⟩ | refine ⟨_, c_spec_l01Next a c l hB (drawMS l s) q1 4, hK _ _ _ (by simp only [go_sem, Nat.reduceEqDiff, ↓reduceIte]; rfl) ?_⟩ | refine ⟨_, c_spec_l01Next a c l hB _ q2 6, hK _ _ _ (by simp only [go_sem, Nat.reduceEqDiff, ↓reduceIte]; rfl) ?_⟩ | refine ⟨_, c_spec_l01Next a c l hB _ q3 10, hK _ _ _ (by simp only [go_sem, Nat.reduceEqDiff, ↓reduceIte]; rfl) ?_⟩ | refine ⟨_, c_spec_l01Pick a c l hB _ q4 [nextX l (drawMS l s) 4, nextX l (nextS l (drawMS l s) 4) 6, nextX l (nextS l (nextS l (drawMS l s) 4) 6) 10] (by simp) (by simp), hK _ _ _ (by simp only [go_sem, Nat.reduceEqDiff, ↓reduceIte]; rfl) ?_⟩ | refine ⟨_, hC0, hK _ _ _ (by simp only [go_sem, Nat.reduceEqDiff, ↓reduceIte]; rfl) ?_⟩); clear hK; clear K) | (with_reducible first | refine rgn_nil (by first | trivial | kernel_rfl) ?_ | refine AWP.seq ?_ | refine tX hC hP (by kernel_rfl) ?_ | refine aX hC hM hP (by kernel_rfl) ?_ | refine AWP.skip ?_ | refine AWP.label ?_ | refine AWP.exit ?_ | refine AWP.block ?_ | refine cTa ?_ | refine cFa ?_) | simp only [qS, Nat.reduceEqDiff, ↓reduceIte]))
  (refine AWP.ret ?_; refine retG1 (by simp only [go_sem, seval, ↓reduceIte, decide_true, decide_false]; rfl) (by simp) (by rfl) ?_)
  rfl
theorem l03Draw_ex {a : Option Addr} {c : Nat} {l : List Int} (hB : Byt l) {s : Int × Int} (hS : Sok l s) : ∃ m t s', Sok l s' ∧ Shp t ∧ 2 ≤ t.length ∧ AFn Tryz.prog (5000000 + 187) [.str (.src a c l), SRC a c l s] (.tup [.agg [.int .i64 m, .sl true 27 (rowsO t)], SRC a c l s']) := by
  have hb := d2n_bound hB s
  have q := d2S_ok hS
  have h0 := c_spec_l03With a c l hB (d2S l s) q (drawM l s) (1 + d2n l s).toNat (by omega)
  have hs := w3T_shape l (drawM l s) (1 + d2n l s).toNat (d2S l s)
  rw [Int.toNat_of_nonneg (by omega)] at h0
  exact ⟨_, _, _, nextS_ok (w3S_ok q _) 3, ⟨by omega, fun x hx => by have := hs.2 x hx; omega⟩, by omega, c_spec_l03Draw a c l hB s hS _ _ h0⟩
section
variable {a : Option Addr} {c : Nat} {l : List Int} {s : Int × Int} {m : Int} {t : List (List Int)}
set_option maxHeartbeats 2000000 in
theorem c_spec_l03Spoil_a (a : Option Addr) (c : Nat) (l : List Int) (hB : Byt l) (s : Int × Int) (hS : Sok l s) (m : Int) (t : List (List Int)) (s1 : Int × Int) (q1 : Sok l s1) (hC0 : AFn Tryz.prog (5000000 + 187) [.str (.src a c l), SRC a c l s] (.tup [.agg [.int .i64 m, .sl true 27 (rowsO t)], SRC a c l s1])) (h : nextX l s1 30 = 0) : AFn Tryz.prog (5000000 + 84) [.str (.src a c l), .box 155 (.agg [.str (.raw a l.length c), .int .i64 s.1, .int .u64 s.2])] (.tup [.agg [.int .i64 (pickX l (nextS l s1 30) [0, 1, 10001, 2]), .sl true 27 (rowsO t)], .box 155 (.agg [.str (.raw a l.length c), .int .i64 (nextS l (nextS l s1 30) 4).1, .int .u64 (nextS l (nextS l s1 30) 4).2])]) := by
  refine AFg.of' ttOk Tryz.func84 Tryz.ntmps84 (by rw [Tryz.results84]) (by rfl) (by rfl) (by simp) (by decide) (by decide) srcScalar srcScalar rfl (by simp only [go_sem, Nat.reduceAdd, ↓reduceIte]; rfl) mixed (fun C hP hM hC => ?_)
  have q2 := nextS_ok q1 30
  (repeat (first | ((with_reducible refine rgn_cons rfl (fun K hK => ?_)); simp only [go_sem, seval, ↓reduceIte, decide_true, decide_false, h]; (first | refine hK _ _ _ (by simp only [go_sem, Nat.reduceEqDiff, ↓reduceIte]; rfl) ?_ | refine ⟨_, hC0, hK _ _ _ (by simp only [go_sem, Nat.reduceEqDiff, ↓reduceIte]; rfl) ?_⟩ | refine ⟨_, c_spec_l01Next a c l hB _ q1 30, hK _ _ _ (by simp only [go_sem, Nat.reduceEqDiff, ↓reduceIte]; rfl) ?_⟩ | refine ⟨_, c_spec_l01Pick a c l hB _ q2 [0, 1, 10001, 2] (by simp) (by simp), hK _ _ _ (by simp only [go_sem, Nat.reduceEqDiff, ↓reduceIte]; rfl) ?_⟩); clear hK; clear K) | (with_reducible first | refine rgn_nil (by first | trivial | kernel_rfl) ?_ | refine AWP.seq ?_ | refine tX hC hP (by kernel_rfl) ?_ | refine aX hC hM hP (by kernel_rfl) ?_ | refine AWP.skip ?_ | refine AWP.label ?_ | refine AWP.exit ?_ | refine AWP.block ?_ | refine cTa ?_ | refine cFa ?_) | simp only [qS, Nat.reduceEqDiff, ↓reduceIte]))
  (refine AWP.ret ?_; refine retG1 (by simp only [go_sem, seval, ↓reduceIte, decide_true, decide_false]; rfl) (by simp) (by rfl) ?_)
  rfl
set_option maxHeartbeats 2000000 in
theorem c_spec_l03Spoil_b (a : Option Addr) (c : Nat) (l : List Int) (hB : Byt l) (s : Int × Int) (hS : Sok l s) (m : Int) (t : List (List Int)) (s1 : Int × Int) (q1 : Sok l s1) (hC0 : AFn Tryz.prog (5000000 + 187) [.str (.src a c l), SRC a c l s] (.tup [.agg [.int .i64 m, .sl true 27 (rowsO t)], SRC a c l s1])) (ht : 2 ≤ t.length) (h : nextX l s1 30 = 1) : AFn Tryz.prog (5000000 + 84) [.str (.src a c l), .box 155 (.agg [.str (.raw a l.length c), .int .i64 s.1, .int .u64 s.2])] (.tup [(.agg [.int .i64 m, .win 27 0 1 (rowsO t)]), .box 155 (.agg [.str (.raw a l.length c), .int .i64 (nextS l s1 30).1, .int .u64 (nextS l s1 30).2])]) := by
  refine AFg.of' ttOk Tryz.func84 Tryz.ntmps84 (by rw [Tryz.results84]) (by rfl) (by rfl) (by simp) (by decide) (by decide) srcScalar srcScalar rfl (by simp only [go_sem, Nat.reduceAdd, ↓reduceIte]; rfl) mixed (fun C hP hM hC => ?_)
  (repeat (first | ((with_reducible refine rgn_cons rfl (fun K hK => ?_)); simp only [go_sem, seval, ↓reduceIte, decide_true, decide_false, h, show ((1 : Int) == 0) = false from rfl, rowsO_length, show (1 : Int) ≤ (t.length : Int) by omega, show (0 : Int) < (t.length : Int) by omega, show (0 : Int) ≤ 1 by omega, show (1 : Int).toNat = 1 from rfl, Int.toNat_zero, Int.le_refl]; (first | refine hK _ _ _ (by simp only [go_sem, Nat.reduceEqDiff, ↓reduceIte]; rfl) ?_ | refine ⟨_, hC0, hK _ _ _ (by simp only [go_sem, Nat.reduceEqDiff, ↓reduceIte]; rfl) ?_⟩ | refine ⟨_, c_spec_l01Next a c l hB _ q1 30, hK _ _ _ (by simp only [go_sem, Nat.reduceEqDiff, ↓reduceIte]; rfl) ?_⟩); clear hK; clear K) | (with_reducible first | refine rgn_nil (by first | trivial | kernel_rfl) ?_ | refine AWP.seq ?_ | refine tX hC hP (by kernel_rfl) ?_ | refine aX hC hM hP (by kernel_rfl) ?_ | refine AWP.skip ?_ | refine AWP.label ?_ | refine AWP.exit ?_ | refine AWP.block ?_ | refine cTa ?_ | refine cFa ?_) | simp only [qS, Nat.reduceEqDiff, ↓reduceIte]))
  (refine AWP.ret ?_; refine retG1 (by simp only [go_sem, seval, ↓reduceIte, decide_true, decide_false]; rfl) (by simp) (by rfl) ?_)
  rfl
set_option maxHeartbeats 2000000 in
theorem c_spec_l03Spoil_c (a : Option Addr) (c : Nat) (l : List Int) (hB : Byt l) (s : Int × Int) (hS : Sok l s) (m : Int) (t : List (List Int)) (s1 : Int × Int) (q1 : Sok l s1) (hC0 : AFn Tryz.prog (5000000 + 187) [.str (.src a c l), SRC a c l s] (.tup [.agg [.int .i64 m, .sl true 27 (rowsO t)], SRC a c l s1])) (ht : 2 ≤ t.length) (h : nextX l s1 30 = 2) : AFn Tryz.prog (5000000 + 84) [.str (.src a c l), .box 155 (.agg [.str (.raw a l.length c), .int .i64 s.1, .int .u64 s.2])] (.tup [(.agg [.int .i64 m, .win 27 1 t.length (rowsO t)]), .box 155 (.agg [.str (.raw a l.length c), .int .i64 (nextS l s1 30).1, .int .u64 (nextS l s1 30).2])]) := by
  refine AFg.of' ttOk Tryz.func84 Tryz.ntmps84 (by rw [Tryz.results84]) (by rfl) (by rfl) (by simp) (by decide) (by decide) srcScalar srcScalar rfl (by simp only [go_sem, Nat.reduceAdd, ↓reduceIte]; rfl) mixed (fun C hP hM hC => ?_)
  (repeat (first | ((with_reducible refine rgn_cons rfl (fun K hK => ?_)); simp only [go_sem, seval, ↓reduceIte, decide_true, decide_false, h, show ((2 : Int) == 0) = false from rfl, show ((2 : Int) == 1) = false from rfl, rowsO_length, show (1 : Int) ≤ (t.length : Int) by omega, show (1 : Int) < (t.length : Int) by omega, show (0 : Int) ≤ 1 by omega, show (1 : Int).toNat = 1 from rfl, Int.toNat_natCast, Int.le_refl]; (first | refine hK _ _ _ (by simp only [go_sem, Nat.reduceEqDiff, ↓reduceIte]; rfl) ?_ | refine ⟨_, hC0, hK _ _ _ (by simp only [go_sem, Nat.reduceEqDiff, ↓reduceIte]; rfl) ?_⟩ | refine ⟨_, c_spec_l01Next a c l hB _ q1 30, hK _ _ _ (by simp only [go_sem, Nat.reduceEqDiff, ↓reduceIte]; rfl) ?_⟩); clear hK; clear K) | (with_reducible first | refine rgn_nil (by first | trivial | kernel_rfl) ?_ | refine AWP.seq ?_ | refine tX hC hP (by kernel_rfl) ?_ | refine aX hC hM hP (by kernel_rfl) ?_ | refine AWP.skip ?_ | refine AWP.label ?_ | refine AWP.exit ?_ | refine AWP.block ?_ | refine cTa ?_ | refine cFa ?_) | simp only [qS, Nat.reduceEqDiff, ↓reduceIte]))
  (refine AWP.ret ?_; refine retG1 (by simp only [go_sem, seval, ↓reduceIte, decide_true, decide_false]; rfl) (by simp) (by rfl) ?_)
  rfl
set_option maxHeartbeats 4000000 in
theorem c_spec_l03Spoil_d (a : Option Addr) (c : Nat) (l : List Int) (hB : Byt l) (s : Int × Int) (hS : Sok l s) (m : Int) (t : List (List Int)) (s1 : Int × Int) (q1 : Sok l s1) (hC0 : AFn Tryz.prog (5000000 + 187) [.str (.src a c l), SRC a c l s] (.tup [.agg [.int .i64 m, .sl true 27 (rowsO t)], SRC a c l s1])) (ht : 2 ≤ t.length) (hsh : Shp t) (h : nextX l s1 30 = 3) (i : Nat) (hi : i < t.length) (hx : nextX l (nextS l s1 30) t.length = (i : Int)) : AFn Tryz.prog (5000000 + 84) [.str (.src a c l), .box 155 (.agg [.str (.raw a l.length c), .int .i64 s.1, .int .u64 s.2])] (.tup [.agg [.int .i64 m, .sl true 27 (rowsO (t.set i ((t.getD i []).set 0 (pickX l (nextS l (nextS l s1 30) t.length) [-1, m, 1099511627776]))))], .box 155 (.agg [.str (.raw a l.length c), .int .i64 (nextS l (nextS l (nextS l s1 30) t.length) 3).1, .int .u64 (nextS l (nextS l (nextS l s1 30) t.length) 3).2])]) := by
  refine AFg.of' ttOk Tryz.func84 Tryz.ntmps84 (by rw [Tryz.results84]) (by rfl) (by rfl) (by simp) (by decide) (by decide) srcScalar srcScalar rfl (by simp only [go_sem, Nat.reduceAdd, ↓reduceIte]; rfl) mixed (fun C hP hM hC => ?_)
  have q2 := nextS_ok q1 30
  have q3 := nextS_ok q2 t.length
  have hr := (hsh.row hi).2
  (repeat (first | ((with_reducible refine rgn_cons rfl (fun K hK => ?_)); simp only [go_sem, seval, ↓reduceIte, decide_true, decide_false, h, show ((3 : Int) == 0) = false from rfl, show ((3 : Int) == 1) = false from rfl, show ((3 : Int) == 2) = false from rfl, rowsO_length, hx, show (i : Int) < (t.length : Int) by omega, Int.natCast_nonneg, Int.toNat_natCast, Nat.mul_one, rowsO_sizeT t i (by omega), rowsO_at t i hi, show (0 : Int) < ((t.getD i []).length : Int) by omega, Int.le_refl, Int.toNat_zero, List.take_zero, Nat.zero_mul, intL_get _ 0 (show 0 < (t.getD i []).length by omega), rowsO_modify t i 0 (pickX l (nextS l (nextS l s1 30) t.length) [-1, m, 1099511627776]) hi]; (first | refine hK _ _ _ (by simp only [go_sem, Nat.reduceEqDiff, ↓reduceIte]; rfl) ?_ | refine ⟨_, hC0, hK _ _ _ (by simp only [go_sem, Nat.reduceEqDiff, ↓reduceIte]; rfl) ?_⟩ | refine ⟨_, c_spec_l01Next a c l hB _ q1 30, hK _ _ _ (by simp only [go_sem, Nat.reduceEqDiff, ↓reduceIte]; rfl) ?_⟩ | refine ⟨_, c_spec_l01Next a c l hB _ q2 t.length, hK _ _ _ (by simp only [go_sem, Nat.reduceEqDiff, ↓reduceIte]; rfl) ?_⟩ | refine ⟨_, c_spec_l01Pick a c l hB _ q3 [-1, m, 1099511627776] (by simp) (by simp), hK _ _ _ (by simp only [go_sem, Nat.reduceEqDiff, ↓reduceIte]; rfl) ?_⟩); clear hK; clear K) | (with_reducible first | refine rgn_nil (by first | trivial | kernel_rfl) ?_ | refine AWP.seq ?_ | refine tX hC hP (by kernel_rfl) ?_ | refine aX hC hM hP (by kernel_rfl) ?_ | refine AWP.skip ?_ | refine AWP.label ?_ | refine AWP.exit ?_ | refine AWP.block ?_ | refine cTa ?_ | refine cFa ?_) | simp only [qS, Nat.reduceEqDiff, ↓reduceIte]))
  (refine AWP.ret ?_; refine retG1 (by simp only [go_sem, seval, ↓reduceIte, decide_true, decide_false]; rfl) (by simp) (by rfl) ?_)
  rfl
set_option maxHeartbeats 2000000 in
theorem c_spec_l03Spoil_e (a : Option Addr) (c : Nat) (l : List Int) (hB : Byt l) (s : Int × Int) (hS : Sok l s) (m : Int) (t : List (List Int)) (s1 : Int × Int) (q1 : Sok l s1) (hC0 : AFn Tryz.prog (5000000 + 187) [.str (.src a c l), SRC a c l s] (.tup [.agg [.int .i64 m, .sl true 27 (rowsO t)], SRC a c l s1])) (h0 : ¬ nextX l s1 30 = 0) (h1 : ¬ nextX l s1 30 = 1) (h2 : ¬ nextX l s1 30 = 2) (h3 : ¬ nextX l s1 30 = 3) : AFn Tryz.prog (5000000 + 84) [.str (.src a c l), .box 155 (.agg [.str (.raw a l.length c), .int .i64 s.1, .int .u64 s.2])] (.tup [.agg [.int .i64 m, .sl true 27 (rowsO t)], .box 155 (.agg [.str (.raw a l.length c), .int .i64 (nextS l s1 30).1, .int .u64 (nextS l s1 30).2])]) := by
  refine AFg.of' ttOk Tryz.func84 Tryz.ntmps84 (by rw [Tryz.results84]) (by rfl) (by rfl) (by simp) (by decide) (by decide) srcScalar srcScalar rfl (by simp only [go_sem, Nat.reduceAdd, ↓reduceIte]; rfl) mixed (fun C hP hM hC => ?_)
  (repeat (first | ((with_reducible refine rgn_cons rfl (fun K hK => ?_)); simp only [go_sem, seval, ↓reduceIte, decide_true, decide_false, beqF h0, beqF h1, beqF h2, beqF h3]; (first | refine hK _ _ _ (by simp only [go_sem, Nat.reduceEqDiff, ↓reduceIte]; rfl) ?_ | refine ⟨_, hC0, hK _ _ _ (by simp only [go_sem, Nat.reduceEqDiff, ↓reduceIte]; rfl) ?_⟩ | refine ⟨_, c_spec_l01Next a c l hB _ q1 30, hK _ _ _ (by simp only [go_sem, Nat.reduceEqDiff, ↓reduceIte]; rfl) ?_⟩); clear hK; clear K) | (with_reducible first | refine rgn_nil (by first | trivial | kernel_rfl) ?_ | refine AWP.seq ?_ | refine tX hC hP (by kernel_rfl) ?_ | refine aX hC hM hP (by kernel_rfl) ?_ | refine AWP.skip ?_ | refine AWP.label ?_ | refine AWP.exit ?_ | refine AWP.block ?_ | refine cTa ?_ | refine cFa ?_) | simp only [qS, Nat.reduceEqDiff, ↓reduceIte]))
  (refine AWP.ret ?_; refine retG1 (by simp only [go_sem, seval, ↓reduceIte, decide_true, decide_false]; rfl) (by simp) (by rfl) ?_)
  rfl
end
theorem l03Spoil_ex {a : Option Addr} {c : Nat} {l : List Int} (hB : Byt l) {s : Int × Int} (hS : Sok l s) : ∃ R m t s', Sok l s' ∧ Shp t ∧ 1 ≤ t.length ∧ PlT R m t ∧ AFn Tryz.prog (5000000 + 84) [.str (.src a c l), SRC a c l s] (.tup [R, SRC a c l s']) := by
  obtain ⟨m, t, s1, q1, hsh, h2, hC0⟩ := l03Draw_ex (a := a) (c := c) hB hS
  have q2 := nextS_ok q1 30
  by_cases h0 : nextX l s1 30 = 0
  · exact ⟨_, _, t, _, nextS_ok q2 4, hsh, by omega, .inl rfl, c_spec_l03Spoil_a a c l hB s hS m t s1 q1 hC0 h0⟩
  by_cases h1 : nextX l s1 30 = 1
  · exact ⟨_, m, (t.take 1).drop 0, _, q2, hsh.win 0 1, by rw [win_length (by omega) (by omega)]; omega, .inr ⟨0, 1, t, by omega, by omega, hsh.1, rfl, rfl⟩, c_spec_l03Spoil_b a c l hB s hS m t s1 q1 hC0 h2 h1⟩
  by_cases h3 : nextX l s1 30 = 2
  · exact ⟨_, m, (t.take t.length).drop 1, _, q2, hsh.win 1 t.length, by rw [win_length (by omega) (by omega)]; omega, .inr ⟨1, t.length, t, by omega, by omega, hsh.1, rfl, rfl⟩, c_spec_l03Spoil_c a c l hB s hS m t s1 q1 hC0 h2 h3⟩
  by_cases h4 : nextX l s1 30 = 3
  · have hx := nextX_bound hB (nextS l s1 30) t.length
    have hx2 := hx.2.1 (by omega)
    exact ⟨_, m, _, _, nextS_ok (nextS_ok q2 t.length) 3, hsh.set _ 0 _, by rw [List.length_set]; omega, .inl rfl, c_spec_l03Spoil_d a c l hB s hS m t s1 q1 hC0 h2 hsh h4 (nextX l (nextS l s1 30) t.length).toNat (by omega) (by omega)⟩
  · exact ⟨_, m, t, _, q2, hsh, by omega, .inl rfl, c_spec_l03Spoil_e a c l hB s hS m t s1 q1 hC0 h0 h1 h3 h4⟩
end Go.Proofs.YtapdekacpecgiaaGreat
