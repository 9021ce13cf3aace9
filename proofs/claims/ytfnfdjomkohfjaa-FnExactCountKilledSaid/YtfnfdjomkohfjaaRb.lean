/-
  Laws that are cut, in the program.
-/
import Derived.Test.YtfnfdjomkohfjaaRa
namespace Go.Proofs.Ytfnfdjomkohfjaa
open Go.RowKit
set_option linter.unusedSimpArgs false
set_option linter.unusedVariables false
set_option linter.unusedSectionVars false
set_option maxRecDepth 20000
-- Laws that are cut, in the program.
theorem cuR_set {m : Int} {n k i : Nat} {ll : List (List Int)} (hl : Pl m n ll) (hk : k + 1 ≤ n) (hi : i ≤ k) : (cuR k ll i).set i (tab (k + 1 - i) (pc ll i)) = cuR k ll (i + 1) := by
  apply List.ext_getElem?
  intro a
  by_cases e : a = i
  · subst e
    rw [List.getElem?_set_self (by rw [cuR, tab2_length]; omega)]
    have h1 := tab2_row (n := k + 1) (i := a) (f := fun a_1 b => if a_1 < a + 1 then pc ll a_1 b else 0) (by omega)
    rw [List.getD_eq_getElem?_getD] at h1
    rw [cuR, List.getElem?_eq_getElem (by rw [tab2_length]; omega)] 
    rw [List.getElem?_eq_getElem (by rw [tab2_length]; omega)] at h1
    simp only [Option.getD_some] at h1
    rw [h1]
    congr 1
    exact tab_congr fun j hj => by rw [if_pos (by omega)]
  · rw [List.getElem?_set_ne (fun h => e h.symm)]
    unfold cuR tab2 tabR
    simp only [List.getElem?_map]
    by_cases ha : a < k + 1
    · rw [List.getElem?_range ha]
      simp only [Option.map_some]
      congr 1
      exact tab_congr fun j hj => by
        by_cases h2 : a < i
        · rw [if_pos h2, if_pos (by omega)]
        · rw [if_neg h2, if_neg (by omega)]
    · rw [List.getElem?_eq_none (by simp; omega)]; rfl
theorem rowsO_put (L : List (List Int)) (i : Nat) (x : List Int) (f : T → T) (hf : f (.sl true 2 (intL (L.getD i []))) = (.sl true 2 (intL x))) (h : i < L.length) : (rowsO L).modify i f = rowsO (L.set i x) := by
  apply List.ext_getElem?
  intro a
  rw [List.getElem?_modify]
  by_cases e : i = a
  · subst e
    rw [rowsO_at _ _ h, rowsO_at _ _ (by rw [List.length_set]; exact h)]
    have e2 : (L.set i x).getD i [] = x := by
      rw [List.getD_eq_getElem?_getD, List.getElem?_set_self h]; rfl
    simp only [if_true, Option.map_eq_map, Option.map_some]
    rw [e2, hf]
  · simp only [rowsO, if_neg e, List.getElem?_map, List.getElem?_set_ne e, Option.map_eq_map]
    cases L[a]? <;> rfl
set_option maxHeartbeats 1000000 in
theorem c_impl_Plane_cut (m : Int) (ll : List (List Int)) (n k : Nat) (hl : Pl m n ll) (hk : k + 1 ≤ n) (hn : n ≤ 1000) : AFn Try.prog 33 [.agg [.int .i64 m, .sl false 25 (rowsF ll)], .int .i64 k] (.agg [.int .i64 m, .sl true 25 (rowsO (tab2 (k + 1) (pc ll)))]) := by
  refine AFn.of' ttOk (by decide) Try.func33 Try.ntmps33 (by rw [Try.results33]) (by rfl) (by rfl) (by simp) (by decide) (by simp only [go_sem, Nat.reduceAdd, ↓reduceIte]; rfl) mixed (fun C hP hM hC => ?_)
  have h0 : tab2 (k + 1) (fun _ _ => 0) = cuR k ll 0 := tab2_congr fun i j _ => by rw [if_neg (by omega)]
  have hE := c_impl_emptyPlane m k (by omega)
  rw [h0] at hE
  have hlen : ∀ i, (cuR k ll i).length = k + 1 := fun i => tab2_length _ _
  (repeat (first | ((with_reducible refine rgn_cons rfl (fun K hK => ?_)); simp only [go_sem, seval, ↓reduceIte, decide_true, decide_false, rowsO_length, hlen]; (first | refine hK _ _ _ (by simp only [go_sem, Nat.reduceEqDiff, ↓reduceIte]; rfl) ?_ | refine ⟨_, hE, hK _ _ _ (by simp only [go_sem, Nat.reduceEqDiff, ↓reduceIte]; rfl) ?_⟩); clear hK; clear K) | (with_reducible first | refine rgn_nil (by first | trivial | kernel_rfl) ?_ | refine AWP.seq ?_ | refine tX hC hP (by kernel_rfl) ?_ | refine aX hC hM hP (by kernel_rfl) ?_ | refine AWP.skip ?_ | refine AWP.label ?_ | refine AWP.exit ?_ | refine AWP.block ?_ | refine cTa ?_ | refine cFa ?_) | simp only [qS, Nat.reduceEqDiff, ↓reduceIte]))
  refine AWP.loop (fun i : Nat => [(15, ⟨0, .val (.int .i64 i)⟩), (14, ⟨0, .val (.int .i64 (k + 1 : Nat))⟩), (13, ⟨0, .val (.ref 5 2 [0, 1])⟩), (5, ⟨2, .own (.box 29 (.agg [.int .i64 m, .sl true 25 (rowsO (cuR k ll i))]))⟩), (2, ⟨1, .own (.box 29 (.agg [.int .i64 m, .sl false 25 (rowsF ll)]))⟩), (4, ⟨1, .own (.box 29 (.agg [.int .i64 0, .nil]))⟩)]) (fun i => i ≤ k + 1) (fun i => k + 1 - i) 0 (Nat.zero_le _) (fun i => rfl) ?_ (fun i hi => ?_)
  · simp [Sub, lk]
  · by_cases hlt : i < k + 1
    · have hr := hl.row i (by omega)
      have hx1 : (cuR k ll i).getD i [] = tab (k + 1 - i) (fun _ => 0) := by
        rw [cuR, tab2_row hlt]; exact tab_congr fun j _ => by rw [if_neg (by omega)]
      have ht := pt_row hl (show i + (k + 1 - i) ≤ n by omega)
      have hdr : List.drop (n - i) (intL (tab (k + 1 - i) (fun _ => 0))) = [] := List.drop_of_length_le (by rw [intL_length, tab_length]; omega)
      have hput : (rowsO (cuR k ll i)).modify i (fun _ => (.sl true 2 (intL (tab (k + 1 - i) (pc ll i))))) = rowsO (cuR k ll (i + 1)) := by
        rw [rowsO_put (cuR k ll i) i (tab (k + 1 - i) (pc ll i)) _ rfl (by rw [hlen]; exact hlt), cuR_set hl hk (by omega)]
      (repeat (first | ((with_reducible refine rgn_cons rfl (fun K hK => ?_)); simp only [go_sem, seval, ↓reduceIte, decide_true, decide_false, show (i : Int) < ((k + 1 : Nat) : Int) by omega, decide_true, rowsF_length, hl.len, show (i : Int) < (n : Int) by omega, rowsF_getD ll i (by rw [hl.len]; omega), Int.toNat_natCast, Int.natCast_nonneg, hlen, rowsO_at (cuR k ll i) i (by rw [hlen]; exact hlt), rowsO_sizeT (cuR k ll i) i (by rw [hlen]; omega), Nat.mul_one, hx1, intL_scalar, hr, show 0 < n - i by omega, tab_length, intL_take, ht, hdr, List.append_nil, hput, wid ((i : Int) + 1) (by omega) (by omega)]; (refine hK _ _ _ (by simp only [go_sem, Nat.reduceEqDiff, ↓reduceIte]; rfl) ?_); clear hK; clear K) | (with_reducible first | refine rgn_nil (by first | trivial | kernel_rfl) ?_ | refine AWP.seq ?_ | refine tX hC hP (by kernel_rfl) ?_ | refine aX hC hM hP (by kernel_rfl) ?_ | refine AWP.skip ?_ | refine AWP.label ?_ | refine AWP.exit ?_ | refine AWP.block ?_ | refine cTa ?_ | refine cFa ?_) | simp only [qS, Nat.reduceEqDiff, ↓reduceIte]))
      exact ⟨i + 1, hlt, by omega, by simp [Sub, lk]⟩
    · (repeat (first | ((with_reducible refine rgn_cons rfl (fun K hK => ?_)); simp only [go_sem, seval, ↓reduceIte, decide_true, decide_false, show ¬ (i : Int) < ((k + 1 : Nat) : Int) by omega, decide_false]; (refine hK _ _ _ (by simp only [go_sem, Nat.reduceEqDiff, ↓reduceIte]; rfl) ?_); clear hK; clear K) | (with_reducible first | refine rgn_nil (by first | trivial | kernel_rfl) ?_ | refine AWP.seq ?_ | refine tX hC hP (by kernel_rfl) ?_ | refine aX hC hM hP (by kernel_rfl) ?_ | refine AWP.skip ?_ | refine AWP.label ?_ | refine AWP.exit ?_ | refine AWP.block ?_ | refine cTa ?_ | refine cFa ?_) | simp only [qS, Nat.reduceEqDiff, ↓reduceIte]))
      (refine AWP.ret ?_; refine retOk1 (by simp only [go_sem, seval, ↓reduceIte, decide_true, decide_false]; rfl) ?_)
      rw [show i = k + 1 by omega, show cuR k ll (k + 1) = tab2 (k + 1) (pc ll) from tab2_congr fun a b hab => by rw [if_pos (by omega)]]
theorem intL_scalars (l : List Int) : ∀ t ∈ intL l, t.scalar = true := fun t ht => by
  simp only [intL, List.mem_map] at ht
  obtain ⟨x, _, rfl⟩ := ht
  rfl
def mpL (m : Int) (ll : List (List Int)) (n : Int) (x : List Int) : List Int := (mzL m (pc (tab2 (x.length + 1) (pc ll))) x.length (0 :: x) n).drop 1
theorem ptC_zero {m : Int} {ll L : List (List Int)} (h : ptC m ll L = 0) : lawB m ll = true ∧ ∀ i, i < L.length → ptB m ll.length (L.getD 0 []).length (L.getD i []) = true := by
  unfold ptC at h
  split at h
  · rename_i h1
    split at h
    · rename_i h2; exact ⟨h1, h2⟩
    · cases h
  · cases h
theorem pt_one {m : Int} {ll : List (List Int)} {x : List Int} (h : ptC m ll [x] = 0) : 1 < m ∧ m ≤ 10000 ∧ 1 ≤ x.length ∧ x.length + 1 ≤ ll.length ∧ ll.length ≤ 11 ∧ Pl m ll.length ll ∧ (∀ y ∈ x, 0 ≤ y ∧ y < m) ∧ Pl m (x.length + 1) (tab2 (x.length + 1) (pc ll)) := by
  have h1 := ptC_zero h
  have h2 := isPl_of (lawB_of h1.1).1
  have h3 := h1.2 0 (by simp)
  simp only [ptB, spB, List.getD_cons_zero, Bool.and_eq_true, decide_eq_true_eq, List.all_eq_true, isNum] at h3
  refine ⟨by omega, h2.2.1, by omega, by omega, h2.2.2.2.1, h2.2.2.2.2, fun y hy => by have := h3.1.2 y hy; omega, Pl.tab2 (by omega) fun i j _ => h2.2.2.2.2.num i j⟩
end Go.Proofs.Ytfnfdjomkohfjaa
