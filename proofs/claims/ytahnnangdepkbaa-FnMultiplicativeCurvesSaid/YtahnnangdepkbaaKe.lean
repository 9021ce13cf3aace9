/-
  Numbers as planes; powers of planes.
-/
import Derived.Test.YtahnnangdepkbaaKd
namespace Go.Proofs.Ytahnnangdepkbaa
open Go.RowKit
set_option linter.unusedSimpArgs false
set_option linter.unusedVariables false
set_option linter.unusedSectionVars false
set_option maxRecDepth 20000
-- Numbers as planes; powers of planes.
def numP (m c : Int) (n : Nat) : List (List Int) := tab2 n (fun u v => if u = 0 ∧ v = 0 then c % m else 0)
theorem numP_pl {m : Int} (hm : 0 < m) (c : Int) (n : Nat) : Pl m n (numP m c n) := Pl.tab2 hm fun u v _ => by
  split
  · exact emod_b _ m hm
  · omega
set_option maxHeartbeats 1000000 in
theorem c_impl_Plane_number (m c : Int) (ll : List (List Int)) (n : Nat) (hm : 0 < m) (hm2 : m ≤ 10000) (hl : ll.length = n) (hn : 1 ≤ n) (hn2 : n ≤ 1000) : AFn Try.prog 87 [.agg [.int .i64 m, .sl false 27 (rowsF ll)], .int .i64 c] (.agg [.int .i64 m, .sl true 27 (rowsO (numP m c n))]) := by
  refine AFn.of' ttOk (by decide) Try.func87 Try.ntmps87 (by rw [Try.results87]) (by rfl) (by rfl) (by simp) (by decide) (by simp only [go_sem, Nat.reduceAdd, ↓reduceIte]; rfl) mixed (fun C hP hM hC => ?_)
  have hZ0 := c_impl_emptyPlane m (n - 1) (by omega)
  rw [show n - 1 + 1 = n by omega] at hZ0
  have hD := c_impl_Plane_degree m ll (by omega)
  rw [hl, show (n : Int) - 1 = ((n - 1 : Nat) : Int) by omega] at hD
  have h0 : 0 < (tab2 n (fun _ _ => 0)).length := by rw [tab2_length]; omega
  have hrow : (tab2 n (fun _ _ => 0)).getD 0 [] = tab n (fun _ => 0) := by rw [tab2_row (by omega), Nat.sub_zero]
  have h1 : 0 < (tab n (fun _ => (0 : Int))).length := by rw [tab_length]; omega
  have hst : (tab2 n (fun _ _ => 0)).set 0 ((tab n (fun _ => 0)).set 0 (c % m)) = numP m c n := tab2_set (fun a b _ => rfl)
  (repeat (first | ((with_reducible refine rgn_cons rfl (fun K hK => ?_)); simp only [go_sem, seval, ↓reduceIte, decide_true, decide_false, Int.le_refl, Int.toNat_zero, rowsO_at _ _ h0, rowsO_sizeT _ _ (Nat.le_of_lt h0), rowsO_length, tab2_length, show (0 : Int) < (n : Int) by omega, hrow, List.take_zero, sizeL_nil, Nat.zero_mul, Nat.mul_one, intL_get _ _ h1, sizeL_take _ _ (Nat.le_of_lt h1), tab_length, Nat.sub_zero, rowsO_modify _ _ _ _ h0, hst]; (first | refine hK _ _ _ (by simp only [go_sem, Nat.reduceEqDiff, ↓reduceIte]; rfl) ?_ | refine ⟨_, hD, hK _ _ _ (by simp only [go_sem, Nat.reduceEqDiff, ↓reduceIte]; rfl) ?_⟩ | refine ⟨_, hZ0, hK _ _ _ (by simp only [go_sem, Nat.reduceEqDiff, ↓reduceIte]; rfl) ?_⟩ | refine ⟨_, c_impl_mod c m hm (by omega), hK _ _ _ (by simp only [go_sem, Nat.reduceEqDiff, ↓reduceIte]; rfl) ?_⟩); clear hK; clear K) | (with_reducible first | refine rgn_nil (by first | trivial | kernel_rfl) ?_ | refine AWP.seq ?_ | refine tX hC hP (by kernel_rfl) ?_ | refine aX hC hM hP (by kernel_rfl) ?_ | refine AWP.skip ?_ | refine AWP.label ?_ | refine AWP.exit ?_ | refine AWP.block ?_ | refine cTa ?_ | refine cFa ?_) | simp only [qS, Nat.reduceEqDiff, ↓reduceIte]))
  (refine AWP.ret ?_; refine retOk1 (by simp only [go_sem, seval, ↓reduceIte, decide_true, decide_false]; rfl) ?_)
  rfl
/-- The powers of a plane. -/
def pwP (m : Int) (n : Nat) (t : Nat → Nat → Int) : Nat → List (List Int)
  | 0 => numP m 1 n
  | k + 1 => pmul m n (pc (pwP m n t k)) t
theorem pwP_pl {m : Int} (hm : 0 < m) (n : Nat) (t : Nat → Nat → Int) : ∀ k, Pl m n (pwP m n t k)
  | 0 => numP_pl hm 1 n
  | k + 1 => pmul_pl hm n _ _
/-- Planes in a row. -/
def plO (m : Int) (L : List (List (List Int))) : List T := L.map fun ll => (.agg [.int .i64 m, .sl true 27 (rowsO ll)])
def plF (m : Int) (L : List (List (List Int))) : List T := L.map fun ll => (.agg [.int .i64 m, .sl false 27 (rowsF ll)])
theorem plO_length (m : Int) (L : List (List (List Int))) : (plO m L).length = L.length := by simp [plO]
theorem plF_length (m : Int) (L : List (List (List Int))) : (plF m L).length = L.length := by simp [plF]
theorem plO_at (m : Int) (L : List (List (List Int))) (i : Nat) (h : i < L.length) : (plO m L)[i]? = some (.agg [.int .i64 m, .sl true 27 (rowsO (L.getD i []))]) := by
  simp [plO, List.getD_eq_getElem?_getD, h]
theorem plF_getD (m : Int) (L : List (List (List Int))) (i : Nat) (h : i < L.length) : (plF m L).getD i .any = (.agg [.int .i64 m, .sl false 27 (rowsF (L.getD i []))]) := by
  simp [plF, List.getD_eq_getElem?_getD, h]
theorem plO_sizeT (m : Int) (L : List (List (List Int))) (i : Nat) (h : i ≤ L.length) : T.sizeL ((plO m L).take i) = i * 2 := by
  rw [sizeL_of_all (n := 2) (fun t ht => by
    have ht := List.mem_of_mem_take ht
    simp only [plO, List.mem_map] at ht
    obtain ⟨x, _, rfl⟩ := ht
    rfl)]
  simp [plO_length]; omega
theorem plO_snoc (m : Int) (L : List (List (List Int))) (ll : List (List Int)) : plO m L ++ [.agg [.int .i64 m, .sl true 27 (rowsO ll)]] = plO m (L ++ [ll]) := by simp [plO]
theorem plO_refFree (m : Int) : ∀ (L : List (List (List Int))), T.refFreeL (plO m L) = true
  | [] => rfl
  | ll :: L => by
    have := plO_refFree m L
    simp only [plO, List.map_cons, T.refFreeL, T.refFree, Bool.and_true, Bool.true_and] at this ⊢
    simp [this, rowsO_refFree]
theorem plO_freeze (m : Int) : ∀ (L : List (List (List Int))), T.freezeL (plO m L) = plF m L
  | [] => rfl
  | ll :: L => by
    have := plO_freeze m L
    simp only [plO, plF, List.map_cons, T.freezeL, T.freeze] at this ⊢
    rw [this, rowsO_freeze]
theorem plF_pure (m : Int) : ∀ (L : List (List (List Int))), T.pureL (plF m L) = true
  | [] => rfl
  | ll :: L => by
    have := plF_pure m L
    simp only [plF, List.map_cons, T.pureL, T.pure, Bool.and_true, Bool.true_and] at this ⊢
    simp [this, rowsF_pure]
theorem plF_noOwn (m : Int) (L : List (List (List Int))) : T.noOwnL (plF m L) = true := pureL_noOwn _ (plF_pure m L)
theorem plF_refFree (m : Int) (L : List (List (List Int))) : T.refFreeL (plF m L) = true := pureL_refFree _ (plF_pure m L)
theorem plO_noF (m : Int) : ∀ (L : List (List (List Int))), T.noFL (plO m L) = true
  | [] => rfl
  | ll :: L => by
    have := plO_noF m L
    simp only [plO, List.map_cons, T.noFL, T.noF, Bool.and_true, Bool.true_and] at this ⊢
    simp [this, rowsO_noF]
attribute [go_sem] plO_freeze plO_refFree plO_noF plF_pure plF_noOwn plF_refFree plO_length plF_length
def pwL2 (m : Int) (n : Nat) (t : Nat → Nat → Int) (k : Nat) : List (List (List Int)) := (List.range k).map (pwP m n t)
theorem pwL2_length (m : Int) (n : Nat) (t : Nat → Nat → Int) (k : Nat) : (pwL2 m n t k).length = k := by simp [pwL2]
theorem pwL2_getD {m : Int} {n : Nat} {t : Nat → Nat → Int} {k i : Nat} (h : i < k) : (pwL2 m n t k).getD i [] = pwP m n t i := by simp [pwL2, List.getD_eq_getElem?_getD, h]
theorem pwL2_succ (m : Int) (n : Nat) (t : Nat → Nat → Int) (k : Nat) : pwL2 m n t k ++ [pwP m n t k] = pwL2 m n t (k + 1) := by simp [pwL2, List.range_succ]
set_option maxHeartbeats 1000000 in
theorem c_impl_Plane_powers (m : Int) (ll : List (List Int)) (n : Nat) (hm : 0 < m) (hm2 : m ≤ 10000) (hl : Pl m n ll) (hn : 1 ≤ n) (hn2 : n ≤ 1000) : AFn Try.prog 85 [.agg [.int .i64 m, .sl false 27 (rowsF ll)]] (.sl true 31 (plO m (pwL2 m n (pc ll) n))) := by
  refine AFn.of' ttOk (by decide) Try.func85 Try.ntmps85 (by rw [Try.results85]) (by rfl) (by rfl) (by simp) (by decide) (by simp only [go_sem, Nat.reduceAdd, ↓reduceIte]; rfl) mixed (fun C hP hM hC => ?_)
  have hD := c_impl_Plane_degree m ll (by rw [hl.len]; omega)
  rw [hl.len, show (n : Int) - 1 = ((n - 1 : Nat) : Int) by omega] at hD
  (repeat (first | ((with_reducible refine rgn_cons rfl (fun K hK => ?_)); simp only [go_sem, seval, ↓reduceIte, decide_true, decide_false]; (first | refine hK _ _ _ (by simp only [go_sem, Nat.reduceEqDiff, ↓reduceIte]; rfl) ?_ | refine ⟨_, hD, hK _ _ _ (by simp only [go_sem, Nat.reduceEqDiff, ↓reduceIte]; rfl) ?_⟩ | refine ⟨_, c_impl_Plane_number m 1 ll n hm hm2 hl.len hn hn2, hK _ _ _ (by simp only [go_sem, Nat.reduceEqDiff, ↓reduceIte]; rfl) ?_⟩); clear hK; clear K) | (with_reducible first | refine rgn_nil (by first | trivial | kernel_rfl) ?_ | refine AWP.seq ?_ | refine tX hC hP (by kernel_rfl) ?_ | refine aX hC hM hP (by kernel_rfl) ?_ | refine AWP.skip ?_ | refine AWP.label ?_ | refine AWP.exit ?_ | refine AWP.block ?_ | refine cTa ?_ | refine cFa ?_) | simp only [qS, Nat.reduceEqDiff, ↓reduceIte]))
  refine AWP.loop (fun w : Nat × Nat => [(9, ⟨0, .val (.int .i64 w.1)⟩), (8, ⟨1, .val (.int .i64 (n - 1 : Nat))⟩), (3, ⟨w.2, .own (.sl true 31 (plO m (pwL2 m n (pc ll) (w.1 + 1))))⟩), (1, ⟨1, .own (.box 31 (.agg [.int .i64 m, .sl false 27 (rowsF ll)]))⟩)]) (fun w => w.1 + 1 ≤ n) (fun w => n - w.1) (0, 1) (by simp only; omega) (fun i => rfl) ?_ (fun w hw => ?_)
  · simp [Sub, lk, pwL2, pwP, plO]
  · obtain ⟨i, v⟩ := w
    simp only at hw ⊢
    by_cases hi : i + 1 < n
    · have hT := c_impl_Plane_times m (pwP m n (pc ll) i) ll n hm hm2 (pwP_pl hm n _ i) hl hn hn2
      have hii : i < (pwL2 m n (pc ll) (i + 1)).length := by rw [pwL2_length]; omega
      have hs := pwL2_succ m n (pc ll) (i + 1)
      rw [pwP] at hs
      (repeat (first | ((with_reducible refine rgn_cons rfl (fun K hK => ?_)); simp only [go_sem, seval, ↓reduceIte, decide_true, decide_false, show (i : Int) < ((n - 1 : Nat) : Int) by omega, decide_true, plO_length, pwL2_length, show IntKind.i64.wrap (((i + 1 : Nat) : Int) - 1) = (i : Int) by rw [wid _ (by omega) (by omega)]; omega, Int.toNat_natCast, Int.natCast_nonneg, show (i : Int) < ((i + 1 : Nat) : Int) by omega, plO_at _ _ _ hii, plO_sizeT _ _ _ (Nat.le_of_lt hii), pwL2_getD (show i < i + 1 by omega), rowsO_solid, plO_snoc, hs, show i + 1 + 1 ≤ 1099511627776 by omega, show (i + 1 + 1) * 32 ≤ 140737488355328 by omega, wid ((i : Int) + 1) (by omega) (by omega)]; (first | refine hK _ _ _ (by simp only [go_sem, Nat.reduceEqDiff, ↓reduceIte]; rfl) ?_ | refine ⟨_, hT, hK _ _ _ (by simp only [go_sem, Nat.reduceEqDiff, ↓reduceIte]; rfl) ?_⟩); clear hK; clear K) | (with_reducible first | refine rgn_nil (by first | trivial | kernel_rfl) ?_ | refine AWP.seq ?_ | refine tX hC hP (by kernel_rfl) ?_ | refine aX hC hM hP (by kernel_rfl) ?_ | refine AWP.skip ?_ | refine AWP.label ?_ | refine AWP.exit ?_ | refine AWP.block ?_ | refine cTa ?_ | refine cFa ?_) | simp only [qS, Nat.reduceEqDiff, ↓reduceIte]))
      exact ⟨(i + 1, v + 1), by simp only; omega, by simp only; omega, by simp [Sub, lk]⟩
    · (repeat (first | ((with_reducible refine rgn_cons rfl (fun K hK => ?_)); simp only [go_sem, seval, ↓reduceIte, decide_true, decide_false, show ¬ (i : Int) < ((n - 1 : Nat) : Int) by omega, decide_false]; (refine hK _ _ _ (by simp only [go_sem, Nat.reduceEqDiff, ↓reduceIte]; rfl) ?_); clear hK; clear K) | (with_reducible first | refine rgn_nil (by first | trivial | kernel_rfl) ?_ | refine AWP.seq ?_ | refine tX hC hP (by kernel_rfl) ?_ | refine aX hC hM hP (by kernel_rfl) ?_ | refine AWP.skip ?_ | refine AWP.label ?_ | refine AWP.exit ?_ | refine AWP.block ?_ | refine cTa ?_ | refine cFa ?_) | simp only [qS, Nat.reduceEqDiff, ↓reduceIte]))
      (refine AWP.ret ?_; refine retOk1 (by simp only [go_sem, seval, ↓reduceIte, decide_true, decide_false]; rfl) ?_)
      rw [show n = i + 1 by omega]
end Go.Proofs.Ytahnnangdepkbaa
