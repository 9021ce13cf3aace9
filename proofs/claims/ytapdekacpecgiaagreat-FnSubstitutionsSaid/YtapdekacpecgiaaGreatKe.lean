/-
  Numbers as planes; powers of planes.
-/
import Derived.Test.YtapdekacpecgiaaGreatKd
namespace Go.Proofs.YtapdekacpecgiaaGreat
open Go.RowKit
set_option linter.unusedSimpArgs false
set_option linter.unusedVariables false
set_option linter.unusedSectionVars false
set_option maxRecDepth 20000
-- Numbers as planes; powers of planes.
def numP (m c : Int) (n : Nat) : List (List Int) := tab2 n (fun u v => if u = 0 ∧ v = 0 then c % m else 0)
theorem numP_pl {m : Int} (hm : 0 < m) (c : Int) (n : Nat) : Pl m n (numP m c n) := Pl.tab2 hm fun u v _ => by
  split
  · exact emod_b _ m hm
  · omega
set_option maxHeartbeats 1000000 in
theorem c_impl_Plane_number (m c : Int) (ll : List (List Int)) (n : Nat) (hm : 0 < m) (hm2 : m ≤ 10000) (hl : ll.length = n) (hn : 1 ≤ n) (hn2 : n ≤ 1000) : AFn Tryz.prog 172 [.agg [.int .i64 m, .sl false 27 (rowsF ll)], .int .i64 c] (.agg [.int .i64 m, .sl true 27 (rowsO (numP m c n))]) := by
  refine AFn.of' ttOk (by decide) Tryz.func172 Tryz.ntmps172 (by rw [Tryz.results172]) (by rfl) (by rfl) (by simp) (by decide) (by simp only [go_sem, Nat.reduceAdd, ↓reduceIte]; rfl) mixed (fun C hP hM hC => ?_)
  have hZ0 := c_impl_emptyPlane m (n - 1) (by omega)
  rw [show n - 1 + 1 = n by omega] at hZ0
  have hD := c_impl_Plane_degree m ll (by omega)
  rw [hl, show (n : Int) - 1 = ((n - 1 : Nat) : Int) by omega] at hD
  have h0 : 0 < (tab2 n (fun _ _ => 0)).length := by rw [tab2_length]; omega
  have hrow : (tab2 n (fun _ _ => 0)).getD 0 [] = tab n (fun _ => 0) := by rw [tab2_row (by omega), Nat.sub_zero]
  have h1 : 0 < (tab n (fun _ => (0 : Int))).length := by rw [tab_length]; omega
  have hst : (tab2 n (fun _ _ => 0)).set 0 ((tab n (fun _ => 0)).set 0 (c % m)) = numP m c n := tab2_set (fun a b _ => rfl)
  (repeat (first | ((with_reducible refine rgn_cons rfl (fun K hK => ?_)); simp only [go_sem, seval, ↓reduceIte, decide_true, decide_false, Int.le_refl, Int.toNat_zero, rowsO_at _ _ h0, rowsO_sizeT _ _ (Nat.le_of_lt h0), rowsO_length, tab2_length, show (0 : Int) < (n : Int) by omega, hrow, List.take_zero, sizeL_nil, Nat.zero_mul, Nat.mul_one, intL_get _ _ h1, sizeL_take _ _ (Nat.le_of_lt h1), tab_length, Nat.sub_zero, rowsO_modify _ _ _ _ h0, hst]; (first | refine hK _ _ _ (by simp only [go_sem, Nat.reduceEqDiff, ↓reduceIte]; rfl) ?_ | refine ⟨_, hD, hK _ _ _ (by simp only [go_sem, Nat.reduceEqDiff, ↓reduceIte]; rfl) ?_⟩ | refine ⟨_, hZ0, hK _ _ _ (by simp only [go_sem, Nat.reduceEqDiff, ↓reduceIte]; rfl) ?_⟩ | refine ⟨_, c_impl_mod c m hm (by omega), hK _ _ _ (by simp only [go_sem, Nat.reduceEqDiff, ↓reduceIte]; rfl) ?_⟩); clear hK; clear K) | (with_reducible first | refine rgn_nil (by first | trivial | kernel_rfl) ?_ | refine AWP.seq ?_ | refine tX hC hP (by kernel_rfl) ?_ | refine aX hC hM hP (by kernel_rfl) ?_ | refine AWP.skip ?_ | refine AWP.label ?_ | refine AWP.exit ?_ | refine AWP.block ?_ | refine cTa ?_ | refine cFa ?_) | simp only [qS, Nat.reduceEqDiff, ↓reduceIte]))
  (refine AWP.ret ?_; refine retOk1 (by simp only [go_sem, seval, ↓reduceIte, decide_true, decide_false]; rfl) ?_)
  rfl
def pwP (m : Int) (n : Nat) (t : Nat → Nat → Int) : Nat → List (List Int)
  | 0 => numP m 1 n
  | k + 1 => pmul m n (pc (pwP m n t k)) t
def plO (m : Int) (L : List (List (List Int))) : List T := L.map fun ll => (.agg [.int .i64 m, .sl true 27 (rowsO ll)])
def plF (m : Int) (L : List (List (List Int))) : List T := L.map fun ll => (.agg [.int .i64 m, .sl false 27 (rowsF ll)])
theorem plO_length (m : Int) (L : List (List (List Int))) : (plO m L).length = L.length := by simp [plO]
theorem plF_length (m : Int) (L : List (List (List Int))) : (plF m L).length = L.length := by simp [plF]
theorem plO_refFree (m : Int) : ∀ (L : List (List (List Int))), T.refFreeL (plO m L) = true
  | [] => rfl
  | ll :: L => by
    have := plO_refFree m L
    simp only [plO, List.map_cons, T.refFreeL, T.refFree, Bool.and_true, Bool.true_and] at this ⊢
    simp [this, rowsO_refFree]
theorem plO_freeze (m : Int) : ∀ (L : List (List (List Int))), T.freezeL (plO m L) = plF m L
  | [] => rfl
  | ll :: L => by
    have := plO_freeze m L
    simp only [plO, plF, List.map_cons, T.freezeL, T.freeze] at this ⊢
    rw [this, rowsO_freeze]
theorem plF_pure (m : Int) : ∀ (L : List (List (List Int))), T.pureL (plF m L) = true
  | [] => rfl
  | ll :: L => by
    have := plF_pure m L
    simp only [plF, List.map_cons, T.pureL, T.pure, Bool.and_true, Bool.true_and] at this ⊢
    simp [this, rowsF_pure]
theorem plF_noOwn (m : Int) (L : List (List (List Int))) : T.noOwnL (plF m L) = true := pureL_noOwn _ (plF_pure m L)
theorem plF_refFree (m : Int) (L : List (List (List Int))) : T.refFreeL (plF m L) = true := pureL_refFree _ (plF_pure m L)
theorem plO_noF (m : Int) : ∀ (L : List (List (List Int))), T.noFL (plO m L) = true
  | [] => rfl
  | ll :: L => by
    have := plO_noF m L
    simp only [plO, List.map_cons, T.noFL, T.noF, Bool.and_true, Bool.true_and] at this ⊢
    simp [this, rowsO_noF]
attribute [go_sem] plO_freeze plO_refFree plO_noF plF_pure plF_noOwn plF_refFree plO_length plF_length
end Go.Proofs.YtapdekacpecgiaaGreat
