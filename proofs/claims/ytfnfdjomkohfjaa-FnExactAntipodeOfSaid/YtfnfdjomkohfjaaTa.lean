/-
  Square tables and their products.
-/
import Derived.Test.YtfnfdjomkohfjaaKd
import Derived.Test.YtfnfdjomkohfjaaKh
import Derived.Test.YtfnfdjomkohfjaaQd
namespace Go.Proofs.Ytfnfdjomkohfjaa
open Go.RowKit
set_option linter.unusedSimpArgs false
set_option linter.unusedVariables false
set_option linter.unusedSectionVars false
set_option maxRecDepth 20000
-- Square tables and their products.
/-- The first k rows of a table. -/
def tbK (q k : Nat) (F : Nat → Nat → Int) : List (List Int) := (List.range k).map (fun u => tab q (F u))
def tbQ (q : Nat) (F : Nat → Nat → Int) : List (List Int) := tbK q q F
theorem tbK_length (q k : Nat) (F : Nat → Nat → Int) : (tbK q k F).length = k := by simp [tbK]
theorem tbQ_length (q : Nat) (F : Nat → Nat → Int) : (tbQ q F).length = q := tbK_length _ _ _
theorem tbK_succ (q k : Nat) (F : Nat → Nat → Int) : tbK q k F ++ [tab q (F k)] = tbK q (k + 1) F := by simp [tbK, List.range_succ]
theorem tbK_row {q k u : Nat} {F : Nat → Nat → Int} (h : u < k) : (tbK q k F).getD u [] = tab q (F u) := by simp [tbK, List.getD_eq_getElem?_getD, h]
theorem tbQ_row {q u : Nat} {F : Nat → Nat → Int} (h : u < q) : (tbQ q F).getD u [] = tab q (F u) := tbK_row h
theorem pc_tbQ {q u v : Nat} {F : Nat → Nat → Int} (h : u < q) (g : v < q) : pc (tbQ q F) u v = F u v := by rw [pc, tbQ_row h, at_tab g]
theorem tbQ_congr {q : Nat} {F G : Nat → Nat → Int} (h : ∀ u v, u < q → v < q → F u v = G u v) : tbQ q F = tbQ q G := by
  unfold tbQ tbK
  refine List.map_congr_left fun u hu => tab_congr fun v hv => h u v (List.mem_range.1 hu) hv
/-- One number changed. -/
def up (F : Nat → Nat → Int) (u v : Nat) (x : Int) : Nat → Nat → Int := fun a b => if a = u ∧ b = v then x else F a b
theorem tbQ_set {q u v : Nat} {F : Nat → Nat → Int} {x : Int} (h : u < q) : (tbQ q F).set u ((tab q (F u)).set v x) = tbQ q (up F u v x) := by
  apply List.ext_getElem?
  intro a
  by_cases e : u = a
  · subst e
    rw [List.getElem?_set_self (by rw [tbQ_length]; exact h)]
    simp only [tbQ, tbK, List.getElem?_map, List.getElem?_range h, Option.map_some, Option.some.injEq]
    refine tab_set' fun b hb => ?_
    simp only [up]
    by_cases g : b = v
    · simp [g]
    · simp [g]
  · rw [List.getElem?_set_ne e]
    simp only [tbQ, tbK, List.getElem?_map]
    cases h2 : (List.range q)[a]? with
    | none => rfl
    | some z =>
      simp only [Option.map_some, Option.some.injEq]
      have hz : z = a := by
        rw [List.getElem?_range (by
          have := (List.getElem?_eq_some_iff.1 h2).1
          simpa using this)] at h2
        simpa using h2.symm
      subst hz
      refine tab_congr fun b _ => ?_
      simp [up, Ne.symm e]
def k4 (p : Int) (i j s : Nat) (x : Int) (B F : Nat → Nat → Int) : Nat → Nat → Nat → Int
  | 0 => F
  | t + 1 => up (k4 p i j s x B F t) (i + s) (j + t) ((k4 p i j s x B F t (i + s) (j + t) + x * B s t) % p)
def k3 (p : Int) (q i j : Nat) (x : Int) (B F : Nat → Nat → Int) : Nat → Nat → Nat → Int
  | 0 => F
  | s + 1 => k4 p i j s x B (k3 p q i j x B F s) (q - j)
def k2 (p : Int) (q i : Nat) (A B F : Nat → Nat → Int) : Nat → Nat → Nat → Int
  | 0 => F
  | j + 1 => k3 p q i j (A i j) B (k2 p q i A B F j) (q - i)
def k1 (p : Int) (q : Nat) (A B : Nat → Nat → Int) : Nat → Nat → Nat → Int
  | 0 => fun _ _ => 0
  | i + 1 => k2 p q i A B (k1 p q A B i) q
/-- Numbers below p. -/
def Nm (p : Int) (F : Nat → Nat → Int) : Prop := ∀ u v, 0 ≤ F u v ∧ F u v < p
theorem up_nm {p : Int} {F : Nat → Nat → Int} (h : Nm p F) {u v : Nat} {x : Int} (hx : 0 ≤ x ∧ x < p) : Nm p (up F u v x) := by
  intro a b
  unfold up
  split
  · exact hx
  · exact h a b
theorem k4_nm {p : Int} (hp : 0 < p) {i j s : Nat} {x : Int} {B F : Nat → Nat → Int} (h : Nm p F) : ∀ t, Nm p (k4 p i j s x B F t)
  | 0 => h
  | t + 1 => up_nm (k4_nm hp h t) (emod_b _ p hp)
theorem k3_nm {p : Int} (hp : 0 < p) {q i j : Nat} {x : Int} {B F : Nat → Nat → Int} (h : Nm p F) : ∀ s, Nm p (k3 p q i j x B F s)
  | 0 => h
  | s + 1 => k4_nm hp (k3_nm hp h s) _
theorem k2_nm {p : Int} (hp : 0 < p) {q i : Nat} {A B F : Nat → Nat → Int} (h : Nm p F) : ∀ j, Nm p (k2 p q i A B F j)
  | 0 => h
  | j + 1 => k3_nm hp (k2_nm hp h j) _
theorem k1_nm {p : Int} (hp : 0 < p) {q : Nat} {A B : Nat → Nat → Int} : ∀ i, Nm p (k1 p q A B i)
  | 0 => fun _ _ => ⟨Int.le_refl 0, hp⟩
  | i + 1 => k2_nm hp (k1_nm hp i) _
def tabsF (L : List (List (List Int))) : List T := L.map fun ll => (.sl false 25 (rowsF ll))
theorem tabsO_freeze : ∀ (L : List (List (List Int))), T.freezeL (tabsO L) = tabsF L
  | [] => rfl
  | ll :: L => by
    have := tabsO_freeze L
    simp only [tabsO, tabsF, List.map_cons, T.freezeL, T.freeze, rowsO_freeze] at this ⊢
    rw [this]
theorem tabsF_pure : ∀ (L : List (List (List Int))), T.pureL (tabsF L) = true
  | [] => rfl
  | ll :: L => by
    have := tabsF_pure L
    simp only [tabsF, List.map_cons, T.pureL, T.pure, rowsF_pure, Bool.not_false, Bool.true_and] at this ⊢
    exact this
set_option maxHeartbeats 1000000 in
theorem c_impl_square (q : Nat) (hq : q ≤ 1000) : AFn Try.prog 77 [.int .i64 q] (.sl true 25 (rowsO (tbQ q fun _ _ => 0))) := by
  refine AFn.of' ttOk (by decide) Try.func77 Try.ntmps77 (by rw [Try.results77]) (by rfl) (by rfl) (by simp) (by decide) (by simp only [go_sem, Nat.reduceAdd, ↓reduceIte]; rfl) mixed (fun C hP hM hC => ?_)
  (repeat (first | ((with_reducible refine rgn_cons rfl (fun K hK => ?_)); simp only [go_sem, seval, ↓reduceIte, decide_true, decide_false]; (refine hK _ _ _ (by simp only [go_sem, Nat.reduceEqDiff, ↓reduceIte]; rfl) ?_); clear hK; clear K) | (with_reducible first | refine rgn_nil (by first | trivial | kernel_rfl) ?_ | refine AWP.seq ?_ | refine tX hC hP (by kernel_rfl) ?_ | refine aX hC hM hP (by kernel_rfl) ?_ | refine AWP.skip ?_ | refine AWP.label ?_ | refine AWP.exit ?_ | refine AWP.block ?_ | refine cTa ?_ | refine cFa ?_) | simp only [qS, Nat.reduceEqDiff, ↓reduceIte]))
  refine AWP.loop (fun w : Nat × Nat => [(6, ⟨0, .val (.int .i64 w.1)⟩), (5, ⟨0, .val (.int .i64 q)⟩), (3, ⟨w.2, .own (.sl true 25 (rowsO (tbK q w.1 (fun _ _ => 0))))⟩), (0, ⟨0, .val (.int .i64 q)⟩)]) (fun w => w.1 ≤ q) (fun w => q - w.1) (0, 1) (Nat.zero_le _) (fun i => rfl) ?_ (fun w hw => ?_)
  · simp [Sub, lk, tbK, rowsO]
  · obtain ⟨i, v⟩ := w
    simp only at hw ⊢
    by_cases hi : i < q
    · have hs := tbK_succ q i (fun _ _ => 0)
      (repeat (first | ((with_reducible refine rgn_cons rfl (fun K hK => ?_)); simp only [go_sem, seval, ↓reduceIte, decide_true, decide_false, show (i : Int) < (q : Int) by omega, decide_true, Int.toNat_natCast, Int.natCast_nonneg, show (q : Int) ≤ 1099511627776 by omega, intL_replicate, tab_zero, tbK_length, rowsO_snocT, hs, show i + 1 ≤ 1099511627776 by omega, show (i + 1) * 24 ≤ 140737488355328 by omega, wid ((i : Int) + 1) (by omega) (by omega)]; (refine hK _ _ _ (by simp only [go_sem, Nat.reduceEqDiff, ↓reduceIte]; rfl) ?_); clear hK; clear K) | (with_reducible first | refine rgn_nil (by first | trivial | kernel_rfl) ?_ | refine AWP.seq ?_ | refine tX hC hP (by kernel_rfl) ?_ | refine aX hC hM hP (by kernel_rfl) ?_ | refine AWP.skip ?_ | refine AWP.label ?_ | refine AWP.exit ?_ | refine AWP.block ?_ | refine cTa ?_ | refine cFa ?_) | simp only [qS, Nat.reduceEqDiff, ↓reduceIte]))
      exact ⟨(i + 1, v + 1), by simp only; omega, by simp only; omega, by simp [Sub, lk]⟩
    · (repeat (first | ((with_reducible refine rgn_cons rfl (fun K hK => ?_)); simp only [go_sem, seval, ↓reduceIte, decide_true, decide_false, show ¬ (i : Int) < (q : Int) by omega, decide_false]; (refine hK _ _ _ (by simp only [go_sem, Nat.reduceEqDiff, ↓reduceIte]; rfl) ?_); clear hK; clear K) | (with_reducible first | refine rgn_nil (by first | trivial | kernel_rfl) ?_ | refine AWP.seq ?_ | refine tX hC hP (by kernel_rfl) ?_ | refine aX hC hM hP (by kernel_rfl) ?_ | refine AWP.skip ?_ | refine AWP.label ?_ | refine AWP.exit ?_ | refine AWP.block ?_ | refine cTa ?_ | refine cFa ?_) | simp only [qS, Nat.reduceEqDiff, ↓reduceIte]))
      (refine AWP.ret ?_; refine retOk1 (by simp only [go_sem, seval, ↓reduceIte, decide_true, decide_false]; rfl) ?_)
      rw [show i = q by omega]; rfl
/-- What stands behind a pointer to a kernel, where nobody writes. -/
abbrev KF (p : Int) (q : Nat) (L : List (List (List Int))) (ll : List (List Int)) : T := .fptr (.agg [.int .i64 p, .int .i64 q, .sl false 22 (tabsF L), .agg [.int .i64 p, .sl false 25 (rowsF ll)]])
set_option maxHeartbeats 4000000 in
theorem c_impl_kernel_tableTimes (p : Int) (q : Nat) (L : List (List (List Int))) (ll : List (List Int)) (A B : Nat → Nat → Int) (hp0 : 0 < p) (hp2 : p ≤ 10000) (hq : q ≤ 1000) (hA : Nm p A) (hB : Nm p B) : AFn Try.prog 78 [.fptr (.agg [.int .i64 p, .int .i64 q, .sl false 22 (tabsF L), .agg [.int .i64 p, .sl false 25 (rowsF ll)]]), .sl false 25 (rowsF (tbQ q A)), .sl false 25 (rowsF (tbQ q B))] (.sl true 25 (rowsO (tbQ q (k1 p q A B q)))) := by
  refine AFn.of' ttOk (by decide) Try.func78 Try.ntmps78 (by rw [Try.results78]) (by rfl) (by rfl) (by simp) (by decide) (by simp only [go_sem, Nat.reduceAdd, ↓reduceIte]; rfl) mixed (fun C hP hM hC => ?_)
  have hpn : p ≠ 0 := by omega
  (repeat (first | ((with_reducible refine rgn_cons rfl (fun K hK => ?_)); simp only [go_sem, seval, ↓reduceIte, decide_true, decide_false, rowsF_length, tbQ_length, tabsF_pure]; (first | refine hK _ _ _ (by simp only [go_sem, Nat.reduceEqDiff, ↓reduceIte]; rfl) ?_ | refine ⟨_, c_impl_square q hq, hK _ _ _ (by simp only [go_sem, Nat.reduceEqDiff, ↓reduceIte]; rfl) ?_⟩); clear hK; clear K) | (with_reducible first | refine rgn_nil (by first | trivial | kernel_rfl) ?_ | refine AWP.seq ?_ | refine tX hC hP (by kernel_rfl) ?_ | refine aX hC hM hP (by kernel_rfl) ?_ | refine AWP.skip ?_ | refine AWP.label ?_ | refine AWP.exit ?_ | refine AWP.block ?_ | refine cTa ?_ | refine cFa ?_) | simp only [qS, Nat.reduceEqDiff, ↓reduceIte]))
  refine AWP.loop (fun i : Nat => [(21, ⟨0, .val (.int .i64 i)⟩), (20, ⟨0, .val (.int .i64 q)⟩), (19, ⟨0, .val (.sl false 25 (rowsF (tbQ q A)))⟩), (7, ⟨1, .own (.sl true 25 (rowsO (tbQ q (k1 p q A B i))))⟩), (0, ⟨0, .val (.fptr (.agg [.int .i64 p, .int .i64 q, .sl false 22 (tabsF L), .agg [.int .i64 p, .sl false 25 (rowsF ll)]]))⟩), (2, ⟨0, .val (.sl false 25 (rowsF (tbQ q B)))⟩)]) (fun i => i ≤ q) (fun i => q - i) 0 (Nat.zero_le _) (fun i => rfl) ?_ (fun i hi => ?_)
  · simp [Sub, lk, k1]
  · by_cases hin : i < q
    · (repeat (first | ((with_reducible refine rgn_cons rfl (fun K hK => ?_)); simp only [go_sem, seval, ↓reduceIte, decide_true, decide_false, show (i : Int) < (q : Int) by omega, decide_true, rowsF_getD (tbQ q A) i (by rw [tbQ_length]; exact hin), rowsF_length, tbQ_length, tbQ_row hin, Int.toNat_natCast, Int.natCast_nonneg, tab_length]; (refine hK _ _ _ (by simp only [go_sem, Nat.reduceEqDiff, ↓reduceIte]; rfl) ?_); clear hK; clear K) | (with_reducible first | refine rgn_nil (by first | trivial | kernel_rfl) ?_ | refine AWP.seq ?_ | refine tX hC hP (by kernel_rfl) ?_ | refine aX hC hM hP (by kernel_rfl) ?_ | refine AWP.skip ?_ | refine AWP.label ?_ | refine AWP.exit ?_ | refine AWP.block ?_ | refine cTa ?_ | refine cFa ?_) | simp only [qS, Nat.reduceEqDiff, ↓reduceIte]))
      refine AWP.loop (fun j : Nat => [(28, ⟨0, .val (.int .i64 j)⟩), (27, ⟨0, .val (.int .i64 q)⟩), (26, ⟨0, .val (.sl false 2 (intL (tab q (A i))))⟩), (8, ⟨0, .val (.int .i64 i)⟩), (21, ⟨0, .val (.int .i64 i)⟩), (20, ⟨0, .val (.int .i64 q)⟩), (19, ⟨0, .val (.sl false 25 (rowsF (tbQ q A)))⟩), (7, ⟨1, .own (.sl true 25 (rowsO (tbQ q (k2 p q i A B (k1 p q A B i) j))))⟩), (0, ⟨0, .val (.fptr (.agg [.int .i64 p, .int .i64 q, .sl false 22 (tabsF L), .agg [.int .i64 p, .sl false 25 (rowsF ll)]]))⟩), (2, ⟨0, .val (.sl false 25 (rowsF (tbQ q B)))⟩)]) (fun j => j ≤ q) (fun j => q - j) 0 (Nat.zero_le _) (fun i => rfl) ?_ (fun j hj => ?_)
      · simp [Sub, lk, k2]
      · by_cases hjn : j < q
        · have hj1 : j < (tab q (A i)).length := by rw [tab_length]; exact hjn
          (repeat (first | ((with_reducible refine rgn_cons rfl (fun K hK => ?_)); simp only [go_sem, seval, ↓reduceIte, decide_true, decide_false, show (j : Int) < (q : Int) by omega, decide_true, Int.toNat_natCast, Int.natCast_nonneg, intL_getD _ j hj1, tab_length, tab_getD hjn]; (refine hK _ _ _ (by simp only [go_sem, Nat.reduceEqDiff, ↓reduceIte]; rfl) ?_); clear hK; clear K) | (with_reducible first | refine rgn_nil (by first | trivial | kernel_rfl) ?_ | refine AWP.seq ?_ | refine tX hC hP (by kernel_rfl) ?_ | refine aX hC hM hP (by kernel_rfl) ?_ | refine AWP.skip ?_ | refine AWP.label ?_ | refine AWP.exit ?_ | refine AWP.block ?_ | refine cTa ?_ | refine cFa ?_) | simp only [qS, Nat.reduceEqDiff, ↓reduceIte]))
          refine AWP.loop (fun s : Nat => [(12, ⟨0, .val (.int .i64 s)⟩), (10, ⟨0, .val (.int .i64 j)⟩), (11, ⟨0, .val (.int .i64 (A i j))⟩), (28, ⟨0, .val (.int .i64 j)⟩), (27, ⟨0, .val (.int .i64 q)⟩), (26, ⟨0, .val (.sl false 2 (intL (tab q (A i))))⟩), (8, ⟨0, .val (.int .i64 i)⟩), (21, ⟨0, .val (.int .i64 i)⟩), (20, ⟨0, .val (.int .i64 q)⟩), (19, ⟨0, .val (.sl false 25 (rowsF (tbQ q A)))⟩), (7, ⟨1, .own (.sl true 25 (rowsO (tbQ q (k3 p q i j (A i j) B (k2 p q i A B (k1 p q A B i) j) s))))⟩), (0, ⟨0, .val (.fptr (.agg [.int .i64 p, .int .i64 q, .sl false 22 (tabsF L), .agg [.int .i64 p, .sl false 25 (rowsF ll)]]))⟩), (2, ⟨0, .val (.sl false 25 (rowsF (tbQ q B)))⟩)]) (fun s => i + s ≤ q) (fun s => q - s) 0 (by omega) (fun i => rfl) ?_ (fun s hs => ?_)
          · simp [Sub, lk, k3]
          · have w1 := widK (i + s) (by omega)
            by_cases hsn : i + s < q
            · (repeat (first | ((with_reducible refine rgn_cons rfl (fun K hK => ?_)); simp only [go_sem, seval, ↓reduceIte, decide_true, decide_false, ← Int.natCast_add, w1, rowsF_length, tbQ_length, show ((i + s : Nat) : Int) < (q : Int) by omega, decide_true]; (refine hK _ _ _ (by simp only [go_sem, Nat.reduceEqDiff, ↓reduceIte]; rfl) ?_); clear hK; clear K) | (with_reducible first | refine rgn_nil (by first | trivial | kernel_rfl) ?_ | refine AWP.seq ?_ | refine tX hC hP (by kernel_rfl) ?_ | refine aX hC hM hP (by kernel_rfl) ?_ | refine AWP.skip ?_ | refine AWP.label ?_ | refine AWP.exit ?_ | refine AWP.block ?_ | refine cTa ?_ | refine cFa ?_) | simp only [qS, Nat.reduceEqDiff, ↓reduceIte]))
              refine AWP.loop (fun t : Nat => [(13, ⟨0, .val (.int .i64 t)⟩), (12, ⟨0, .val (.int .i64 s)⟩), (10, ⟨0, .val (.int .i64 j)⟩), (11, ⟨0, .val (.int .i64 (A i j))⟩), (28, ⟨0, .val (.int .i64 j)⟩), (27, ⟨0, .val (.int .i64 q)⟩), (26, ⟨0, .val (.sl false 2 (intL (tab q (A i))))⟩), (8, ⟨0, .val (.int .i64 i)⟩), (21, ⟨0, .val (.int .i64 i)⟩), (20, ⟨0, .val (.int .i64 q)⟩), (19, ⟨0, .val (.sl false 25 (rowsF (tbQ q A)))⟩), (7, ⟨1, .own (.sl true 25 (rowsO (tbQ q (k4 p i j s (A i j) B (k3 p q i j (A i j) B (k2 p q i A B (k1 p q A B i) j) s) t))))⟩), (0, ⟨0, .val (.fptr (.agg [.int .i64 p, .int .i64 q, .sl false 22 (tabsF L), .agg [.int .i64 p, .sl false 25 (rowsF ll)]]))⟩), (2, ⟨0, .val (.sl false 25 (rowsF (tbQ q B)))⟩)]) (fun t => j + t ≤ q) (fun t => q - t) 0 (by omega) (fun i => rfl) ?_ (fun t ht => ?_)
              · simp [Sub, lk, k4]
              · have w2 := widK (j + t) (by omega)
                by_cases htn : j + t < q
                · have hN : Nm p (k4 p i j s (A i j) B (k3 p q i j (A i j) B (k2 p q i A B (k1 p q A B i) j) s) t) := k4_nm hp0 (k3_nm hp0 (k2_nm hp0 (k1_nm hp0 _) _) _) _
                  have hk : k4 p i j s (A i j) B (k3 p q i j (A i j) B (k2 p q i A B (k1 p q A B i) j) s) (t + 1) = up (k4 p i j s (A i j) B (k3 p q i j (A i j) B (k2 p q i A B (k1 p q A B i) j) s) t) (i + s) (j + t) ((k4 p i j s (A i j) B (k3 p q i j (A i j) B (k2 p q i A B (k1 p q A B i) j) s) t (i + s) (j + t) + A i j * B s t) % p) := rfl
                  generalize k4 p i j s (A i j) B (k3 p q i j (A i j) B (k2 p q i A B (k1 p q A B i) j) s) t = F at *
                  have his : i + s < (tbQ q F).length := by rw [tbQ_length]; exact hsn
                  have hcol : j + t < (tab q (F (i + s))).length := by rw [tab_length]; exact htn
                  have ht1 : t < (tab q (B s)).length := by rw [tab_length]; omega
                  have n1 := hA i j
                  have n2 := hB s t
                  have n3 := hN (i + s) (j + t)
                  have n4 : 0 ≤ A i j * B s t ∧ A i j * B s t ≤ 100000000 := mul_bound4 n1.1 n1.2 n2.1 n2.2 hp2
                  have hst := tbQ_set (q := q) (u := i + s) (v := j + t) (F := F) (x := (F (i + s) (j + t) + A i j * B s t) % p) hsn
                  (repeat (first | ((with_reducible refine rgn_cons rfl (fun K hK => ?_)); simp only [go_sem, seval, ↓reduceIte, decide_true, decide_false, ← Int.natCast_add, w1, w2, rowsF_length, tbQ_length, show ((j + t : Nat) : Int) < (q : Int) by omega, show ((i + s : Nat) : Int) < (q : Int) by omega, show (s : Int) < (q : Int) by omega, show (t : Int) < (q : Int) by omega, decide_true, Int.toNat_natCast, Int.natCast_nonneg, rowsO_at _ _ his, rowsO_sizeT _ _ (Nat.le_of_lt his), rowsO_length, tbQ_row hsn, rowsF_getD (tbQ q B) s (by rw [tbQ_length]; omega), tbQ_row (show s < q by omega), Nat.mul_one, intL_get _ _ hcol, sizeL_take _ _ (Nat.le_of_lt hcol), intL_getD _ t ht1, tab_length, tab_getD htn, tab_getD (show t < q by omega), wid (A i j * B s t) (by omega) (by omega), wid (F (i + s) (j + t) + A i j * B s t) (by omega) (by omega), tm (F (i + s) (j + t) + A i j * B s t) p (by omega), hpn, rowsO_modify _ _ _ _ his, hst, wid ((t : Int) + 1) (by omega) (by omega)]; (refine hK _ _ _ (by simp only [go_sem, Nat.reduceEqDiff, ↓reduceIte]; rfl) ?_); clear hK; clear K) | (with_reducible first | refine rgn_nil (by first | trivial | kernel_rfl) ?_ | refine AWP.seq ?_ | refine tX hC hP (by kernel_rfl) ?_ | refine aX hC hM hP (by kernel_rfl) ?_ | refine AWP.skip ?_ | refine AWP.label ?_ | refine AWP.exit ?_ | refine AWP.block ?_ | refine cTa ?_ | refine cFa ?_) | simp only [qS, Nat.reduceEqDiff, ↓reduceIte]))
                  exact ⟨t + 1, by omega, by omega, by simp [Sub, lk, hk]⟩
                · have e : t = q - j := by omega
                  subst e
                  (repeat (first | ((with_reducible refine rgn_cons rfl (fun K hK => ?_)); simp only [go_sem, seval, ↓reduceIte, decide_true, decide_false, ← Int.natCast_add, w2, rowsF_length, tbQ_length, show ¬ ((j + (q - j) : Nat) : Int) < (q : Int) by omega, decide_false, wid ((s : Int) + 1) (by omega) (by omega)]; (refine hK _ _ _ (by simp only [go_sem, Nat.reduceEqDiff, ↓reduceIte]; rfl) ?_); clear hK; clear K) | (with_reducible first | refine rgn_nil (by first | trivial | kernel_rfl) ?_ | refine AWP.seq ?_ | refine tX hC hP (by kernel_rfl) ?_ | refine aX hC hM hP (by kernel_rfl) ?_ | refine AWP.skip ?_ | refine AWP.label ?_ | refine AWP.exit ?_ | refine AWP.block ?_ | refine cTa ?_ | refine cFa ?_) | simp only [qS, Nat.reduceEqDiff, ↓reduceIte]))
                  exact ⟨s + 1, by omega, by omega, by simp [Sub, lk, k3]⟩
            · have e : s = q - i := by omega
              subst e
              (repeat (first | ((with_reducible refine rgn_cons rfl (fun K hK => ?_)); simp only [go_sem, seval, ↓reduceIte, decide_true, decide_false, ← Int.natCast_add, w1, rowsF_length, tbQ_length, show ¬ ((i + (q - i) : Nat) : Int) < (q : Int) by omega, decide_false, wid ((j : Int) + 1) (by omega) (by omega)]; (refine hK _ _ _ (by simp only [go_sem, Nat.reduceEqDiff, ↓reduceIte]; rfl) ?_); clear hK; clear K) | (with_reducible first | refine rgn_nil (by first | trivial | kernel_rfl) ?_ | refine AWP.seq ?_ | refine tX hC hP (by kernel_rfl) ?_ | refine aX hC hM hP (by kernel_rfl) ?_ | refine AWP.skip ?_ | refine AWP.label ?_ | refine AWP.exit ?_ | refine AWP.block ?_ | refine cTa ?_ | refine cFa ?_) | simp only [qS, Nat.reduceEqDiff, ↓reduceIte]))
              exact ⟨j + 1, by omega, by omega, by simp [Sub, lk, k2]⟩
        · have e : j = q := by omega
          subst e
          (repeat (first | ((with_reducible refine rgn_cons rfl (fun K hK => ?_)); simp only [go_sem, seval, ↓reduceIte, decide_true, decide_false, show ¬ (j : Int) < (j : Int) by omega, decide_false, wid ((i : Int) + 1) (by omega) (by omega)]; (refine hK _ _ _ (by simp only [go_sem, Nat.reduceEqDiff, ↓reduceIte]; rfl) ?_); clear hK; clear K) | (with_reducible first | refine rgn_nil (by first | trivial | kernel_rfl) ?_ | refine AWP.seq ?_ | refine tX hC hP (by kernel_rfl) ?_ | refine aX hC hM hP (by kernel_rfl) ?_ | refine AWP.skip ?_ | refine AWP.label ?_ | refine AWP.exit ?_ | refine AWP.block ?_ | refine cTa ?_ | refine cFa ?_) | simp only [qS, Nat.reduceEqDiff, ↓reduceIte]))
          exact ⟨i + 1, by omega, by omega, by simp [Sub, lk, k1]⟩
    · have e : i = q := by omega
      subst e
      (repeat (first | ((with_reducible refine rgn_cons rfl (fun K hK => ?_)); simp only [go_sem, seval, ↓reduceIte, decide_true, decide_false, show ¬ (i : Int) < (i : Int) by omega, decide_false]; (refine hK _ _ _ (by simp only [go_sem, Nat.reduceEqDiff, ↓reduceIte]; rfl) ?_); clear hK; clear K) | (with_reducible first | refine rgn_nil (by first | trivial | kernel_rfl) ?_ | refine AWP.seq ?_ | refine tX hC hP (by kernel_rfl) ?_ | refine aX hC hM hP (by kernel_rfl) ?_ | refine AWP.skip ?_ | refine AWP.label ?_ | refine AWP.exit ?_ | refine AWP.block ?_ | refine cTa ?_ | refine cFa ?_) | simp only [qS, Nat.reduceEqDiff, ↓reduceIte]))
      (refine AWP.ret ?_; refine retOk1 (by simp only [go_sem, seval, ↓reduceIte, decide_true, decide_false]; rfl) ?_)
      rfl
end Go.Proofs.Ytfnfdjomkohfjaa
