/-
  Kernels: the code, the coproducts, the antipode.
-/
import Derived.Test.YtfnfdjomkohfjaaTa
import Derived.Test.YtfnfdjomkohfjaaHc
import Derived.Test.YtfnfdjomkohfjaaRb
namespace Go.Proofs.Ytfnfdjomkohfjaa
open Go.RowKit
set_option linter.unusedSimpArgs false
set_option linter.unusedVariables false
set_option linter.unusedSectionVars false
set_option maxRecDepth 20000
-- Kernels: the code, the coproducts, the antipode.
/-- The slot t holds a pointer that shall follow its variable. -/
theorem AWP.follow {C : Ctx} {n : Nat} {Q : Exit → Env → Prop} {env : Env} {c : Code} (t : Nat) (h0 : lk env 3000002 = none) (h : AWP C n c Q ((3000002, ⟨0, .val (.str (.raw none t 0))⟩) :: env)) : AWP C n c Q env := fun C1 hE a w hF => by
  obtain ⟨hd, hn, κ, V, hI, hV⟩ := hF
  exact h C1 hE a w ⟨hd, hn, κ, _, hI.bind 3000002 0 (.str (.raw none t 0)) (Con.val (.raw none t 0)) (by rw [h0]; exact Nat.le_refl _) rfl 0 ⟨[(Con.raw none t 0).val], rfl, by simp [CR, Con.ok]⟩, fun t ht => by rw [upd_other _ _ _ _ (by omega)]; exact hV t ht⟩
noncomputable def anC (m : Int) (ll : List (List Int)) : Int := if hgC m ll = 0 then (if (ll.length : Int) - 1 < 2 * (rkV m ll - 1) then 3 else 0) else hgC m ll
noncomputable def anL (m : Int) (ll : List (List Int)) : List Int := (opiS m (pc ll) (ll.length - 1) (ll.length - 1)).take (rkV m ll).toNat
theorem hgC_zero {m : Int} {ll : List (List Int)} (h : hgC m ll = 0) : htC m ll = 0 ∧ (htX m ll).2 ≠ 0 := by
  unfold hgC at h
  split at h
  · rename_i h1
    split at h
    · omega
    · rename_i h2; exact ⟨h1, h2⟩
  · rename_i h1; exact absurd h h1
theorem anC_zero {m : Int} {ll : List (List Int)} (h : anC m ll = 0) : hgC m ll = 0 ∧ 2 * (rkV m ll - 1) ≤ (ll.length : Int) - 1 := by
  unfold anC at h
  split at h
  · rename_i h1
    split at h
    · omega
    · exact ⟨h1, by omega⟩
  · rename_i h1; exact absurd h h1
/-- What a law with a kernel is. -/
theorem an_facts {m : Int} {ll : List (List Int)} (h : hgC m ll = 0) : ∃ p d q : Nat, m = (p : Int) ∧ 2 ≤ p ∧ p ≤ 7 ∧ 1 ≤ d ∧ d ≤ 10 ∧ ll.length = d + 1 ∧ Pl (p : Int) (d + 1) ll ∧ rkV m ll = (q : Int) ∧ 1 ≤ q ∧ q ≤ d := by
  obtain ⟨hz, h0⟩ := hgC_zero h
  obtain ⟨p, d, h1, h2, h3, h4, h5, h6, h7, h8, h9, _, _⟩ := lw_prime hz
  refine ⟨p, d, (htX m ll).1, h1, h2, h3, h4, h5, h6, h7, if_pos hz, ?_⟩
  rcases h9 with ⟨g1, g2, _⟩ | ⟨g0, g1, g2, _⟩
  · exact absurd g2 h0
  · have := Nat.pow_pos (n := (htX m ll).2) (show 0 < p by omega)
    omega
/-- The coproducts of the powers of t. -/
def cop (p : Int) (q : Nat) (B : Nat → Nat → Int) : Nat → Nat → Nat → Int
  | 0 => up (fun _ _ => 0) 0 0 1
  | n + 1 => k1 p q (cop p q B n) B q
def copL (p : Int) (q : Nat) (B : Nat → Nat → Int) (k : Nat) : List (List (List Int)) := (List.range k).map (fun n => tbQ q (cop p q B n))
theorem copL_length (p : Int) (q : Nat) (B : Nat → Nat → Int) (k : Nat) : (copL p q B k).length = k := by simp [copL]
theorem copL_snoc (p : Int) (q : Nat) (B : Nat → Nat → Int) (k : Nat) : copL p q B k ++ [tbQ q (cop p q B k)] = copL p q B (k + 1) := by simp [copL, List.range_succ]
theorem copL_at {p : Int} {q : Nat} {B : Nat → Nat → Int} {k n : Nat} (h : n < k) : (copL p q B k).getD n [] = tbQ q (cop p q B n) := by simp [copL, List.getD_eq_getElem?_getD, h]
theorem cop_nm {p : Int} (hp : 1 < p) {q : Nat} {B : Nat → Nat → Int} : ∀ n, Nm p (cop p q B n)
  | 0 => up_nm (fun _ _ => ⟨Int.le_refl 0, by omega⟩) ⟨by omega, by omega⟩
  | n + 1 => k1_nm (by omega) _
/-- The law's table, its first rows copied. -/
def trow (ll : List (List Int)) (i u v : Nat) : Int := if u < i then pc ll u v else 0
theorem trow_set {q i : Nat} {ll : List (List Int)} (h : i < q) : (tbQ q (trow ll i)).set i (tab q (pc ll i)) = tbQ q (trow ll (i + 1)) := by
  apply List.ext_getElem?
  intro a
  by_cases e : i = a
  · subst e
    rw [List.getElem?_set_self (by rw [tbQ_length]; exact h)]
    simp only [tbQ, tbK, List.getElem?_map, List.getElem?_range h, Option.map_some, Option.some.injEq]
    exact tab_congr fun v _ => by rw [trow, if_pos (by omega)]
  · rw [List.getElem?_set_ne e]
    simp only [tbQ, tbK, List.getElem?_map]
    by_cases ha : a < q
    · rw [List.getElem?_range ha]
      simp only [Option.map_some, Option.some.injEq]
      refine tab_congr fun v _ => ?_
      unfold trow
      by_cases g : a < i
      · rw [if_pos g, if_pos (by omega)]
      · rw [if_neg g, if_neg (by omega)]
    · rw [List.getElem?_eq_none (by simpa using ha)]
      rfl
theorem trow_nm {m : Int} {n : Nat} {ll : List (List Int)} (hl : Pl m n ll) (hm : 0 < m) (i : Nat) : Nm m (trow ll i) := by
  intro u v
  unfold trow
  split
  · exact hl.num u v
  · exact ⟨Int.le_refl 0, hm⟩
theorem fgtL_intL : ∀ (l : List Int), T.fgtL (intL l) = intL l
  | [] => rfl
  | x :: l => by
    have := fgtL_intL l
    simp only [intL, List.map_cons, T.fgtL, T.fgt] at this ⊢
    rw [this]
theorem fgtL_rowsO : ∀ (ll : List (List Int)), T.fgtL (rowsO ll) = rowsO ll
  | [] => rfl
  | x :: ll => by
    have := fgtL_rowsO ll
    simp only [rowsO, List.map_cons, T.fgtL, T.fgt, fgtL_intL] at this ⊢
    rw [this]
theorem tabsO_fgt : ∀ (L : List (List (List Int))), T.fgtL (tabsO L) = tabsO L
  | [] => rfl
  | x :: L => by
    have := tabsO_fgt L
    simp only [tabsO, List.map_cons, T.fgtL, T.fgt, fgtL_rowsO] at this ⊢
    rw [this]
set_option maxHeartbeats 1000000 in
theorem c_impl_kernelOf_no1 (m : Int) (ll : List (List Int)) (hs : Sm ll) (hc : ¬ hgC m ll = 0) : AFn Try.prog 40 [.agg [.int .i64 m, .sl false 25 (rowsF ll)], .nil] (.tup [.str .nilPtr, .int .i64 (hgC m ll)]) := by
  refine AFn.of' ttOk (by decide) Try.func40 Try.ntmps40 (by rw [Try.results40]) (by rfl) (by rfl) (by simp) (by decide) (by simp only [go_sem, Nat.reduceAdd, ↓reduceIte]; rfl) mixed (fun C hP hM hC => ?_)
  (repeat (first | ((with_reducible refine rgn_cons rfl (fun K hK => ?_)); simp only [go_sem, seval, ↓reduceIte, decide_true, decide_false, show (hgC m ll != 0) = true by simpa using hc]; (first | refine hK _ _ _ (by simp only [go_sem, Nat.reduceEqDiff, ↓reduceIte]; rfl) ?_ | refine ⟨_, c_impl_ranked m ll hs, hK _ _ _ (by simp only [go_sem, Nat.reduceEqDiff, ↓reduceIte]; rfl) ?_⟩); clear hK; clear K) | (with_reducible first | refine rgn_nil (by first | trivial | kernel_rfl) ?_ | refine AWP.seq ?_ | refine tX hC hP (by kernel_rfl) ?_ | refine aX hC hM hP (by kernel_rfl) ?_ | refine AWP.skip ?_ | refine AWP.label ?_ | refine AWP.exit ?_ | refine AWP.block ?_ | refine cTa ?_ | refine cFa ?_) | simp only [qS, Nat.reduceEqDiff, ↓reduceIte]))
  (refine AWP.ret ?_; refine retOk2 (by simp only [go_sem, seval, ↓reduceIte, decide_true, decide_false]; rfl) (by simp only [go_sem, seval, ↓reduceIte, decide_true, decide_false]; rfl) (by simp) ?_)
  rfl
set_option maxHeartbeats 1000000 in
theorem c_impl_kernelOf_no2 (m : Int) (ll : List (List Int)) (hs : Sm ll) (hc : hgC m ll = 0) (hd : (ll.length : Int) - 1 < 2 * (rkV m ll - 1)) : AFn Try.prog 40 [.agg [.int .i64 m, .sl false 25 (rowsF ll)], .nil] (.tup [.str .nilPtr, .int .i64 3]) := by
  refine AFn.of' ttOk (by decide) Try.func40 Try.ntmps40 (by rw [Try.results40]) (by rfl) (by rfl) (by simp) (by decide) (by simp only [go_sem, Nat.reduceAdd, ↓reduceIte]; rfl) mixed (fun C hP hM hC => ?_)
  obtain ⟨p, d, q, h1, h2, h3, h4, h5, h6, h7, h8, h9, h10⟩ := an_facts hc
  have hR := c_impl_ranked m ll hs
  rw [hc, h8] at hR
  rw [h8] at hd
  (repeat (first | ((with_reducible refine rgn_cons rfl (fun K hK => ?_)); simp only [go_sem, seval, ↓reduceIte, decide_true, decide_false, wid ((q : Int) - 1) (by omega) (by omega), wid (2 * ((q : Int) - 1)) (by omega) (by omega), hd, decide_true]; (first | refine hK _ _ _ (by simp only [go_sem, Nat.reduceEqDiff, ↓reduceIte]; rfl) ?_ | refine ⟨_, hR, hK _ _ _ (by simp only [go_sem, Nat.reduceEqDiff, ↓reduceIte]; rfl) ?_⟩ | refine ⟨_, c_impl_Plane_degree m ll (by omega), hK _ _ _ (by simp only [go_sem, Nat.reduceEqDiff, ↓reduceIte]; rfl) ?_⟩); clear hK; clear K) | (with_reducible first | refine rgn_nil (by first | trivial | kernel_rfl) ?_ | refine AWP.seq ?_ | refine tX hC hP (by kernel_rfl) ?_ | refine aX hC hM hP (by kernel_rfl) ?_ | refine AWP.skip ?_ | refine AWP.label ?_ | refine AWP.exit ?_ | refine AWP.block ?_ | refine cTa ?_ | refine cFa ?_) | simp only [qS, Nat.reduceEqDiff, ↓reduceIte]))
  (refine AWP.ret ?_; refine retOk2 (by simp only [go_sem, seval, ↓reduceIte, decide_true, decide_false]; rfl) (by simp only [go_sem, seval, ↓reduceIte, decide_true, decide_false]; rfl) (by simp) ?_)
  rfl
set_option maxHeartbeats 4000000 in
theorem c_impl_kernelOf_ok (m : Int) (ll : List (List Int)) (q : Nat) (hs : Sm ll) (hc : hgC m ll = 0) (hq : rkV m ll = (q : Int)) (hd : 2 * ((q : Int) - 1) ≤ (ll.length : Int) - 1) : AFn Try.prog 40 [.agg [.int .i64 m, .sl false 25 (rowsF ll)], .nil] (.tup [.box 67 (.agg [.int .i64 m, .int .i64 q, .sl true 22 (tabsO (copL m q (trow ll q) q)), .agg [.int .i64 m, .any]]), .int .i64 0]) := by
  refine AFn.of' ttOk (by decide) Try.func40 Try.ntmps40 (by rw [Try.results40]) (by rfl) (by rfl) (by simp) (by decide) (by simp only [go_sem, Nat.reduceAdd, ↓reduceIte]; rfl) mixed (fun C hP hM hC => ?_)
  obtain ⟨p, d, q', h1, h2, h3, h4, h5, h6, h7, h8, h9, h10⟩ := an_facts hc
  obtain rfl : q' = q := by omega
  have hR := c_impl_ranked m ll hs
  rw [hc, h8] at hR
  have hSq := c_impl_square q' (by omega)
  refine AWP.follow 10 rfl ?_
  (repeat (first | ((with_reducible refine rgn_cons rfl (fun K hK => ?_)); simp only [go_sem, seval, ↓reduceIte, decide_true, decide_false, wid ((q' : Int) - 1) (by omega) (by omega), wid (2 * ((q' : Int) - 1)) (by omega) (by omega), show ¬ (ll.length : Int) - 1 < 2 * ((q' : Int) - 1) by omega, decide_false]; (first | refine hK _ _ _ (by simp only [go_sem, Nat.reduceEqDiff, ↓reduceIte]; rfl) ?_ | refine ⟨_, hR, hK _ _ _ (by simp only [go_sem, Nat.reduceEqDiff, ↓reduceIte]; rfl) ?_⟩ | refine ⟨_, c_impl_Plane_degree m ll (by omega), hK _ _ _ (by simp only [go_sem, Nat.reduceEqDiff, ↓reduceIte]; rfl) ?_⟩ | refine ⟨_, hSq, hK _ _ _ (by simp only [go_sem, Nat.reduceEqDiff, ↓reduceIte]; rfl) ?_⟩); clear hK; clear K) | (with_reducible first | refine rgn_nil (by first | trivial | kernel_rfl) ?_ | refine AWP.seq ?_ | refine tX hC hP (by kernel_rfl) ?_ | refine aX hC hM hP (by kernel_rfl) ?_ | refine AWP.skip ?_ | refine AWP.label ?_ | refine AWP.exit ?_ | refine AWP.block ?_ | refine cTa ?_ | refine cFa ?_) | simp only [qS, Nat.reduceEqDiff, ↓reduceIte]))
  refine AWP.loop (fun _ : Unit => [(32, ⟨0, .val (.int .i64 0)⟩), (31, ⟨0, .val (.int .i64 0)⟩), (6, ⟨0, .val (.int .i64 q')⟩), (2, ⟨1, .own (.box 29 (.agg [.int .i64 m, .sl false 25 (rowsF ll)]))⟩), (3000002, ⟨0, .val (.str (.raw none 10 0))⟩)]) (fun _ => True) (fun _ => 0) () trivial (fun i => rfl) ?_ (fun i hi => ?_)
  · simp [Sub, lk]
  have hz0 : 0 < (tbQ q' (fun _ _ => (0 : Int))).length := by rw [tbQ_length]; omega
  have hz1 : 0 < (tab q' (fun _ => (0 : Int))).length := by rw [tab_length]; omega
  have hst := tbQ_set (q := q') (u := 0) (v := 0) (F := fun _ _ => (0 : Int)) (x := 1) (by omega)
  (repeat (first | ((with_reducible refine rgn_cons rfl (fun K hK => ?_)); simp only [go_sem, seval, ↓reduceIte, decide_true, decide_false, show ¬ (0 : Int) < 0 by decide, decide_false, rowsO_at _ _ hz0, rowsO_length, tbQ_length, show (0 : Int) < (q' : Int) by omega, Int.le_refl, Int.toNat_zero, List.take_zero, Nat.zero_mul, tbQ_row (show 0 < q' by omega), intL_get _ _ hz1, tab_length, rowsO_modify _ _ _ _ hz0, hst]; (first | refine hK _ _ _ (by simp only [go_sem, Nat.reduceEqDiff, ↓reduceIte]; rfl) ?_ | refine ⟨_, hSq, hK _ _ _ (by simp only [go_sem, Nat.reduceEqDiff, ↓reduceIte]; rfl) ?_⟩); clear hK; clear K) | (with_reducible first | refine rgn_nil (by first | trivial | kernel_rfl) ?_ | refine AWP.seq ?_ | refine tX hC hP (by kernel_rfl) ?_ | refine aX hC hM hP (by kernel_rfl) ?_ | refine AWP.skip ?_ | refine AWP.label ?_ | refine AWP.exit ?_ | refine AWP.block ?_ | refine cTa ?_ | refine cFa ?_) | simp only [qS, Nat.reduceEqDiff, ↓reduceIte]))
  have e0 : tbQ q' (fun _ _ => (0 : Int)) = tbQ q' (trow ll 0) := tbQ_congr fun u v _ _ => by rw [trow, if_neg (by omega)]
  refine AWP.loop (fun i : Nat => [(63, ⟨0, .val (.int .i64 i)⟩), (62, ⟨0, .val (.int .i64 q')⟩), (61, ⟨0, .val (.ref 11 1 [])⟩), (11, ⟨1, .own (.sl true 25 (rowsO (tbQ q' (trow ll i))))⟩), (12, ⟨1, .own (.sl true 25 (rowsO (tbQ q' (up (fun _ _ => (0 : Int)) 0 0 1))))⟩), (10, ⟨0, .val (.addr 52 1 [] 0 [0])⟩), (52, ⟨1, .own (.box 67 (.agg [.int .i64 m, .int .i64 q', .nil, .agg [.int .i64 m, .sl false 25 (rowsF ll)]]))⟩), (6, ⟨0, .val (.int .i64 q')⟩), (2, ⟨1, .own (.box 29 (.agg [.int .i64 m, .sl false 25 (rowsF ll)]))⟩), (3000002, ⟨0, .val (.str (.raw none 10 0))⟩)]) (fun i => i ≤ q') (fun i => q' - i) 0 (Nat.zero_le _) (fun i => rfl) ?_ (fun i hi => ?_)
  · simp [Sub, lk, ← e0]
  by_cases hin : i < q'
  · have hr := h7.row i (by omega)
    have hx1 : tab q' (trow ll i i) = tab q' (fun _ => 0) := tab_congr fun j _ => by rw [trow, if_neg (by omega)]
    have ht := pt_row h7 (show i + q' ≤ d + 1 by omega)
    have hdr : List.drop (d + 1 - i) (intL (tab q' (fun _ => (0 : Int)))) = [] := List.drop_of_length_le (by rw [intL_length, tab_length]; omega)
    have hil : i < (tbQ q' (trow ll i)).length := by rw [tbQ_length]; exact hin
    have hput : (rowsO (tbQ q' (trow ll i))).modify i (fun _ => (.sl true 2 (intL (tab q' (pc ll i))))) = rowsO (tbQ q' (trow ll (i + 1))) := by
      rw [rowsO_put (tbQ q' (trow ll i)) i (tab q' (pc ll i)) _ rfl hil, trow_set hin]
    (repeat (first | ((with_reducible refine rgn_cons rfl (fun K hK => ?_)); simp only [go_sem, seval, ↓reduceIte, decide_true, decide_false, show (i : Int) < (q' : Int) by omega, decide_true, rowsF_length, h6, show (i : Int) < ((d + 1 : Nat) : Int) by omega, rowsF_getD ll i (by omega), Int.toNat_natCast, Int.natCast_nonneg, rowsO_length, tbQ_length, rowsO_at _ _ hil, rowsO_sizeT _ _ (Nat.le_of_lt hil), Nat.mul_one, tbQ_row hin, hx1, intL_scalar, hr, show 0 < d + 1 - i by omega, tab_length, intL_take, ht, hdr, List.append_nil, hput, wid ((i : Int) + 1) (by omega) (by omega)]; (refine hK _ _ _ (by simp only [go_sem, Nat.reduceEqDiff, ↓reduceIte]; rfl) ?_); clear hK; clear K) | (with_reducible first | refine rgn_nil (by first | trivial | kernel_rfl) ?_ | refine AWP.seq ?_ | refine tX hC hP (by kernel_rfl) ?_ | refine aX hC hM hP (by kernel_rfl) ?_ | refine AWP.skip ?_ | refine AWP.label ?_ | refine AWP.exit ?_ | refine AWP.block ?_ | refine cTa ?_ | refine cFa ?_) | simp only [qS, Nat.reduceEqDiff, ↓reduceIte]))
    exact ⟨i + 1, by omega, by omega, by simp [Sub, lk]⟩
  obtain rfl : i = q' := by omega
  (repeat (first | ((with_reducible refine rgn_cons rfl (fun K hK => ?_)); simp only [go_sem, seval, ↓reduceIte, decide_true, decide_false, show ¬ (i : Int) < (i : Int) by omega, decide_false, wid ((i : Int) - 1) (by omega) (by omega), rowsO_solid]; (refine hK _ _ _ (by simp only [go_sem, Nat.reduceEqDiff, ↓reduceIte]; rfl) ?_); clear hK; clear K) | (with_reducible first | refine rgn_nil (by first | trivial | kernel_rfl) ?_ | refine AWP.seq ?_ | refine tX hC hP (by kernel_rfl) ?_ | refine aX hC hM hP (by kernel_rfl) ?_ | refine AWP.skip ?_ | refine AWP.label ?_ | refine AWP.exit ?_ | refine AWP.block ?_ | refine cTa ?_ | refine cFa ?_) | simp only [qS, Nat.reduceEqDiff, ↓reduceIte]))
  refine AWP.loop (fun w : Nat × Nat => [(84, ⟨0, .val (.int .i64 w.1)⟩), (83, ⟨0, .val (.int .i64 ((i : Int) - 1))⟩), (10, ⟨0, .val (.addr 52 w.2 [] 0 [0])⟩), (52, ⟨w.2, .own (.box 67 (.agg [.int .i64 m, .int .i64 i, .sl true 22 (tabsO (copL m i (trow ll i) (w.1 + 1))), .agg [.int .i64 m, .sl false 25 (rowsF ll)]]))⟩), (3000002, ⟨0, .val (.str (.raw none 10 0))⟩), (11, ⟨1, .own (.sl true 25 (rowsO (tbQ i (trow ll i))))⟩), (6, ⟨0, .val (.int .i64 i)⟩)]) (fun w => w.1 + 1 ≤ i) (fun w => i - w.1) (0, 2) (by simp only; omega) (fun i => rfl) ?_ (fun w hw => ?_)
  · simp [Sub, lk, copL, cop, tabsO]
  obtain ⟨n, v⟩ := w
  simp only at hw ⊢
  by_cases hn : (n : Int) < (i : Int) - 1
  · have hT := c_impl_kernel_tableTimes m i (copL m i (trow ll i) (n + 1)) ll (cop m i (trow ll i) n) (trow ll i) (by omega) (by omega) (by omega) (cop_nm (by omega) n) (trow_nm (m := m) (by rw [h1]; exact h7) (by omega) i)
    have hat := tabsO_at (copL m i (trow ll i) (n + 1)) n (by rw [copL_length]; omega)
    rw [copL_at (show n < n + 1 by omega)] at hat
    have hsn : copL m i (trow ll i) (n + 1) ++ [tbQ i (k1 m i (cop m i (trow ll i) n) (trow ll i) i)] = copL m i (trow ll i) (n + 1 + 1) := copL_snoc m i (trow ll i) (n + 1)
    (repeat (first | ((with_reducible refine rgn_cons rfl (fun K hK => ?_)); simp only [go_sem, seval, ↓reduceIte, decide_true, decide_false, hn, decide_true, tabsO_length, copL_length, show ((n + 1 : Nat) : Int) - 1 = (n : Int) by omega, widN n (by omega), Int.toNat_natCast, Int.natCast_nonneg, show (n : Int) < ((n + 1 : Nat) : Int) by omega, hat, tabsO_sizeT (copL m i (trow ll i) (n + 1)) n (by rw [copL_length]; omega), Nat.mul_one, rowsO_freeze, tabsO_freeze, tabsF_pure, rowsO_solid, tabsO_snoc, hsn, show n + 1 + 1 ≤ 1099511627776 by omega, show (n + 1 + 1) * 24 ≤ 140737488355328 by omega, wid ((n : Int) + 1) (by omega) (by omega)]; (first | refine hK _ _ _ (by simp only [go_sem, Nat.reduceEqDiff, ↓reduceIte]; rfl) ?_ | refine ⟨_, hT, hK _ _ _ (by simp only [go_sem, Nat.reduceEqDiff, ↓reduceIte]; rfl) ?_⟩); clear hK; clear K) | (with_reducible first | refine rgn_nil (by first | trivial | kernel_rfl) ?_ | refine AWP.seq ?_ | refine tX hC hP (by kernel_rfl) ?_ | refine aX hC hM hP (by kernel_rfl) ?_ | refine AWP.skip ?_ | refine AWP.label ?_ | refine AWP.exit ?_ | refine AWP.block ?_ | refine cTa ?_ | refine cFa ?_) | simp only [qS, Nat.reduceEqDiff, ↓reduceIte]))
    exact ⟨(n + 1, v + 1), by simp only; omega, by simp only; omega, by simp [Sub, lk]⟩
  · have hni : n + 1 = i := by omega
    (repeat (first | ((with_reducible refine rgn_cons rfl (fun K hK => ?_)); simp only [go_sem, seval, ↓reduceIte, decide_true, decide_false, hn, decide_false]; (refine hK _ _ _ (by simp only [go_sem, Nat.reduceEqDiff, ↓reduceIte]; rfl) ?_); clear hK; clear K) | (with_reducible first | refine rgn_nil (by first | trivial | kernel_rfl) ?_ | refine AWP.seq ?_ | refine tX hC hP (by kernel_rfl) ?_ | refine aX hC hM hP (by kernel_rfl) ?_ | refine AWP.skip ?_ | refine AWP.label ?_ | refine AWP.exit ?_ | refine AWP.block ?_ | refine cTa ?_ | refine cFa ?_) | simp only [qS, Nat.reduceEqDiff, ↓reduceIte]))
    (refine AWP.ret ?_; refine retOk2 (by simp only [go_sem, seval, ↓reduceIte, decide_true, decide_false, tabsO_fgt]; rfl) (by simp only [go_sem, seval, ↓reduceIte, decide_true, decide_false, tabsO_fgt]; rfl) (by simp) ?_)
    rw [hni]
set_option maxHeartbeats 1000000 in
theorem c_spec_l17Code_t (m : Int) (ll : List (List Int)) (hs : Sm ll) : AFn Try.prog 38 [.agg [.int .i64 m, .sl false 25 (rowsF ll)], .bool true] (.tup [.int .i64 (if anC m ll = 0 then rkV m ll else 0), .int .i64 (anC m ll)]) := by
  refine AFn.of' ttOk (by decide) Try.func38 Try.ntmps38 (by rw [Try.results38]) (by rfl) (by rfl) (by simp) (by decide) (by simp only [go_sem, Nat.reduceAdd, ↓reduceIte]; rfl) mixed (fun C hP hM hC => ?_)
  have hA := c_spec_l04Is m ll hs
  have hB := c_spec_l09Prime m
  cases hb : lawB m ll with
  | false =>
    have e : htC m ll = 1 := by simp [htC, hb]
    have e2 : hgC m ll = 1 := by simp [hgC, e]
    have e3 : anC m ll = 1 := by simp [anC, e2]
    rw [e3]
    (repeat (first | ((with_reducible refine rgn_cons rfl (fun K hK => ?_)); simp only [go_sem, seval, ↓reduceIte, decide_true, decide_false, hb]; (first | refine hK _ _ _ (by simp only [go_sem, Nat.reduceEqDiff, ↓reduceIte]; rfl) ?_ | refine ⟨_, hA, hK _ _ _ (by simp only [go_sem, Nat.reduceEqDiff, ↓reduceIte]; rfl) ?_⟩); clear hK; clear K) | (with_reducible first | refine rgn_nil (by first | trivial | kernel_rfl) ?_ | refine AWP.seq ?_ | refine tX hC hP (by kernel_rfl) ?_ | refine aX hC hM hP (by kernel_rfl) ?_ | refine AWP.skip ?_ | refine AWP.label ?_ | refine AWP.exit ?_ | refine AWP.block ?_ | refine cTa ?_ | refine cFa ?_) | simp only [qS, Nat.reduceEqDiff, ↓reduceIte]))
    (refine AWP.ret ?_; refine retOk2 (by simp only [go_sem, seval, ↓reduceIte, decide_true, decide_false]; rfl) (by simp only [go_sem, seval, ↓reduceIte, decide_true, decide_false]; rfl) (by simp) ?_)
    simp
  | true =>
    cases hp : prB m with
    | false =>
      have e : htC m ll = 5 := by simp [htC, hb, hp]
      have e2 : hgC m ll = 5 := by simp [hgC, e]
      have e3 : anC m ll = 5 := by simp [anC, e2]
      rw [e3]
      (repeat (first | ((with_reducible refine rgn_cons rfl (fun K hK => ?_)); simp only [go_sem, seval, ↓reduceIte, decide_true, decide_false, hb, hp]; (first | refine hK _ _ _ (by simp only [go_sem, Nat.reduceEqDiff, ↓reduceIte]; rfl) ?_ | refine ⟨_, hA, hK _ _ _ (by simp only [go_sem, Nat.reduceEqDiff, ↓reduceIte]; rfl) ?_⟩ | refine ⟨_, hB, hK _ _ _ (by simp only [go_sem, Nat.reduceEqDiff, ↓reduceIte]; rfl) ?_⟩); clear hK; clear K) | (with_reducible first | refine rgn_nil (by first | trivial | kernel_rfl) ?_ | refine AWP.seq ?_ | refine tX hC hP (by kernel_rfl) ?_ | refine aX hC hM hP (by kernel_rfl) ?_ | refine AWP.skip ?_ | refine AWP.label ?_ | refine AWP.exit ?_ | refine AWP.block ?_ | refine cTa ?_ | refine cFa ?_) | simp only [qS, Nat.reduceEqDiff, ↓reduceIte]))
      (refine AWP.ret ?_; refine retOk2 (by simp only [go_sem, seval, ↓reduceIte, decide_true, decide_false]; rfl) (by simp only [go_sem, seval, ↓reduceIte, decide_true, decide_false]; rfl) (by simp) ?_)
      simp
    | true =>
      have hc : htC m ll = 0 := by simp [htC, hb, hp]
      obtain ⟨p, d, h1, h2, h3, h4, h5, h6, h7, h8, h9, _, _⟩ := lw_prime hc
      have hV : rkV m ll = (htX m ll).1 := if_pos hc
      have hX := c_spec_l17Rank p (htX m ll).1 (htX m ll).2 d ll h2 h3 h7 h4 h5 h9
      rw [← h1] at hX
      have hE := ht_pos h2 h9
      by_cases h0 : (htX m ll).1 = 0
      · have e : hgC m ll = 4 := by simp [hgC, hc, hE.1 h0]
        have e3 : anC m ll = 4 := by simp [anC, e]
        rw [e3]
        rw [h0] at hX
        rw [Int.natCast_zero] at hX
        (repeat (first | ((with_reducible refine rgn_cons rfl (fun K hK => ?_)); simp only [go_sem, seval, ↓reduceIte, decide_true, decide_false, hb, hp, show ((0 : Int) == 0) = true from rfl]; (first | refine hK _ _ _ (by simp only [go_sem, Nat.reduceEqDiff, ↓reduceIte]; rfl) ?_ | refine ⟨_, hA, hK _ _ _ (by simp only [go_sem, Nat.reduceEqDiff, ↓reduceIte]; rfl) ?_⟩ | refine ⟨_, hB, hK _ _ _ (by simp only [go_sem, Nat.reduceEqDiff, ↓reduceIte]; rfl) ?_⟩ | refine ⟨_, hX, hK _ _ _ (by simp only [go_sem, Nat.reduceEqDiff, ↓reduceIte]; rfl) ?_⟩); clear hK; clear K) | (with_reducible first | refine rgn_nil (by first | trivial | kernel_rfl) ?_ | refine AWP.seq ?_ | refine tX hC hP (by kernel_rfl) ?_ | refine aX hC hM hP (by kernel_rfl) ?_ | refine AWP.skip ?_ | refine AWP.label ?_ | refine AWP.exit ?_ | refine AWP.block ?_ | refine cTa ?_ | refine cFa ?_) | simp only [qS, Nat.reduceEqDiff, ↓reduceIte]))
        (refine AWP.ret ?_; refine retOk2 (by simp only [go_sem, seval, ↓reduceIte, decide_true, decide_false]; rfl) (by simp only [go_sem, seval, ↓reduceIte, decide_true, decide_false]; rfl) (by simp) ?_)
        simp
      · have e : hgC m ll = 0 := by simp [hgC, hc, show (htX m ll).2 ≠ 0 from fun e => h0 (hE.2 e)]
        obtain ⟨_, _, q, g1, g2, g3, g4, g5, g6, g7, g8, g9, g10⟩ := an_facts e
        have hq : (htX m ll).1 = q := by omega
        rw [hq] at hX h0
        have hD := c_spec_l03Degree m ll (by omega)
        by_cases hd : (ll.length : Int) - 1 < 2 * ((q : Int) - 1)
        · have e3 : anC m ll = 3 := by rw [anC, if_pos e, g8, if_pos hd]
          rw [e3]
          (repeat (first | ((with_reducible refine rgn_cons rfl (fun K hK => ?_)); simp only [go_sem, seval, ↓reduceIte, decide_true, decide_false, hb, hp, show ((q : Int) == 0) = false by rw [beq_eq_false_iff_ne]; omega, wid ((q : Int) - 1) (by omega) (by omega), wid (2 * ((q : Int) - 1)) (by omega) (by omega), hd, decide_true]; (first | refine hK _ _ _ (by simp only [go_sem, Nat.reduceEqDiff, ↓reduceIte]; rfl) ?_ | refine ⟨_, hA, hK _ _ _ (by simp only [go_sem, Nat.reduceEqDiff, ↓reduceIte]; rfl) ?_⟩ | refine ⟨_, hB, hK _ _ _ (by simp only [go_sem, Nat.reduceEqDiff, ↓reduceIte]; rfl) ?_⟩ | refine ⟨_, hX, hK _ _ _ (by simp only [go_sem, Nat.reduceEqDiff, ↓reduceIte]; rfl) ?_⟩ | refine ⟨_, hD, hK _ _ _ (by simp only [go_sem, Nat.reduceEqDiff, ↓reduceIte]; rfl) ?_⟩); clear hK; clear K) | (with_reducible first | refine rgn_nil (by first | trivial | kernel_rfl) ?_ | refine AWP.seq ?_ | refine tX hC hP (by kernel_rfl) ?_ | refine aX hC hM hP (by kernel_rfl) ?_ | refine AWP.skip ?_ | refine AWP.label ?_ | refine AWP.exit ?_ | refine AWP.block ?_ | refine cTa ?_ | refine cFa ?_) | simp only [qS, Nat.reduceEqDiff, ↓reduceIte]))
          (refine AWP.ret ?_; refine retOk2 (by simp only [go_sem, seval, ↓reduceIte, decide_true, decide_false]; rfl) (by simp only [go_sem, seval, ↓reduceIte, decide_true, decide_false]; rfl) (by simp) ?_)
          simp
        · have e3 : anC m ll = 0 := by rw [anC, if_pos e, g8, if_neg hd]
          rw [e3, if_pos rfl, g8]
          (repeat (first | ((with_reducible refine rgn_cons rfl (fun K hK => ?_)); simp only [go_sem, seval, ↓reduceIte, decide_true, decide_false, hb, hp, show ((q : Int) == 0) = false by rw [beq_eq_false_iff_ne]; omega, wid ((q : Int) - 1) (by omega) (by omega), wid (2 * ((q : Int) - 1)) (by omega) (by omega), hd, decide_false]; (first | refine hK _ _ _ (by simp only [go_sem, Nat.reduceEqDiff, ↓reduceIte]; rfl) ?_ | refine ⟨_, hA, hK _ _ _ (by simp only [go_sem, Nat.reduceEqDiff, ↓reduceIte]; rfl) ?_⟩ | refine ⟨_, hB, hK _ _ _ (by simp only [go_sem, Nat.reduceEqDiff, ↓reduceIte]; rfl) ?_⟩ | refine ⟨_, hX, hK _ _ _ (by simp only [go_sem, Nat.reduceEqDiff, ↓reduceIte]; rfl) ?_⟩ | refine ⟨_, hD, hK _ _ _ (by simp only [go_sem, Nat.reduceEqDiff, ↓reduceIte]; rfl) ?_⟩); clear hK; clear K) | (with_reducible first | refine rgn_nil (by first | trivial | kernel_rfl) ?_ | refine AWP.seq ?_ | refine tX hC hP (by kernel_rfl) ?_ | refine aX hC hM hP (by kernel_rfl) ?_ | refine AWP.skip ?_ | refine AWP.label ?_ | refine AWP.exit ?_ | refine AWP.block ?_ | refine cTa ?_ | refine cFa ?_) | simp only [qS, Nat.reduceEqDiff, ↓reduceIte]))
          (refine AWP.ret ?_; refine retOk2 (by simp only [go_sem, seval, ↓reduceIte, decide_true, decide_false]; rfl) (by simp only [go_sem, seval, ↓reduceIte, decide_true, decide_false]; rfl) (by simp) ?_)
          rfl
theorem an_len {m : Int} {ll : List (List Int)} (h : anC m ll = 0) : (anL m ll).length ≤ 10 := by
  obtain ⟨p, d, q, h1, h2, h3, h4, h5, h6, h7, h8, h9, h10⟩ := an_facts (anC_zero h).1
  rw [anL, List.length_take, h8, Int.toNat_natCast]
  omega
set_option maxHeartbeats 1000000 in
theorem c_spec_AntipodeOf_ok (m : Int) (ll : List (List Int)) (hs : Sm ll) (h : anC m ll = 0) : AFn Try.prog 17 [.agg [.int .i64 m, .sl false 25 (rowsF ll)]] (.tup [.sl true 2 (intL (anL m ll)), .int .i64 (anC m ll)]) := by
  refine AFn.of' ttOk (by decide) Try.func17 Try.ntmps17 (by rw [Try.results17]) (by rfl) (by rfl) (by simp) (by decide) (by simp only [go_sem, Nat.reduceAdd, ↓reduceIte]; rfl) mixed (fun C hP hM hC => ?_)
  have hz := anC_zero h
  obtain ⟨p, d, q, h1, h2, h3, h4, h5, h6, h7, h8, h9, h10⟩ := an_facts hz.1
  have hcd := c_spec_l17Code_t m ll hs
  rw [h, if_pos rfl, h8] at hcd
  subst h1
  have hI := c_spec_l04Inverse (p : Int) ll d (by omega) (by omega) h7 h4 (by omega)
  have f := opiS_facts (m := (p : Int)) (by omega) (pc ll) d d
  have e : anL (p : Int) ll = (opiS (p : Int) (pc ll) d d).take q := by rw [anL, h8, Int.toNat_natCast, show ll.length - 1 = d by omega]
  have hO := c_spec_l01Own_pt ((opiS (p : Int) (pc ll) d d).take q) (by rw [List.length_take]; omega)
  rw [h, e]
  (repeat (first | ((with_reducible refine rgn_cons rfl (fun K hK => ?_)); simp only [go_sem, seval, ↓reduceIte, decide_true, decide_false, f.1, show (q : Int) ≤ ((d + 1 : Nat) : Int) by omega, Int.natCast_nonneg, Int.toNat_natCast, Int.toNat_zero, Int.le_refl, List.drop_zero, intL_freeze, intL_take, Nat.sub_zero, Option.isNone_some, Bool.false_eq_true]; (first | refine hK _ _ _ (by simp only [go_sem, Nat.reduceEqDiff, ↓reduceIte]; rfl) ?_ | refine ⟨_, hcd, hK _ _ _ (by simp only [go_sem, Nat.reduceEqDiff, ↓reduceIte]; rfl) ?_⟩ | refine ⟨_, hI, hK _ _ _ (by simp only [go_sem, Nat.reduceEqDiff, ↓reduceIte]; rfl) ?_⟩ | refine ⟨_, hO, hK _ _ _ (by simp only [go_sem, Nat.reduceEqDiff, ↓reduceIte]; rfl) ?_⟩); clear hK; clear K) | (with_reducible first | refine rgn_nil (by first | trivial | kernel_rfl) ?_ | refine AWP.seq ?_ | refine tX hC hP (by kernel_rfl) ?_ | refine aX hC hM hP (by kernel_rfl) ?_ | refine AWP.skip ?_ | refine AWP.label ?_ | refine AWP.exit ?_ | refine AWP.block ?_ | refine cTa ?_ | refine cFa ?_) | simp only [qS, Nat.reduceEqDiff, ↓reduceIte]))
  (refine AWP.ret ?_; refine retOk2 (by simp only [go_sem, seval, ↓reduceIte, decide_true, decide_false]; rfl) (by simp only [go_sem, seval, ↓reduceIte, decide_true, decide_false]; rfl) (by simp) ?_)
  rfl
set_option maxHeartbeats 1000000 in
theorem c_spec_AntipodeOf_no (m : Int) (ll : List (List Int)) (hs : Sm ll) (h : ¬ anC m ll = 0) : AFn Try.prog 17 [.agg [.int .i64 m, .sl false 25 (rowsF ll)]] (.tup [.nil, .int .i64 (anC m ll)]) := by
  refine AFn.of' ttOk (by decide) Try.func17 Try.ntmps17 (by rw [Try.results17]) (by rfl) (by rfl) (by simp) (by decide) (by simp only [go_sem, Nat.reduceAdd, ↓reduceIte]; rfl) mixed (fun C hP hM hC => ?_)
  (repeat (first | ((with_reducible refine rgn_cons rfl (fun K hK => ?_)); simp only [go_sem, seval, ↓reduceIte, decide_true, decide_false, show (anC m ll != 0) = true by simpa using h]; (first | refine hK _ _ _ (by simp only [go_sem, Nat.reduceEqDiff, ↓reduceIte]; rfl) ?_ | refine ⟨_, c_spec_l17Code_t m ll hs, hK _ _ _ (by simp only [go_sem, Nat.reduceEqDiff, ↓reduceIte]; rfl) ?_⟩); clear hK; clear K) | (with_reducible first | refine rgn_nil (by first | trivial | kernel_rfl) ?_ | refine AWP.seq ?_ | refine tX hC hP (by kernel_rfl) ?_ | refine aX hC hM hP (by kernel_rfl) ?_ | refine AWP.skip ?_ | refine AWP.label ?_ | refine AWP.exit ?_ | refine AWP.block ?_ | refine cTa ?_ | refine cFa ?_) | simp only [qS, Nat.reduceEqDiff, ↓reduceIte]))
  (refine AWP.ret ?_; refine retOk2 (by simp only [go_sem, seval, ↓reduceIte, decide_true, decide_false]; rfl) (by simp only [go_sem, seval, ↓reduceIte, decide_true, decide_false]; rfl) (by simp) ?_)
  rfl
set_option maxHeartbeats 1000000 in
theorem c_impl_AntipodeOf_ok (m : Int) (ll : List (List Int)) (hs : Sm ll) (h : anC m ll = 0) : AFn Try.prog 18 [.agg [.int .i64 m, .sl false 25 (rowsF ll)]] (.tup [.sl true 2 (intL (anL m ll)), .int .i64 (anC m ll)]) := by
  refine AFn.of' ttOk (by decide) Try.func18 Try.ntmps18 (by rw [Try.results18]) (by rfl) (by rfl) (by simp) (by decide) (by simp only [go_sem, Nat.reduceAdd, ↓reduceIte]; rfl) mixed (fun C hP hM hC => ?_)
  have hz := anC_zero h
  obtain ⟨p, d, q, h1, h2, h3, h4, h5, h6, h7, h8, h9, h10⟩ := an_facts hz.1
  have hcd := c_impl_kernelOf_ok m ll q hs hz.1 h8 (by rw [← h8]; exact hz.2)
  subst h1
  have hI := c_impl_Plane_inverse (p : Int) ll d (by omega) (by omega) h7 h4 (by omega)
  have f := opiS_facts (m := (p : Int)) (by omega) (pc ll) d d
  have e : anL (p : Int) ll = (opiS (p : Int) (pc ll) d d).take q := by rw [anL, h8, Int.toNat_natCast, show ll.length - 1 = d by omega]
  have hO := c_impl_copyOf_int64_pt ((opiS (p : Int) (pc ll) d d).take q) (by rw [List.length_take]; omega)
  rw [h, e]
  (repeat (first | ((with_reducible refine rgn_cons rfl (fun K hK => ?_)); simp only [go_sem, seval, ↓reduceIte, decide_true, decide_false, f.1, show (q : Int) ≤ ((d + 1 : Nat) : Int) by omega, Int.natCast_nonneg, Int.toNat_natCast, Int.toNat_zero, Int.le_refl, List.drop_zero, intL_freeze, intL_take, Nat.sub_zero, Option.isNone_some, Bool.false_eq_true]; (first | refine hK _ _ _ (by simp only [go_sem, Nat.reduceEqDiff, ↓reduceIte]; rfl) ?_ | refine ⟨_, hcd, hK _ _ _ (by simp only [go_sem, Nat.reduceEqDiff, ↓reduceIte]; rfl) ?_⟩ | refine ⟨_, hI, hK _ _ _ (by simp only [go_sem, Nat.reduceEqDiff, ↓reduceIte]; rfl) ?_⟩ | refine ⟨_, hO, hK _ _ _ (by simp only [go_sem, Nat.reduceEqDiff, ↓reduceIte]; rfl) ?_⟩); clear hK; clear K) | (with_reducible first | refine rgn_nil (by first | trivial | kernel_rfl) ?_ | refine AWP.seq ?_ | refine tX hC hP (by kernel_rfl) ?_ | refine aX hC hM hP (by kernel_rfl) ?_ | refine AWP.skip ?_ | refine AWP.label ?_ | refine AWP.exit ?_ | refine AWP.block ?_ | refine cTa ?_ | refine cFa ?_) | simp only [qS, Nat.reduceEqDiff, ↓reduceIte]))
  (refine AWP.ret ?_; refine retOk2 (by simp only [go_sem, seval, ↓reduceIte, decide_true, decide_false]; rfl) (by simp only [go_sem, seval, ↓reduceIte, decide_true, decide_false]; rfl) (by simp) ?_)
  rfl
set_option maxHeartbeats 1000000 in
theorem c_impl_AntipodeOf_no (m : Int) (ll : List (List Int)) (hs : Sm ll) (h : ¬ anC m ll = 0) : AFn Try.prog 18 [.agg [.int .i64 m, .sl false 25 (rowsF ll)]] (.tup [.nil, .int .i64 (anC m ll)]) := by
  refine AFn.of' ttOk (by decide) Try.func18 Try.ntmps18 (by rw [Try.results18]) (by rfl) (by rfl) (by simp) (by decide) (by simp only [go_sem, Nat.reduceAdd, ↓reduceIte]; rfl) mixed (fun C hP hM hC => ?_)
  by_cases hc : hgC m ll = 0
  · by_cases hd : (ll.length : Int) - 1 < 2 * (rkV m ll - 1)
    · have e : anC m ll = 3 := by rw [anC, if_pos hc, if_pos hd]
      rw [e]
      (repeat (first | ((with_reducible refine rgn_cons rfl (fun K hK => ?_)); simp only [go_sem, seval, ↓reduceIte, decide_true, decide_false, show ((3 : Int) != 0) = true by decide]; (first | refine hK _ _ _ (by simp only [go_sem, Nat.reduceEqDiff, ↓reduceIte]; rfl) ?_ | refine ⟨_, c_impl_kernelOf_no2 m ll hs hc hd, hK _ _ _ (by simp only [go_sem, Nat.reduceEqDiff, ↓reduceIte]; rfl) ?_⟩); clear hK; clear K) | (with_reducible first | refine rgn_nil (by first | trivial | kernel_rfl) ?_ | refine AWP.seq ?_ | refine tX hC hP (by kernel_rfl) ?_ | refine aX hC hM hP (by kernel_rfl) ?_ | refine AWP.skip ?_ | refine AWP.label ?_ | refine AWP.exit ?_ | refine AWP.block ?_ | refine cTa ?_ | refine cFa ?_) | simp only [qS, Nat.reduceEqDiff, ↓reduceIte]))
      (refine AWP.ret ?_; refine retOk2 (by simp only [go_sem, seval, ↓reduceIte, decide_true, decide_false]; rfl) (by simp only [go_sem, seval, ↓reduceIte, decide_true, decide_false]; rfl) (by simp) ?_)
      rfl
    · exact absurd (by rw [anC, if_pos hc, if_neg hd]) h
  · have e : anC m ll = hgC m ll := if_neg hc
    rw [e]
    (repeat (first | ((with_reducible refine rgn_cons rfl (fun K hK => ?_)); simp only [go_sem, seval, ↓reduceIte, decide_true, decide_false, show (hgC m ll != 0) = true by simpa using hc]; (first | refine hK _ _ _ (by simp only [go_sem, Nat.reduceEqDiff, ↓reduceIte]; rfl) ?_ | refine ⟨_, c_impl_kernelOf_no1 m ll hs hc, hK _ _ _ (by simp only [go_sem, Nat.reduceEqDiff, ↓reduceIte]; rfl) ?_⟩); clear hK; clear K) | (with_reducible first | refine rgn_nil (by first | trivial | kernel_rfl) ?_ | refine AWP.seq ?_ | refine tX hC hP (by kernel_rfl) ?_ | refine aX hC hM hP (by kernel_rfl) ?_ | refine AWP.skip ?_ | refine AWP.label ?_ | refine AWP.exit ?_ | refine AWP.block ?_ | refine cTa ?_ | refine cFa ?_) | simp only [qS, Nat.reduceEqDiff, ↓reduceIte]))
    (refine AWP.ret ?_; refine retOk2 (by simp only [go_sem, seval, ↓reduceIte, decide_true, decide_false]; rfl) (by simp only [go_sem, seval, ↓reduceIte, decide_true, decide_false]; rfl) (by simp) ?_)
    rfl

end Go.Proofs.Ytfnfdjomkohfjaa
