import Derived.Test.YtapdekacpecgiaaGreatQa
import Derived.Test.YtapdekacpecgiaaGreatKe
import Derived.Test.YtapdekacpecgiaaGreatLd
namespace Go.Proofs.YtapdekacpecgiaaGreat
open Go.RowKit
set_option linter.unusedSimpArgs false
set_option linter.unusedVariables false
set_option linter.unusedSectionVars false
set_option maxRecDepth 20000
set_option maxHeartbeats 1000000
def pwS (m : Int) (a : List Int) (d : Nat) : Nat → List Int
 | 0 => oneL d
 | k + 1 => timesL m (pwS m a d k) a d
theorem Fd {m : Int} (hm : 1 < m) (a : List Int) (d : Nat) : ∀ k, (pwS m a d k).length = d + 1 ∧ ∀ x ∈ pwS m a d k, 0 ≤ x ∧ x < m
 | 0 => ⟨Iq d, Ny d hm⟩
 | k + 1 => ⟨Bz _ _ _ _, G8 _ _ _ _ (by omega)⟩
def serO (m : Int) (L : List (List Int)) : List T := L.map fun l => (.agg [.int .i64 m, .sl true 2 (intL l)])
def serF (m : Int) (L : List (List Int)) : List T := L.map fun l => (.agg [.int .i64 m, .sl false 2 (intL l)])
theorem Ga (m : Int) (L : List (List Int)) : (serO m L).length = L.length := by simp [serO]
theorem Us (m : Int) (L : List (List Int)) : (serF m L).length = L.length := by simp [serF]
theorem Qg (m : Int) (L : List (List Int)) (i : Nat) (h : i < L.length) : (serO m L)[i]? = some (.agg [.int .i64 m, .sl true 2 (intL (L.getD i []))]) := by
 simp [serO, List.getD_eq_getElem?_getD, h]
theorem Jw (m : Int) (L : List (List Int)) (i : Nat) (h : i ≤ L.length) : T.sizeL ((serO m L).take i) = i * 2 := by
 rw [A9 (n := 2) (fun t ht => by
  have ht := List.mem_of_mem_take ht
  simp only [serO, List.mem_map] at ht
  obtain ⟨x, _, rfl⟩ := ht
  rfl)]
 simp [Ga]; omega
theorem Adq (m : Int) (L : List (List Int)) (l : List Int) : serO m L ++ [.agg [.int .i64 m, .sl true 2 (intL l)]] = serO m (L ++ [l]) := by simp [serO]
theorem K7 (m : Int) : ∀ (L : List (List Int)), T.refFreeL (serO m L) = true
 | [] => rfl
 | l :: L => by
  have := K7 m L
  simp only [serO, List.map_cons, T.refFreeL, T.refFree, Bool.and_true, Bool.true_and] at this ⊢
  simp [this, El]
theorem Nh (m : Int) : ∀ (L : List (List Int)), T.freezeL (serO m L) = serF m L
 | [] => rfl
 | l :: L => by
  have := Nh m L
  have e : T.freezeL (intL l) = intL l := B7 _ (Fb l)
  simp only [serO, serF, List.map_cons, T.freezeL, T.freeze, e] at this ⊢
  rw [this]
theorem H6 (m : Int) : ∀ (L : List (List Int)), T.pureL (serF m L) = true
 | [] => rfl
 | l :: L => by
  have := H6 m L
  simp only [serF, List.map_cons, T.pureL, T.pure, Bool.and_true, Bool.true_and] at this ⊢
  simp [this, Fb]
theorem Y0 (m : Int) (L : List (List Int)) : T.noOwnL (serF m L) = true := B6 _ (H6 m L)
theorem So (m : Int) (L : List (List Int)) : T.refFreeL (serF m L) = true := Bp _ (H6 m L)
theorem T7 (m : Int) : ∀ (L : List (List Int)), T.noFL (serO m L) = true
 | [] => rfl
 | l :: L => by
  have := T7 m L
  simp only [serO, List.map_cons, T.noFL, T.noF, Bool.and_true, Bool.true_and] at this ⊢
  simp [this, Jz]
attribute [go_sem] Nh K7 T7 H6 Y0 So Ga Us
def pwSL (m : Int) (a : List Int) (d k : Nat) : List (List Int) := (List.range k).map (pwS m a d)
theorem Cd (m : Int) (a : List Int) (d k : Nat) : (pwSL m a d k).length = k := by simp [pwSL]
theorem Fe {m : Int} {a : List Int} {d k i : Nat} (h : i < k) : (pwSL m a d k).getD i [] = pwS m a d i := by simp [pwSL, List.getD_eq_getElem?_getD, h]
theorem Qq (m : Int) (a : List Int) (d k : Nat) : pwSL m a d k ++ [pwS m a d k] = pwSL m a d (k + 1) := by simp [pwSL, List.range_succ]
set_option maxHeartbeats 1000000 in
theorem Ft (m : Int) (l : List Int) (d : Nat) (hm : 1 < m) (hm2 : m ≤ 10000) (ha : ∀ x ∈ l, 0 ≤ x ∧ x < m) (hl : l.length = d + 1) (hd : d ≤ 1000) : AFn Tryz.prog 173 [.agg [.int .i64 m, .sl false 2 (intL l)]] (.sl true 29 (serO m (pwSL m l d (d + 1)))) := by
 refine fO Tryz.func173 Tryz.ntmps173 (by rw [Tryz.results173]) fun C hP hM hC => ?_
 have e1 : (1 : Int) % m = 1 := Int.emod_eq_of_lt (by omega) (by omega)
 have h0 := Do m l 1 (by omega) (by omega) (by omega) (by omega)
 rw [e1, hl, W3] at h0
 have hD := At m l (by omega)
 rw [hl, show ((d + 1 : Nat) : Int) - 1 = (d : Int) by omega] at hD
 (repeat (first | ((with_reducible refine rC rfl fun K hK => ?_); simp only [go_sem, seval, ↓reduceIte]; (first | refine hK _ _ _ ?_ | refine ⟨_, h0, hK _ _ _ ?_⟩ | refine ⟨_, hD, hK _ _ _ ?_⟩); clear hK K) | (with_reducible first | refine rN ?_ | refine sQ ?_ | refine tY hC hP ?_ | refine aY hC hM hP ?_ | refine kQ ?_ | refine lQ ?_ | refine eQ ?_ | refine bQ ?_ | refine cTa ?_ | refine cFa ?_) | simp only [qS, Nat.reduceEqDiff, ↓reduceIte]))
 refine AWP.loop (fun w : Nat × Nat => [(9, ⟨0, .val (.int .i64 w.1)⟩), (8, ⟨1, .val (.int .i64 d)⟩), (3, ⟨w.2, .own (.sl true 29 (serO m (pwSL m l d (w.1 + 1))))⟩), (1, ⟨1, .own (.box 29 (.agg [.int .i64 m, .sl false 2 (intL l)]))⟩)]) (fun w => w.1 ≤ d) (fun w => d - w.1) (0, 1) (Nat.zero_le _) (fun i => rfl) ?_ (fun w hw => ?_)
 ·simp [Sub, lk, pwSL, pwS, serO]
 ·obtain ⟨i, v⟩ := w
  simp only at hw ⊢
  by_cases hi : i < d
  ·have hp := Fd hm l d i
   have hT := Eh m (pwS m l d i) l d (by omega) hm2 hp.2 ha hp.1 hl (by omega)
   have hii : i < (pwSL m l d (i + 1)).length := by rw [Cd]; omega
   have hs := Qq m l d (i + 1)
   rw [pwS] at hs
   (repeat (first | ((with_reducible refine rC rfl fun K hK => ?_); simp only [go_sem, seval, ↓reduceIte, show (i : Int) < (d : Int) by omega, Ga, Cd, show IntKind.i64.wrap (((i + 1 : Nat) : Int) - 1) = (i : Int) by rw [wid _ (by omega) (by omega)]; omega, Int.toNat_natCast, Int.natCast_nonneg, show (i : Int) < ((i + 1 : Nat) : Int) by omega, Qg _ _ _ hii, Jw _ _ _ (Nat.le_of_lt hii), Fe (show i < i + 1 by omega), Adq, hs, show i + 1 + 1 ≤ 1099511627776 by omega, show (i + 1 + 1) * 32 ≤ 140737488355328 by omega, wid ((i : Int) + 1) (by omega) (by omega)]; (first | refine hK _ _ _ ?_ | refine ⟨_, hT, hK _ _ _ ?_⟩); clear hK K) | (with_reducible first | refine rN ?_ | refine sQ ?_ | refine tY hC hP ?_ | refine aY hC hM hP ?_ | refine kQ ?_ | refine lQ ?_ | refine eQ ?_ | refine bQ ?_ | refine cTa ?_ | refine cFa ?_) | simp only [qS, Nat.reduceEqDiff, ↓reduceIte]))
   exact ⟨(i + 1, v + 1), by simp only; omega, by simp only; omega, by simp [Sub, lk]⟩
  ·(repeat (first | ((with_reducible refine rC rfl fun K hK => ?_); simp only [go_sem, seval, ↓reduceIte, show ¬ (i : Int) < (d : Int) by omega]; refine hK _ _ _ ?_; clear hK K) | (with_reducible first | refine rN ?_ | refine sQ ?_ | refine tY hC hP ?_ | refine aY hC hM hP ?_ | refine kQ ?_ | refine lQ ?_ | refine eQ ?_ | refine bQ ?_ | refine cTa ?_ | refine cFa ?_) | simp only [qS, Nat.reduceEqDiff, ↓reduceIte]))
   refine rt1 ?_
   rw [show i = d by omega]
theorem Hu (m : Int) (l : List Int) (d : Nat) (hm : 1 < m) (hm2 : m ≤ 10000) (ha : ∀ x ∈ l, 0 ≤ x ∧ x < m) (hl : l.length = d + 1) (hd : d ≤ 1000) : AFn Tryz.prog 175 [.int .i64 m, .sl false 2 (intL l)] (.sl true 27 (rowsO (pwSL m l d (d + 1)))) := by
 refine fO Tryz.func175 Tryz.ntmps175 (by rw [Tryz.results175]) fun C hP hM hC => ?_
 have h0 : 0 < (tab (d + 1) (fun _ => 0)).length := by rw [Ad]; omega
 (repeat (first | ((with_reducible refine rC rfl fun K hK => ?_); simp only [go_sem, seval, ↓reduceIte, hl, show IntKind.i64.wrap (((d + 1 : Nat) : Int) - 1) = (d : Int) by rw [wid _ (by omega) (by omega)]; omega, Int.toNat_natCast, Int.natCast_nonneg, show ((d + 1 : Nat) : Int) ≤ 1099511627776 by omega, Be, C6, Ad, Int.le_refl, Int.toNat_zero, show (0 : Int) < ((d + 1 : Nat) : Int) by omega, Ae _ _ h0, List.take_zero, Nat.zero_mul, Az, Mn, W3]; refine hK _ _ _ ?_; clear hK K) | (with_reducible first | refine rN ?_ | refine sQ ?_ | refine tY hC hP ?_ | refine aY hC hM hP ?_ | refine kQ ?_ | refine lQ ?_ | refine eQ ?_ | refine bQ ?_ | refine cTa ?_ | refine cFa ?_) | simp only [qS, Nat.reduceEqDiff, ↓reduceIte]))
 refine AWP.loop (fun w : Nat × Nat => [(8, ⟨0, .val (.int .i64 w.1)⟩), (7, ⟨w.2, .own (.sl true 27 (rowsO (pwSL m l d (w.1 + 1))))⟩), (5, ⟨0, .val (.int .i64 d)⟩), (0, ⟨0, .val (.int .i64 m)⟩), (1, ⟨0, .val (.sl false 2 (intL l))⟩)]) (fun w => w.1 ≤ d) (fun w => d - w.1) (0, 1) (Nat.zero_le _) (fun i => rfl) ?_ (fun w hw => ?_)
 ·simp [Sub, lk, pwSL, pwS, rowsO]
 ·obtain ⟨i, v⟩ := w
  simp only at hw ⊢
  by_cases hi : i < d
  ·have hp := Fd hm l d i
   have hT := Cy m (pwS m l d i) l d (by omega) hm2 hp.2 ha (by omega) (by omega) (by omega)
   have hii : i < (pwSL m l d (i + 1)).length := by rw [Cd]; omega
   have hs := Qq m l d (i + 1)
   rw [pwS] at hs
   (repeat (first | ((with_reducible refine rC rfl fun K hK => ?_); simp only [go_sem, seval, ↓reduceIte, show (i : Int) < (d : Int) by omega, Ai, Cd, Int.toNat_natCast, Int.natCast_nonneg, show (i : Int) < ((i + 1 : Nat) : Int) by omega, Au _ _ hii, An _ _ (Nat.le_of_lt hii), Nat.mul_one, Fe (show i < i + 1 by omega), E1, hs, show i + 1 + 1 ≤ 1099511627776 by omega, show (i + 1 + 1) * 24 ≤ 140737488355328 by omega, wid ((i : Int) + 1) (by omega) (by omega)]; (first | refine hK _ _ _ ?_ | refine ⟨_, hT, hK _ _ _ ?_⟩); clear hK K) | (with_reducible first | refine rN ?_ | refine sQ ?_ | refine tY hC hP ?_ | refine aY hC hM hP ?_ | refine kQ ?_ | refine lQ ?_ | refine eQ ?_ | refine bQ ?_ | refine cTa ?_ | refine cFa ?_) | simp only [qS, Nat.reduceEqDiff, ↓reduceIte]))
   exact ⟨(i + 1, v + 1), by simp only; omega, by simp only; omega, by simp [Sub, lk]⟩
  ·(repeat (first | ((with_reducible refine rC rfl fun K hK => ?_); simp only [go_sem, seval, ↓reduceIte, show ¬ (i : Int) < (d : Int) by omega]; refine hK _ _ _ ?_; clear hK K) | (with_reducible first | refine rN ?_ | refine sQ ?_ | refine tY hC hP ?_ | refine aY hC hM hP ?_ | refine kQ ?_ | refine lQ ?_ | refine eQ ?_ | refine bQ ?_ | refine cTa ?_ | refine cFa ?_) | simp only [qS, Nat.reduceEqDiff, ↓reduceIte]))
   refine rt1 ?_
   rw [show i = d by omega]
end Go.Proofs.YtapdekacpecgiaaGreat
