import Derived.Test.YtapdekacpecgiaaGreatKd
namespace Go.Proofs.YtapdekacpecgiaaGreat
open Go.RowKit
set_option linter.unusedSimpArgs false
set_option linter.unusedVariables false
set_option linter.unusedSectionVars false
set_option maxRecDepth 20000
set_option maxHeartbeats 1000000
def numP (m c : Int) (n : Nat) : List (List Int) := tab2 n (fun u v => if u = 0 ∧ v = 0 then c % m else 0)
theorem Xr {m : Int} (hm : 0 < m) (c : Int) (n : Nat) : Pl m n (numP m c n) := Pl.tab2 hm fun u v _ => by
 split
 ·exact As _ m hm
 ·omega
theorem Di (m c : Int) (ll : List (List Int)) (n : Nat) (hm : 0 < m) (hm2 : m ≤ 10000) (hl : ll.length = n) (hn : 1 ≤ n) (hn2 : n ≤ 1000) : AFn Tryz.prog 172 [.agg [.int .i64 m, .sl false 27 (rowsF ll)], .int .i64 c] (.agg [.int .i64 m, .sl true 27 (rowsO (numP m c n))]) := by
 refine fO Tryz.func172 Tryz.ntmps172 (by rw [Tryz.results172]) fun C hP hM hC => ?_
 have hZ0 := C7 m (n - 1) (by omega)
 rw [show n - 1 + 1 = n by omega] at hZ0
 have hD := A5 m ll (by omega)
 rw [hl, show (n : Int) - 1 = ((n - 1 : Nat) : Int) by omega] at hD
 have h0 : 0 < (tab2 n (fun _ _ => 0)).length := by rw [Am]; omega
 have hrow : (tab2 n (fun _ _ => 0)).getD 0 [] = tab n (fun _ => 0) := by rw [Bu (by omega), Nat.sub_zero]
 have h1 : 0 < (tab n (fun _ => (0 : Int))).length := by rw [Ad]; omega
 have hst : (tab2 n (fun _ _ => 0)).set 0 ((tab n (fun _ => 0)).set 0 (c % m)) = numP m c n := D8 (fun a b _ => rfl)
 (repeat (first | ((with_reducible refine rC rfl fun K hK => ?_); simp only [go_sem, seval, ↓reduceIte, Int.le_refl, Int.toNat_zero, Au _ _ h0, An _ _ (Nat.le_of_lt h0), Ai, Am, show (0 : Int) < (n : Int) by omega, hrow, List.take_zero, If, Nat.zero_mul, Nat.mul_one, Ae _ _ h1, Ab _ _ (Nat.le_of_lt h1), Ad, Nat.sub_zero, Bq _ _ _ _ h0, hst]; (first | refine hK _ _ _ ?_ | refine ⟨_, hD, hK _ _ _ ?_⟩ | refine ⟨_, hZ0, hK _ _ _ ?_⟩ | refine ⟨_, Co c m hm (by omega), hK _ _ _ ?_⟩); clear hK K) | (with_reducible first | refine rN ?_ | refine sQ ?_ | refine tY hC hP ?_ | refine aY hC hM hP ?_ | refine kQ ?_ | refine lQ ?_ | refine eQ ?_ | refine bQ ?_ | refine cTa ?_ | refine cFa ?_) | simp only [qS, Nat.reduceEqDiff, ↓reduceIte]))
 refine rt1 ?_
 rfl
def pwP (m : Int) (n : Nat) (t : Nat → Nat → Int) : Nat → List (List Int)
 | 0 => numP m 1 n
 | k + 1 => pmul m n (pc (pwP m n t k)) t
theorem Sg {m : Int} (hm : 0 < m) (n : Nat) (t : Nat → Nat → Int) : ∀ k, Pl m n (pwP m n t k)
 | 0 => Xr hm 1 n
 | k + 1 => Eq hm n _ _
def plO (m : Int) (L : List (List (List Int))) : List T := L.map fun ll => (.agg [.int .i64 m, .sl true 27 (rowsO ll)])
def plF (m : Int) (L : List (List (List Int))) : List T := L.map fun ll => (.agg [.int .i64 m, .sl false 27 (rowsF ll)])
theorem Jp (m : Int) (L : List (List (List Int))) : (plO m L).length = L.length := by simp [plO]
theorem Kc (m : Int) (L : List (List (List Int))) : (plF m L).length = L.length := by simp [plF]
theorem Ajk (m : Int) (L : List (List (List Int))) (i : Nat) (h : i < L.length) : (plO m L)[i]? = some (.agg [.int .i64 m, .sl true 27 (rowsO (L.getD i []))]) := by
 simp [plO, List.getD_eq_getElem?_getD, h]
theorem S5 (m : Int) (L : List (List (List Int))) (i : Nat) (h : i < L.length) : (plF m L).getD i .any = (.agg [.int .i64 m, .sl false 27 (rowsF (L.getD i []))]) := by
 simp [plF, List.getD_eq_getElem?_getD, h]
theorem Ad1 (m : Int) (L : List (List (List Int))) (i : Nat) (h : i ≤ L.length) : T.sizeL ((plO m L).take i) = i * 2 := by
 rw [A9 (n := 2) (fun t ht => by
  have ht := List.mem_of_mem_take ht
  simp only [plO, List.mem_map] at ht
  obtain ⟨x, _, rfl⟩ := ht
  rfl)]
 simp [Jp]; omega
theorem Ae4 (m : Int) (L : List (List (List Int))) (ll : List (List Int)) : plO m L ++ [.agg [.int .i64 m, .sl true 27 (rowsO ll)]] = plO m (L ++ [ll]) := by simp [plO]
theorem Nd (m : Int) : ∀ (L : List (List (List Int))), T.refFreeL (plO m L) = true
 | [] => rfl
 | ll :: L => by
  have := Nd m L
  simp only [plO, List.map_cons, T.refFreeL, T.refFree, Bool.and_true, Bool.true_and] at this ⊢
  simp [this, Kk]
theorem J4 (m : Int) : ∀ (L : List (List (List Int))), T.freezeL (plO m L) = plF m L
 | [] => rfl
 | ll :: L => by
  have := J4 m L
  simp only [plO, plF, List.map_cons, T.freezeL, T.freeze] at this ⊢
  rw [this, Fh]
theorem Ht (m : Int) : ∀ (L : List (List (List Int))), T.pureL (plF m L) = true
 | [] => rfl
 | ll :: L => by
  have := Ht m L
  simp only [plF, List.map_cons, T.pureL, T.pure, Bool.and_true, Bool.true_and] at this ⊢
  simp [this, Cn]
theorem Aa4 (m : Int) (L : List (List (List Int))) : T.noOwnL (plF m L) = true := B6 _ (Ht m L)
theorem V5 (m : Int) (L : List (List (List Int))) : T.refFreeL (plF m L) = true := Bp _ (Ht m L)
theorem Xq (m : Int) : ∀ (L : List (List (List Int))), T.noFL (plO m L) = true
 | [] => rfl
 | ll :: L => by
  have := Xq m L
  simp only [plO, List.map_cons, T.noFL, T.noF, Bool.and_true, Bool.true_and] at this ⊢
  simp [this, Id]
attribute [go_sem] J4 Nd Xq Ht Aa4 V5 Jp Kc
def pwL2 (m : Int) (n : Nat) (t : Nat → Nat → Int) (k : Nat) : List (List (List Int)) := (List.range k).map (pwP m n t)
theorem Ed (m : Int) (n : Nat) (t : Nat → Nat → Int) (k : Nat) : (pwL2 m n t k).length = k := by simp [pwL2]
theorem Lk {m : Int} {n : Nat} {t : Nat → Nat → Int} {k i : Nat} (h : i < k) : (pwL2 m n t k).getD i [] = pwP m n t i := by simp [pwL2, List.getD_eq_getElem?_getD, h]
theorem Ace (m : Int) (n : Nat) (t : Nat → Nat → Int) (k : Nat) : pwL2 m n t k ++ [pwP m n t k] = pwL2 m n t (k + 1) := by simp [pwL2, List.range_succ]
set_option maxHeartbeats 1000000 in
theorem Kv (m : Int) (ll : List (List Int)) (n : Nat) (hm : 0 < m) (hm2 : m ≤ 10000) (hl : Pl m n ll) (hn : 1 ≤ n) (hn2 : n ≤ 1000) : AFn Tryz.prog 250 [.agg [.int .i64 m, .sl false 27 (rowsF ll)]] (.sl true 26 (plO m (pwL2 m n (pc ll) n))) := by
 refine fO Tryz.func250 Tryz.ntmps250 (by rw [Tryz.results250]) fun C hP hM hC => ?_
 have hD := A5 m ll (by rw [hl.len]; omega)
 rw [hl.len, show (n : Int) - 1 = ((n - 1 : Nat) : Int) by omega] at hD
 (repeat (first | ((with_reducible refine rC rfl fun K hK => ?_); simp only [go_sem, seval, ↓reduceIte]; (first | refine hK _ _ _ ?_ | refine ⟨_, hD, hK _ _ _ ?_⟩ | refine ⟨_, Di m 1 ll n hm hm2 hl.len hn hn2, hK _ _ _ ?_⟩); clear hK K) | (with_reducible first | refine rN ?_ | refine sQ ?_ | refine tY hC hP ?_ | refine aY hC hM hP ?_ | refine kQ ?_ | refine lQ ?_ | refine eQ ?_ | refine bQ ?_ | refine cTa ?_ | refine cFa ?_) | simp only [qS, Nat.reduceEqDiff, ↓reduceIte]))
 refine AWP.loop (fun w : Nat × Nat => [(9, ⟨0, .val (.int .i64 w.1)⟩), (8, ⟨1, .val (.int .i64 (n - 1 : Nat))⟩), (3, ⟨w.2, .own (.sl true 26 (plO m (pwL2 m n (pc ll) (w.1 + 1))))⟩), (1, ⟨1, .own (.box 26 (.agg [.int .i64 m, .sl false 27 (rowsF ll)]))⟩)]) (fun w => w.1 + 1 ≤ n) (fun w => n - w.1) (0, 1) (by simp only; omega) (fun i => rfl) ?_ (fun w hw => ?_)
 ·simp [Sub, lk, pwL2, pwP, plO]
 ·obtain ⟨i, v⟩ := w
  simp only at hw ⊢
  by_cases hi : i + 1 < n
  ·have hT := Gr m (pwP m n (pc ll) i) ll n hm hm2 (Sg hm n _ i) hl hn hn2
   have hii : i < (pwL2 m n (pc ll) (i + 1)).length := by rw [Ed]; omega
   have hs := Ace m n (pc ll) (i + 1)
   rw [pwP] at hs
   (repeat (first | ((with_reducible refine rC rfl fun K hK => ?_); simp only [go_sem, seval, ↓reduceIte, show (i : Int) < ((n - 1 : Nat) : Int) by omega, Jp, Ed, show IntKind.i64.wrap (((i + 1 : Nat) : Int) - 1) = (i : Int) by rw [wid _ (by omega) (by omega)]; omega, Int.toNat_natCast, Int.natCast_nonneg, show (i : Int) < ((i + 1 : Nat) : Int) by omega, Ajk _ _ _ hii, Ad1 _ _ _ (Nat.le_of_lt hii), Lk (show i < i + 1 by omega), Ir, Ae4, hs, show i + 1 + 1 ≤ 1099511627776 by omega, show (i + 1 + 1) * 32 ≤ 140737488355328 by omega, wid ((i : Int) + 1) (by omega) (by omega)]; (first | refine hK _ _ _ ?_ | refine ⟨_, hT, hK _ _ _ ?_⟩); clear hK K) | (with_reducible first | refine rN ?_ | refine sQ ?_ | refine tY hC hP ?_ | refine aY hC hM hP ?_ | refine kQ ?_ | refine lQ ?_ | refine eQ ?_ | refine bQ ?_ | refine cTa ?_ | refine cFa ?_) | simp only [qS, Nat.reduceEqDiff, ↓reduceIte]))
   exact ⟨(i + 1, v + 1), by simp only; omega, by simp only; omega, by simp [Sub, lk]⟩
  ·(repeat (first | ((with_reducible refine rC rfl fun K hK => ?_); simp only [go_sem, seval, ↓reduceIte, show ¬ (i : Int) < ((n - 1 : Nat) : Int) by omega]; refine hK _ _ _ ?_; clear hK K) | (with_reducible first | refine rN ?_ | refine sQ ?_ | refine tY hC hP ?_ | refine aY hC hM hP ?_ | refine kQ ?_ | refine lQ ?_ | refine eQ ?_ | refine bQ ?_ | refine cTa ?_ | refine cFa ?_) | simp only [qS, Nat.reduceEqDiff, ↓reduceIte]))
   refine rt1 ?_
   rw [show n = i + 1 by omega]
end Go.Proofs.YtapdekacpecgiaaGreat
