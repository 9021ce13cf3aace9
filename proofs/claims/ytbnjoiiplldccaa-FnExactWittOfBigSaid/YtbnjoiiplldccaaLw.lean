/-
  The laws' helpers: Witt vectors.
-/
import Derived.Test.YtbnjoiiplldccaaLcc
namespace Go.Proofs.Ytbnjoiiplldccaa
open Go.RowKit
set_option linter.unusedSimpArgs false
set_option linter.unusedVariables false
set_option linter.unusedSectionVars false
set_option maxRecDepth 20000
-- The laws' helpers: Witt vectors.
theorem c_laws_toWitt (p m : Int) (l : List Int) (hl : l.length ≤ 1099511627776) : AFn Try.prog 23 [.agg [.int .i64 p, .int .i64 m, .sl false 2 (intL l)]] (.agg [.int .i64 p, .int .i64 m, .sl true 2 (intL l)]) := by
  refine AFn.of' ttOk (by decide) Try.func23 Try.ntmps23 (by rw [Try.results23]) (by rfl) (by rfl) (by simp) (by decide) (by simp only [go_sem, Nat.reduceAdd, ↓reduceIte]; rfl) mixed (fun C hP hM hC => ?_)
  (repeat (first | ((with_reducible refine rgn_cons rfl (fun K hK => ?_)); simp only [go_sem, seval, ↓reduceIte, decide_true, decide_false]; (first | refine hK _ _ _ (by simp only [go_sem, Nat.reduceEqDiff, ↓reduceIte]; rfl) ?_ | refine ⟨_, c_laws_toInt64S l hl, hK _ _ _ (by simp only [go_sem, Nat.reduceEqDiff, ↓reduceIte]; rfl) ?_⟩); clear hK; clear K) | (with_reducible first | refine rgn_nil (by first | trivial | kernel_rfl) ?_ | refine AWP.seq ?_ | refine tX hC hP (by kernel_rfl) ?_ | refine aX hC hM hP (by kernel_rfl) ?_ | refine AWP.skip ?_ | refine AWP.label ?_ | refine AWP.exit ?_ | refine AWP.block ?_ | refine cT (by simp only [go_sem, Nat.reduceEqDiff, ↓reduceIte]; with_reducible rfl) ?_ | refine cF (by simp only [go_sem, Nat.reduceEqDiff, ↓reduceIte]; with_reducible rfl) ?_) | simp only [qS, Nat.reduceEqDiff, ↓reduceIte]))
  (refine AWP.ret ?_; first | refine retOk1 (by simp only [go_sem, seval, ↓reduceIte, decide_true, decide_false]; rfl) ?_ | refine retOk2 (by simp only [go_sem, seval, ↓reduceIte, decide_true, decide_false]; rfl) (by simp only [go_sem, seval, ↓reduceIte, decide_true, decide_false]; rfl) (by simp) ?_ | refine retOk3 (by simp only [go_sem, seval, ↓reduceIte, decide_true, decide_false]; rfl) (by simp only [go_sem, seval, ↓reduceIte, decide_true, decide_false]; rfl) (by simp only [go_sem, seval, ↓reduceIte, decide_true, decide_false]; rfl) (by simp) ?_)
  rfl
theorem c_laws_eqWitt (p m : Int) (l : List Int) (hl : l.length ≤ 1099511627776) : AFn Try.prog 25 [.agg [.int .i64 p, .int .i64 m, .sl false 2 (intL l)], .agg [.int .i64 p, .int .i64 m, .sl false 2 (intL l)]] (.bool true) := by
  refine AFn.of' ttOk (by decide) Try.func25 Try.ntmps25 (by rw [Try.results25]) (by rfl) (by rfl) (by simp) (by decide) (by simp only [go_sem, Nat.reduceAdd, ↓reduceIte]; rfl) mixed (fun C hP hM hC => ?_)
  (repeat (first | ((with_reducible refine rgn_cons rfl (fun K hK => ?_)); simp only [go_sem, seval, ↓reduceIte, decide_true, decide_false]; (first | refine hK _ _ _ (by simp only [go_sem, Nat.reduceEqDiff, ↓reduceIte]; rfl) ?_ | refine ⟨_, c_laws_eqInt64S l hl, hK _ _ _ (by simp only [go_sem, Nat.reduceEqDiff, ↓reduceIte]; rfl) ?_⟩); clear hK; clear K) | (with_reducible first | refine rgn_nil (by first | trivial | kernel_rfl) ?_ | refine AWP.seq ?_ | refine tX hC hP (by kernel_rfl) ?_ | refine aX hC hM hP (by kernel_rfl) ?_ | refine AWP.skip ?_ | refine AWP.label ?_ | refine AWP.exit ?_ | refine AWP.block ?_ | refine cT (by simp only [go_sem, Nat.reduceEqDiff, ↓reduceIte]; with_reducible rfl) ?_ | refine cF (by simp only [go_sem, Nat.reduceEqDiff, ↓reduceIte]; with_reducible rfl) ?_) | simp only [qS, Nat.reduceEqDiff, ↓reduceIte]))
  (refine AWP.ret ?_; first | refine retOk1 (by simp only [go_sem, seval, ↓reduceIte, decide_true, decide_false]; rfl) ?_ | refine retOk2 (by simp only [go_sem, seval, ↓reduceIte, decide_true, decide_false]; rfl) (by simp only [go_sem, seval, ↓reduceIte, decide_true, decide_false]; rfl) (by simp) ?_ | refine retOk3 (by simp only [go_sem, seval, ↓reduceIte, decide_true, decide_false]; rfl) (by simp only [go_sem, seval, ↓reduceIte, decide_true, decide_false]; rfl) (by simp only [go_sem, seval, ↓reduceIte, decide_true, decide_false]; rfl) (by simp) ?_)
  rfl
theorem c_laws_szWitt (p m : Int) (l : List Int) (left : Int) (hl : l.length ≤ 9223372036854775807) (h1 : 0 ≤ left) (h2 : left ≤ 1048576) : AFn Try.prog 21 [.agg [.int .i64 p, .int .i64 m, .sl false 2 (intL l)], .int .i64 left] (.int .i64 (szF l.length left)) := by
  refine AFn.of' ttOk (by decide) Try.func21 Try.ntmps21 (by rw [Try.results21]) (by rfl) (by rfl) (by simp) (by decide) (by simp only [go_sem, Nat.reduceAdd, ↓reduceIte]; rfl) mixed (fun C hP hM hC => ?_)
  by_cases h : szF l.length left < 0
  · (repeat (first | ((with_reducible refine rgn_cons rfl (fun K hK => ?_)); simp only [go_sem, seval, ↓reduceIte, decide_true, decide_false, h, decide_true]; (first | refine hK _ _ _ (by simp only [go_sem, Nat.reduceEqDiff, ↓reduceIte]; rfl) ?_ | refine ⟨_, c_laws_szInt64S l left hl h1 h2, hK _ _ _ (by simp only [go_sem, Nat.reduceEqDiff, ↓reduceIte]; rfl) ?_⟩); clear hK; clear K) | (with_reducible first | refine rgn_nil (by first | trivial | kernel_rfl) ?_ | refine AWP.seq ?_ | refine tX hC hP (by kernel_rfl) ?_ | refine aX hC hM hP (by kernel_rfl) ?_ | refine AWP.skip ?_ | refine AWP.label ?_ | refine AWP.exit ?_ | refine AWP.block ?_ | refine cT (by simp only [go_sem, Nat.reduceEqDiff, ↓reduceIte]; with_reducible rfl) ?_ | refine cF (by simp only [go_sem, Nat.reduceEqDiff, ↓reduceIte]; with_reducible rfl) ?_) | simp only [qS, Nat.reduceEqDiff, ↓reduceIte]))
    (refine AWP.ret ?_; first | refine retOk1 (by simp only [go_sem, seval, ↓reduceIte, decide_true, decide_false]; rfl) ?_ | refine retOk2 (by simp only [go_sem, seval, ↓reduceIte, decide_true, decide_false]; rfl) (by simp only [go_sem, seval, ↓reduceIte, decide_true, decide_false]; rfl) (by simp) ?_ | refine retOk3 (by simp only [go_sem, seval, ↓reduceIte, decide_true, decide_false]; rfl) (by simp only [go_sem, seval, ↓reduceIte, decide_true, decide_false]; rfl) (by simp only [go_sem, seval, ↓reduceIte, decide_true, decide_false]; rfl) (by simp) ?_)
    rw [szF_neg h h1]
  · (repeat (first | ((with_reducible refine rgn_cons rfl (fun K hK => ?_)); simp only [go_sem, seval, ↓reduceIte, decide_true, decide_false, h, decide_false]; (first | refine hK _ _ _ (by simp only [go_sem, Nat.reduceEqDiff, ↓reduceIte]; rfl) ?_ | refine ⟨_, c_laws_szInt64S l left hl h1 h2, hK _ _ _ (by simp only [go_sem, Nat.reduceEqDiff, ↓reduceIte]; rfl) ?_⟩); clear hK; clear K) | (with_reducible first | refine rgn_nil (by first | trivial | kernel_rfl) ?_ | refine AWP.seq ?_ | refine tX hC hP (by kernel_rfl) ?_ | refine aX hC hM hP (by kernel_rfl) ?_ | refine AWP.skip ?_ | refine AWP.label ?_ | refine AWP.exit ?_ | refine AWP.block ?_ | refine cT (by simp only [go_sem, Nat.reduceEqDiff, ↓reduceIte]; with_reducible rfl) ?_ | refine cF (by simp only [go_sem, Nat.reduceEqDiff, ↓reduceIte]; with_reducible rfl) ?_) | simp only [qS, Nat.reduceEqDiff, ↓reduceIte]))
    (refine AWP.ret ?_; first | refine retOk1 (by simp only [go_sem, seval, ↓reduceIte, decide_true, decide_false]; rfl) ?_ | refine retOk2 (by simp only [go_sem, seval, ↓reduceIte, decide_true, decide_false]; rfl) (by simp only [go_sem, seval, ↓reduceIte, decide_true, decide_false]; rfl) (by simp) ?_ | refine retOk3 (by simp only [go_sem, seval, ↓reduceIte, decide_true, decide_false]; rfl) (by simp only [go_sem, seval, ↓reduceIte, decide_true, decide_false]; rfl) (by simp only [go_sem, seval, ↓reduceIte, decide_true, decide_false]; rfl) (by simp) ?_)
    rfl
theorem c_laws_eqWitt_nil (p m : Int) : AFn Try.prog 25 [.agg [.int .i64 p, .int .i64 m, .nil], .agg [.int .i64 p, .int .i64 m, .nil]] (.bool true) := by
  refine AFn.of' ttOk (by decide) Try.func25 Try.ntmps25 (by rw [Try.results25]) (by rfl) (by rfl) (by simp) (by decide) (by simp only [go_sem, Nat.reduceAdd, ↓reduceIte]; rfl) mixed (fun C hP hM hC => ?_)
  (repeat (first | ((with_reducible refine rgn_cons rfl (fun K hK => ?_)); simp only [go_sem, seval, ↓reduceIte, decide_true, decide_false]; (first | refine hK _ _ _ (by simp only [go_sem, Nat.reduceEqDiff, ↓reduceIte]; rfl) ?_ | refine ⟨_, c_laws_eqInt64S_nil, hK _ _ _ (by simp only [go_sem, Nat.reduceEqDiff, ↓reduceIte]; rfl) ?_⟩); clear hK; clear K) | (with_reducible first | refine rgn_nil (by first | trivial | kernel_rfl) ?_ | refine AWP.seq ?_ | refine tX hC hP (by kernel_rfl) ?_ | refine aX hC hM hP (by kernel_rfl) ?_ | refine AWP.skip ?_ | refine AWP.label ?_ | refine AWP.exit ?_ | refine AWP.block ?_ | refine cT (by simp only [go_sem, Nat.reduceEqDiff, ↓reduceIte]; with_reducible rfl) ?_ | refine cF (by simp only [go_sem, Nat.reduceEqDiff, ↓reduceIte]; with_reducible rfl) ?_) | simp only [qS, Nat.reduceEqDiff, ↓reduceIte]))
  (refine AWP.ret ?_; first | refine retOk1 (by simp only [go_sem, seval, ↓reduceIte, decide_true, decide_false]; rfl) ?_ | refine retOk2 (by simp only [go_sem, seval, ↓reduceIte, decide_true, decide_false]; rfl) (by simp only [go_sem, seval, ↓reduceIte, decide_true, decide_false]; rfl) (by simp) ?_ | refine retOk3 (by simp only [go_sem, seval, ↓reduceIte, decide_true, decide_false]; rfl) (by simp only [go_sem, seval, ↓reduceIte, decide_true, decide_false]; rfl) (by simp only [go_sem, seval, ↓reduceIte, decide_true, decide_false]; rfl) (by simp) ?_)
  rfl
theorem c_laws_markWitt_nil (p m k : Int) : AFn Try.prog 26 [.agg [.int .i64 p, .int .i64 m, .nil], .int .i64 k] (.int .i64 k) := by
  refine AFn.of' ttOk (by decide) Try.func26 Try.ntmps26 (by rw [Try.results26]) (by rfl) (by rfl) (by simp) (by decide) (by simp only [go_sem, Nat.reduceAdd, ↓reduceIte]; rfl) mixed (fun C hP hM hC => ?_)
  (repeat (first | ((with_reducible refine rgn_cons rfl (fun K hK => ?_)); simp only [go_sem, seval, ↓reduceIte, decide_true, decide_false]; (first | refine hK _ _ _ (by simp only [go_sem, Nat.reduceEqDiff, ↓reduceIte]; rfl) ?_ | refine ⟨_, c_laws_markInt64S_nil k, hK _ _ _ (by simp only [go_sem, Nat.reduceEqDiff, ↓reduceIte]; rfl) ?_⟩); clear hK; clear K) | (with_reducible first | refine rgn_nil (by first | trivial | kernel_rfl) ?_ | refine AWP.seq ?_ | refine tX hC hP (by kernel_rfl) ?_ | refine aX hC hM hP (by kernel_rfl) ?_ | refine AWP.skip ?_ | refine AWP.label ?_ | refine AWP.exit ?_ | refine AWP.block ?_ | refine cT (by simp only [go_sem, Nat.reduceEqDiff, ↓reduceIte]; with_reducible rfl) ?_ | refine cF (by simp only [go_sem, Nat.reduceEqDiff, ↓reduceIte]; with_reducible rfl) ?_) | simp only [qS, Nat.reduceEqDiff, ↓reduceIte]))
  (refine AWP.ret ?_; first | refine retOk1 (by simp only [go_sem, seval, ↓reduceIte, decide_true, decide_false]; rfl) ?_ | refine retOk2 (by simp only [go_sem, seval, ↓reduceIte, decide_true, decide_false]; rfl) (by simp only [go_sem, seval, ↓reduceIte, decide_true, decide_false]; rfl) (by simp) ?_ | refine retOk3 (by simp only [go_sem, seval, ↓reduceIte, decide_true, decide_false]; rfl) (by simp only [go_sem, seval, ↓reduceIte, decide_true, decide_false]; rfl) (by simp only [go_sem, seval, ↓reduceIte, decide_true, decide_false]; rfl) (by simp) ?_)
  rfl
theorem c_laws_heldWitt_nil (p m k : Int) (hk : 0 ≤ k) : AFn Try.prog 34 [.agg [.int .i64 p, .int .i64 m, .nil], .int .i64 k] (.int .i64 k) := by
  refine AFn.of' ttOk (by decide) Try.func34 Try.ntmps34 (by rw [Try.results34]) (by rfl) (by rfl) (by simp) (by decide) (by simp only [go_sem, Nat.reduceAdd, ↓reduceIte]; rfl) mixed (fun C hP hM hC => ?_)
  have h : ¬ k < 0 := by omega
  (repeat (first | ((with_reducible refine rgn_cons rfl (fun K hK => ?_)); simp only [go_sem, seval, ↓reduceIte, decide_true, decide_false, h, decide_false]; (first | refine hK _ _ _ (by simp only [go_sem, Nat.reduceEqDiff, ↓reduceIte]; rfl) ?_ | refine ⟨_, c_laws_heldInt64S_nil k, hK _ _ _ (by simp only [go_sem, Nat.reduceEqDiff, ↓reduceIte]; rfl) ?_⟩); clear hK; clear K) | (with_reducible first | refine rgn_nil (by first | trivial | kernel_rfl) ?_ | refine AWP.seq ?_ | refine tX hC hP (by kernel_rfl) ?_ | refine aX hC hM hP (by kernel_rfl) ?_ | refine AWP.skip ?_ | refine AWP.label ?_ | refine AWP.exit ?_ | refine AWP.block ?_ | refine cT (by simp only [go_sem, Nat.reduceEqDiff, ↓reduceIte]; with_reducible rfl) ?_ | refine cF (by simp only [go_sem, Nat.reduceEqDiff, ↓reduceIte]; with_reducible rfl) ?_) | simp only [qS, Nat.reduceEqDiff, ↓reduceIte]))
  (refine AWP.ret ?_; first | refine retOk1 (by simp only [go_sem, seval, ↓reduceIte, decide_true, decide_false]; rfl) ?_ | refine retOk2 (by simp only [go_sem, seval, ↓reduceIte, decide_true, decide_false]; rfl) (by simp only [go_sem, seval, ↓reduceIte, decide_true, decide_false]; rfl) (by simp) ?_ | refine retOk3 (by simp only [go_sem, seval, ↓reduceIte, decide_true, decide_false]; rfl) (by simp only [go_sem, seval, ↓reduceIte, decide_true, decide_false]; rfl) (by simp only [go_sem, seval, ↓reduceIte, decide_true, decide_false]; rfl) (by simp) ?_)
  rfl
theorem c_laws_heldWitt (p m k : Int) (n : Nat) (h1 : 0 ≤ k) (h2 : k ≤ 1000000000000) (h3 : n ≤ 1099511627776) : AFn Try.prog 34 [.agg [.int .i64 p, .int .i64 m, .sl false 2 (intL (mks k n))], .int .i64 k] (.int .i64 (k + n)) := by
  refine AFn.of' ttOk (by decide) Try.func34 Try.ntmps34 (by rw [Try.results34]) (by rfl) (by rfl) (by simp) (by decide) (by simp only [go_sem, Nat.reduceAdd, ↓reduceIte]; rfl) mixed (fun C hP hM hC => ?_)
  have h : ¬ k + n < 0 := by omega
  (repeat (first | ((with_reducible refine rgn_cons rfl (fun K hK => ?_)); simp only [go_sem, seval, ↓reduceIte, decide_true, decide_false, h, decide_false]; (first | refine hK _ _ _ (by simp only [go_sem, Nat.reduceEqDiff, ↓reduceIte]; rfl) ?_ | refine ⟨_, c_laws_heldInt64S k n (by omega) h2 h3, hK _ _ _ (by simp only [go_sem, Nat.reduceEqDiff, ↓reduceIte]; rfl) ?_⟩); clear hK; clear K) | (with_reducible first | refine rgn_nil (by first | trivial | kernel_rfl) ?_ | refine AWP.seq ?_ | refine tX hC hP (by kernel_rfl) ?_ | refine aX hC hM hP (by kernel_rfl) ?_ | refine AWP.skip ?_ | refine AWP.label ?_ | refine AWP.exit ?_ | refine AWP.block ?_ | refine cT (by simp only [go_sem, Nat.reduceEqDiff, ↓reduceIte]; with_reducible rfl) ?_ | refine cF (by simp only [go_sem, Nat.reduceEqDiff, ↓reduceIte]; with_reducible rfl) ?_) | simp only [qS, Nat.reduceEqDiff, ↓reduceIte]))
  (refine AWP.ret ?_; first | refine retOk1 (by simp only [go_sem, seval, ↓reduceIte, decide_true, decide_false]; rfl) ?_ | refine retOk2 (by simp only [go_sem, seval, ↓reduceIte, decide_true, decide_false]; rfl) (by simp only [go_sem, seval, ↓reduceIte, decide_true, decide_false]; rfl) (by simp) ?_ | refine retOk3 (by simp only [go_sem, seval, ↓reduceIte, decide_true, decide_false]; rfl) (by simp only [go_sem, seval, ↓reduceIte, decide_true, decide_false]; rfl) (by simp only [go_sem, seval, ↓reduceIte, decide_true, decide_false]; rfl) (by simp) ?_)
  rfl
open Go.Sort
set_option maxHeartbeats 1000000 in
theorem mark_witt (p m : Int) (l : List Int) (k : Int) (b cap : Nat) (w : World) (hb : b < w.heap.size) (hH : Holds (Value.int .i64) w b 0 l.toArray) (h1 : -1000000000000 ≤ k) (h2 : k ≤ 1000000000000) (h3 : l.length ≤ 1099511627776) :
    Calls Try.prog 26 #[.agg #[.int .i64 p, .int .i64 m, .slice (some ⟨b, 0, none⟩) l.length cap], .int .i64 k] w fun e w' => e = .returned (.int .i64 (k + l.length)) ∧ ∃ o, w' = putRow (Value.int .i64) (w.alloc o) b 0 (mkA k l l.length).toArray := by
  have hH1 := holds_alloc hb (.cells #[.int .i64 p, .int .i64 m, .slice (some ⟨b, 0, none⟩) l.length cap] 42) hH
  have H1 := Lib.hid hH1
  clear hH1 hH
  go_enter Try.func26, Try.ntmps26
  go_wp2_with (go_at_call 20; refine (mark_walk l k b cap _ H1.out h1 h2 h3).mono ?_; rintro e w' ⟨rfl, rfl⟩)
  go_ret
  exact ⟨rfl, _, rfl⟩
theorem io_markWitt (p m : Int) (l : List Int) (k : Int) (h1 : -1000000000000 ≤ k) (h2 : k ≤ 1000000000000) (h3 : l.length ≤ 1099511627776) :
    AFn Try.prog (1000000 + 26) [.agg [.int .i64 p, .int .i64 m, .sl true 2 (intL l)], .int .i64 k] (.tup [.int .i64 (k + l.length), .agg [.int .i64 p, .int .i64 m, .sl true 2 (intL (mks k l.length))]]) := by
  refine AFn_io.2 ⟨⟨_, Try.func26, by rfl, by rfl⟩, _, _, _, _, _, _, rfl, rfl, by simp [T.refFree, T.refFreeL, intL_refFree], .inr ⟨_, _, rfl, rfl, fun j => ?_, fun j t hj hn => ?_⟩, fun w v κ hcol hinj hrf hVR => ?_⟩
  · match j with
    | 0 => rfl
    | 1 => rfl
    | 2 => rfl
    | j + 3 => simp [T.sizeL, T.size]
  · match j, hj with
    | 0, hj => simp at hj; subst hj; simp [T.isNode] at hn
    | 1, hj => simp at hj; subst hj; simp [T.isNode] at hn
    | 2, hj => exact ⟨_, rfl, rfl⟩
    | j + 3, hj => simp at hj
  · obtain ⟨cs, rfl, e2⟩ := hVR
    simp only [CR, CRL, T.size] at e2
    obtain ⟨e3, e4, e6, e5⟩ := e2
    match cs, e3, e4, e6, e5 with
    | [c0, c1, c2], e3, e4, e6, _ =>
      simp only [List.take_succ_cons, List.take_zero, List.cons.injEq, and_true] at e3
      subst e3
      simp only [List.drop_succ_cons, List.drop_zero, List.take_succ_cons, List.take_zero, List.cons.injEq, and_true] at e4
      subst e4
      simp only [List.drop_succ_cons, List.drop_zero, List.take_succ_cons, List.take_zero] at e6
      obtain ⟨b, cap, cur, rfl, hb, hk, hl, hH, hback⟩ := markable (l := l) (s := 0) (p := [] ++ [0 + 1 + 1]) (by simp only [CR]; exact e6)
      have hbs : b < w.heap.size := hcol b _ _ _ hk
      refine (mark_witt p m l k b cap w hbs hH h1 h2 h3).mono fun e w' ⟨he, o, hw⟩ => ?_
      rw [mkA_full] at hw
      subst hw
      have hal : ∀ c, c < w.heap.size → (w.alloc o).heap[c]? = w.heap[c]? := fun c hc => Below.heap_alloc w o c hc
      refine ⟨he, rfl, rfl, rfl, by simp [putRow, mapBlock], fun c hc hn => ?_, ⟨[.int .i64 p, .int .i64 m, .slice (some ⟨b, 0, none⟩) l.length cap], rfl, ?_⟩⟩
      · rw [putRow_other (fun e => by rw [e, hk] at hn; cases hn), hal c hc]
      · have hx := hback (putRow (Value.int .i64) (w.alloc o) b 0 (mks k l.length).toArray) κ 0 ([] ++ [0 + 1 + 1]) (mks k l.length) (mks_length _ _) (putRow_heap (by rw [hal b hbs]; exact hb) _) hk
        simp only [CR, CRL, T.size, List.take_succ_cons, List.take_zero, List.drop_succ_cons, List.drop_zero]
        simp only [CR] at hx
        exact ⟨trivial, trivial, hx, trivial⟩
    | [], e3, _, _, _ => simp at e3
    | [c0], _, e4, _, _ => simp at e4
    | [c0, c1], _, _, e6, _ => simp at e6
    | c0 :: c1 :: c2 :: c3 :: cs, _, _, _, e5 => simp at e5
end Go.Proofs.Ytbnjoiiplldccaa
