/-
  FnSubstitutions: its parts.
-/
import Derived.Test.YtapdekacpecgiaaGreatSyc
import Derived.Test.YtapdekacpecgiaaGreatSw
import Derived.Test.YtapdekacpecgiaaGreatVz
namespace Go.Proofs.YtapdekacpecgiaaGreat
open Go.RowKit
set_option linter.unusedSimpArgs false
set_option linter.unusedVariables false
set_option linter.unusedSectionVars false
set_option maxRecDepth 20000
-- FnSubstitutions: its parts.
theorem AWP.tailS {C : Ctx} {n : Nat} {Q : Exit → Env → Prop} {env : Env} {c : Code} {J : Type} (k : Nat) (E : J → Env) (p : J → Prop) (h : ∀ j, p j → AWP C n (dropSeq k c) Q (E j)) (h2 : ∀ R, (∀ j, p j → AWP C n R Q (E j)) → AWP C n (putSeq k R c) Q env) : AWP C n c Q env := by
  have h3 := h2 _ h
  rwa [putSeq_drop] at h3
set_option maxHeartbeats 1000000 in
theorem c_laws_rows5_nil  : AFn Tryz.prog 79 [.nil, .nil] (.bool true) := by
  refine AFn.of' ttOk (by decide) Tryz.func79 Tryz.ntmps79 (by rw [Tryz.results79]) (by rfl) (by rfl) (by simp) (by decide) (by simp only [go_sem, Nat.reduceAdd, ↓reduceIte]; rfl) mixed (fun C hP hM hC => ?_)
  (repeat (first | ((with_reducible refine rgn_cons rfl (fun K hK => ?_)); simp only [go_sem, seval, ↓reduceIte, decide_true, decide_false, bne_self_eq_false]; (refine hK _ _ _ (by simp only [go_sem, Nat.reduceEqDiff, ↓reduceIte]; rfl) ?_); clear hK; clear K) | (with_reducible first | refine rgn_nil (by first | trivial | kernel_rfl) ?_ | refine AWP.seq ?_ | refine tX hC hP (by kernel_rfl) ?_ | refine aX hC hM hP (by kernel_rfl) ?_ | refine AWP.skip ?_ | refine AWP.label ?_ | refine AWP.exit ?_ | refine AWP.block ?_ | refine cTa ?_ | refine cFa ?_) | simp only [qS, Nat.reduceEqDiff, ↓reduceIte]))
  refine AWP.loop (fun i : Nat => [(5, ⟨0, .val (.int .i64 0)⟩), (0, ⟨0, .val (.nil)⟩), (1, ⟨0, .val (.nil)⟩)]) (fun i => True) (fun i => 0) 0 trivial (fun i => rfl) ?_ (fun i hi => ?_)
  · simp [Sub, lk]
  · (repeat (first | ((with_reducible refine rgn_cons rfl (fun K hK => ?_)); simp only [go_sem, seval, ↓reduceIte, decide_true, decide_false, show ¬ (0 : Int) < 0 by omega, decide_false]; (refine hK _ _ _ (by simp only [go_sem, Nat.reduceEqDiff, ↓reduceIte]; rfl) ?_); clear hK; clear K) | (with_reducible first | refine rgn_nil (by first | trivial | kernel_rfl) ?_ | refine AWP.seq ?_ | refine tX hC hP (by kernel_rfl) ?_ | refine aX hC hM hP (by kernel_rfl) ?_ | refine AWP.skip ?_ | refine AWP.label ?_ | refine AWP.exit ?_ | refine AWP.block ?_ | refine cTa ?_ | refine cFa ?_) | simp only [qS, Nat.reduceEqDiff, ↓reduceIte]))
    (refine AWP.ret ?_; refine retOk1 (by simp only [go_sem, seval, ↓reduceIte, decide_true, decide_false]; rfl) ?_)
    rfl
set_option maxHeartbeats 1000000 in
theorem c_laws_plane5_nil (m : Int) : AFn Tryz.prog 13 [.agg [.int .i64 m, .nil], .agg [.int .i64 m, .nil]] (.bool true) := by
  refine AFn.of' ttOk (by decide) Tryz.func13 Tryz.ntmps13 (by rw [Tryz.results13]) (by rfl) (by rfl) (by simp) (by decide) (by simp only [go_sem, Nat.reduceAdd, ↓reduceIte]; rfl) mixed (fun C hP hM hC => ?_)
  (repeat (first | ((with_reducible refine rgn_cons rfl (fun K hK => ?_)); simp only [go_sem, seval, ↓reduceIte, decide_true, decide_false, beq_self_eq_true]; (first | refine hK _ _ _ (by simp only [go_sem, Nat.reduceEqDiff, ↓reduceIte]; rfl) ?_ | refine ⟨_, c_laws_rows5_nil, hK _ _ _ (by simp only [go_sem, Nat.reduceEqDiff, ↓reduceIte]; rfl) ?_⟩); clear hK; clear K) | (with_reducible first | refine rgn_nil (by first | trivial | kernel_rfl) ?_ | refine AWP.seq ?_ | refine tX hC hP (by kernel_rfl) ?_ | refine aX hC hM hP (by kernel_rfl) ?_ | refine AWP.skip ?_ | refine AWP.label ?_ | refine AWP.exit ?_ | refine AWP.block ?_ | refine cTa ?_ | refine cFa ?_) | simp only [qS, Nat.reduceEqDiff, ↓reduceIte]))
  (refine AWP.ret ?_; refine retOk1 (by simp only [go_sem, seval, ↓reduceIte, decide_true, decide_false]; rfl) ?_)
  rfl
theorem serS {m : Int} {l : List Int} {n : Nat} (h1 : 2 ≤ m) (h2 : m ≤ 10000) (h3 : l.length = n) (h4 : 2 ≤ n) (h5 : n ≤ 11) (h6 : ∀ x ∈ l, 0 ≤ x ∧ x < m) : isSer m l = true := by
  simp only [isSer, Bool.and_eq_true, decide_eq_true_eq, List.all_eq_true, isNum]
  exact ⟨⟨⟨h1, h2⟩, by omega, by omega⟩, fun x hx => by have := h6 x hx; omega⟩
theorem plS {m : Int} {t : List (List Int)} {n : Nat} (h1 : 2 ≤ m) (h2 : m ≤ 10000) (hp : Pl m n t) (h4 : 2 ≤ n) (h5 : n ≤ 11) : isPl m t = true := by
  have hl := hp.len
  refine isPl_all (by simp; omega) (by simp; omega) (fun i hi => ?_)
  rw [rowB, Bool.and_eq_true, beq_iff_eq, List.all_eq_true]
  refine ⟨by rw [hl]; exact hp.row i (by omega), fun x hx => ?_⟩
  have := hp.rowNum i x hx
  simp only [isNum, Bool.and_eq_true, decide_eq_true_eq]
  omega
theorem shpS {m : Int} {t : List (List Int)} {n : Nat} (hp : Pl m n t) (h5 : n ≤ 11) : Shp t := by
  have hl := hp.len
  refine ⟨by omega, fun x hx => ?_⟩
  obtain ⟨i, hi, rfl⟩ := List.getElem_of_mem hx
  have := hp.row i (by omega)
  rw [List.getD_eq_getElem?_getD, List.getElem?_eq_getElem hi] at this
  simp only [Option.getD_some] at this
  omega
theorem Shp.five {t : List (List Int)} (h : Shp t) : t.length ≤ 1000 ∧ ∀ i, (t.getD i []).length ≤ 1000 := ⟨h.1, fun i => by
  by_cases hi : i < t.length
  · exact (h.row hi).1
  · rw [List.getD_eq_getElem?_getD, List.getElem?_eq_none (by omega)]; exact Nat.zero_le _⟩
theorem sbC_of {m : Int} {t : List (List Int)} {la lb : List Int} (h1 : isPl m t = true) (h2 : isSer m la = true) (h3 : isSer m lb = true) (h4 : t.length = la.length) (h5 : t.length = lb.length) (h6 : at' la 0 = 0) (h7 : at' lb 0 = 0) : sbC m t m la m lb = 0 :=
  sbC_0 ⟨h1, h2, h3⟩ ⟨⟨rfl, h4⟩, rfl, h5⟩ ⟨beq_iff_eq.2 h6, beq_iff_eq.2 h7⟩
theorem sub_lin {m : Int} {t : List (List Int)} {n : Nat} (h1 : 2 ≤ m) (h2 : m ≤ 10000) (hp : Pl m n t) (h4 : 2 ≤ n) (h5 : n ≤ 11) : AFn Tryz.prog 11 [.agg [.int .i64 m, .sl false 27 (rowsF t)], .agg [.int .i64 m, .sl false 2 (intL (linL n))], .agg [.int .i64 m, .sl false 2 (intL (linL n))]] (.tup [.agg [.int .i64 m, .sl true 2 (intL (putL m (pc t) (linL n) (linL n) (n - 1)))], .int .i64 0]) := by
  have hl := hp.len
  have hls : isSer m (linL n) = true := serS h1 h2 (linL_length n) h4 h5 (linL_num (by omega) n)
  have h0 : at' (linL n) 0 = 0 := by rw [at_linL (by omega)]; rfl
  have h := c_impl_SubstituteCurves_ok m m m t (linL n) (linL n) (shpS hp h5) (by rw [linL_length]; omega) (by rw [linL_length]; omega) (by rw [linL_length]; omega) (by rw [linL_length]; omega) (sbC_of (plS h1 h2 hp h4 h5) hls hls (by rw [linL_length]; exact hl) (by rw [linL_length]; exact hl) h0 h0)
  rwa [hl] at h
theorem sub_both {m : Int} {t : List (List Int)} {la lb : List Int} {n : Nat} (h1 : 2 ≤ m) (h2 : m ≤ 10000) (h4 : 2 ≤ n) (h5 : n ≤ 11) : AFn Tryz.prog 11 [.agg [.int .i64 m, .sl false 27 (rowsF (bthT m n (pc t) (pwC m la (n - 1)) (pwC m lb (n - 1))))], .agg [.int .i64 m, .sl false 2 (intL (linL n))], .agg [.int .i64 m, .sl false 2 (intL (linL n))]] (.tup [.agg [.int .i64 m, .sl true 2 (intL (putL m (pc t) la lb (n - 1)))], .int .i64 0]) := by
  have h := sub_lin h1 h2 (bthT_pl (by omega) n (pc t) (pwC m la (n - 1)) (pwC m lb (n - 1))) h4 h5
  obtain ⟨d, rfl⟩ : ∃ d, n = d + 1 := ⟨n - 1, by omega⟩
  rw [Nat.add_sub_cancel] at h ⊢
  rwa [both_line (by omega)] at h
theorem sub_axis {m : Int} {la : List Int} {n : Nat} (h1 : 2 ≤ m) (h2 : m ≤ 10000) (h4 : 2 ≤ n) (h5 : n ≤ 11) (hl : la.length = n) (hn : ∀ x ∈ la, 0 ≤ x ∧ x < m) : AFn Tryz.prog 11 [.agg [.int .i64 m, .sl false 27 (rowsF (tab2 n (axX la n)))], .agg [.int .i64 m, .sl false 2 (intL (linL n))], .agg [.int .i64 m, .sl false 2 (intL (linL n))]] (.tup [.agg [.int .i64 m, .sl true 2 (intL la)], .int .i64 0]) := by
  have hp : Pl m n (tab2 n (axX la n)) := Pl.tab2 (by omega) fun i j _ => by
    unfold axX
    split
    · exact at_bound hn (by omega) i
    · omega
  have h := sub_lin h1 h2 hp h4 h5
  obtain ⟨d, rfl⟩ : ∃ d, n = d + 1 := ⟨n - 1, by omega⟩
  rw [Nat.add_sub_cancel] at h
  have e : tab2 (d + 1) (axX la (d + 1)) = tab2 (d + 1) (fun i j => if j = 0 then at' la i else 0) := tab2_congr fun i j hij => by
    unfold axX
    by_cases g : j = 0
    · rw [if_pos g, if_pos ⟨g, by omega⟩]
    · rw [if_neg g, if_neg (fun h => g h.1)]
  rw [e] at h ⊢
  rwa [axis_line (by omega) ⟨hl, hn⟩] at h
theorem sub_apply {m : Int} {t : List (List Int)} {la : List Int} {n : Nat} (h1 : 2 ≤ m) (h2 : m ≤ 10000) (h4 : 2 ≤ n) (h5 : n ≤ 11) (hl : la.length = n) : AFn Tryz.prog 11 [.agg [.int .i64 m, .sl false 27 (rowsF (aftL m n (pc t) la la.length))], .agg [.int .i64 m, .sl false 2 (intL (linL n))], .agg [.int .i64 m, .sl false 2 (intL (linL n))]] (.tup [.agg [.int .i64 m, .sl true 2 (intL (cmpL m la (putL m (pc t) (linL n) (linL n) (n - 1)) (n - 1) (n - 1 + 1)))], .int .i64 0]) := by
  have h := sub_lin h1 h2 (aftL_pl (by omega) n (pc t) la la.length) h4 h5
  obtain ⟨d, rfl⟩ : ∃ d, n = d + 1 := ⟨n - 1, by omega⟩
  rw [Nat.add_sub_cancel] at h ⊢
  rwa [apply_line (by omega) hl]
theorem put_zero {m : Int} (hm : 1 < m) {t : Nat → Nat → Int} {n : Nat} (hn : 1 ≤ n) (h0 : t 0 0 = 0) : at' (putL m t (linL n) (linL n) (n - 1)) 0 = 0 := by
  obtain ⟨d, rfl⟩ : ∃ d, n = d + 1 := ⟨n - 1, by omega⟩
  rw [Nat.add_sub_cancel]
  have h := put_lin hm t d (Nat.zero_le d)
  have hb := at_bound (putL_facts (show 0 < m by omega) t (linL (d + 1)) (linL (d + 1)) d).2 (by omega) 0
  rw [Int.emod_eq_of_lt hb.1 hb.2] at h
  rw [h]
  show (0 + t 0 (0 - 0)) % m = 0
  rw [show (0 : Nat) - 0 = 0 from rfl, h0]
  exact Int.emod_eq_of_lt (by omega) (by omega)
end Go.Proofs.YtapdekacpecgiaaGreat
