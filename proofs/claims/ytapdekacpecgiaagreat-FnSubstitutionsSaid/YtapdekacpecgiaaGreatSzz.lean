/-
  FnSubstitutions.
-/
import Derived.Test.YtapdekacpecgiaaGreatSz
namespace Go.Proofs.YtapdekacpecgiaaGreat
open Go.RowKit
set_option linter.unusedSimpArgs false
set_option linter.unusedVariables false
set_option linter.unusedSectionVars false
set_option maxRecDepth 20000
-- FnSubstitutions.
set_option maxHeartbeats 32000000 in
theorem c_laws_FnSubstitutions (a : Option Addr) (c : Nat) (l : List Int) (hlen : l.length ≤ 9223372036854775807) (hx : ∀ x ∈ l, 0 ≤ x ∧ x ≤ 255) : AFn Tryz.prog 3 [.str (.src a c l)] (.bool true) := by
  refine AFn.of' ttOk (by decide) Tryz.func3 Tryz.ntmps3 (by rw [Tryz.results3]) (by rfl) (by rfl) (by simp) (by decide) (by simp only [go_sem, Nat.reduceAdd, ↓reduceIte]; rfl) mixed (fun C hP hM hC => ?_)
  by_cases hbig : (4096 : Int) < (l.length : Int)
  · have hb := c_laws_big a c l
    rw [decide_eq_true hbig] at hb
    (repeat (first | ((with_reducible refine rgn_cons rfl (fun K hK => ?_)); simp only [go_sem, seval, ↓reduceIte, decide_true, decide_false, hbig, decide_true]; (first | refine hK _ _ _ (by simp only [go_sem, Nat.reduceEqDiff, ↓reduceIte]; rfl) ?_ | refine ⟨_, hb, hK _ _ _ (by simp only [go_sem, Nat.reduceEqDiff, ↓reduceIte]; rfl) ?_⟩); clear hK; clear K) | (with_reducible first | refine rgn_nil (by first | trivial | kernel_rfl) ?_ | refine AWP.seq ?_ | refine tX hC hP (by kernel_rfl) ?_ | refine aX hC hM hP (by kernel_rfl) ?_ | refine AWP.skip ?_ | refine AWP.label ?_ | refine AWP.exit ?_ | refine AWP.block ?_ | refine cTa ?_ | refine cFa ?_) | simp only [qS, Nat.reduceEqDiff, ↓reduceIte]))
    (refine AWP.ret ?_; refine retOk1 (by simp only [go_sem, seval, ↓reduceIte, decide_true, decide_false]; rfl) ?_)
    rfl
  have hb := c_laws_big a c l
  rw [decide_eq_false hbig] at hb
  have hB : Byt l := ⟨by omega, hx⟩
  refine AWP.tailR 9 [(0, ⟨0, .val (.str (.src a c l))⟩)] ?_ (fun R tail => ?_)
  · simp only [dropSeq]
    clear hb hbig hlen hx
    refine AWP.tailR 5 [(0, ⟨0, .val (.str (.src a c l))⟩)] ?_ (fun R tail => ?_)
    · simp only [dropSeq]
      refine AWP.tailS (J := Int × List Int × Int) 3 (fun j => [(0, ⟨0, .val (.str (.src a c l))⟩), (36, ⟨2, .val (.fptr (.agg [.int .i64 j.1, .sl false 2 (intL j.2.1)]))⟩), (37, ⟨0, .val (.int .i64 j.2.2)⟩), (38, ⟨2, .val (.fptr (.agg [.int .i64 j.1, .sl false 2 (intL j.2.1)]))⟩), (39, ⟨0, .val (.int .i64 j.2.2)⟩)]) (fun j => j.2.1.length ≤ 1000) (fun j hj => ?_) (fun R tail => ?_)
      · simp only [dropSeq]
        obtain ⟨m1, l1, c1⟩ := j
        simp only at hj ⊢
        refine AWP.tailS (J := Int × List (List Int) × Int) 3 (fun j => [(0, ⟨0, .val (.str (.src a c l))⟩), (36, ⟨2, .val (.fptr (.agg [.int .i64 m1, .sl false 2 (intL l1)]))⟩), (37, ⟨0, .val (.int .i64 c1)⟩), (38, ⟨2, .val (.fptr (.agg [.int .i64 m1, .sl false 2 (intL l1)]))⟩), (39, ⟨0, .val (.int .i64 c1)⟩), (42, ⟨2, .val (.fptr (.agg [.int .i64 j.1, .sl false 27 (rowsF j.2.1)]))⟩), (43, ⟨0, .val (.int .i64 j.2.2)⟩), (44, ⟨2, .val (.fptr (.agg [.int .i64 j.1, .sl false 27 (rowsF j.2.1)]))⟩), (45, ⟨0, .val (.int .i64 j.2.2)⟩)]) (fun j => j.2.1.length ≤ 1000 ∧ ∀ i, (j.2.1.getD i []).length ≤ 1000) (fun j hj2 => ?_) (fun R tail => ?_)
        · simp only [dropSeq]
          obtain ⟨m2, t2, c2⟩ := j
          simp only at hj2 ⊢
          refine AWP.tailS (J := Int × List (List Int) × Int) 3 (fun j => [(0, ⟨0, .val (.str (.src a c l))⟩), (36, ⟨2, .val (.fptr (.agg [.int .i64 m1, .sl false 2 (intL l1)]))⟩), (37, ⟨0, .val (.int .i64 c1)⟩), (38, ⟨2, .val (.fptr (.agg [.int .i64 m1, .sl false 2 (intL l1)]))⟩), (39, ⟨0, .val (.int .i64 c1)⟩), (42, ⟨2, .val (.fptr (.agg [.int .i64 m2, .sl false 27 (rowsF t2)]))⟩), (43, ⟨0, .val (.int .i64 c2)⟩), (44, ⟨2, .val (.fptr (.agg [.int .i64 m2, .sl false 27 (rowsF t2)]))⟩), (45, ⟨0, .val (.int .i64 c2)⟩), (48, ⟨2, .val (.fptr (.agg [.int .i64 j.1, .sl false 27 (rowsF j.2.1)]))⟩), (49, ⟨0, .val (.int .i64 j.2.2)⟩), (50, ⟨2, .val (.fptr (.agg [.int .i64 j.1, .sl false 27 (rowsF j.2.1)]))⟩), (51, ⟨0, .val (.int .i64 j.2.2)⟩)]) (fun j => j.2.1.length ≤ 1000 ∧ ∀ i, (j.2.1.getD i []).length ≤ 1000) (fun j hj3 => ?_) (fun R tail => ?_)
          · simp only [dropSeq]
            obtain ⟨m3, t3, c3⟩ := j
            simp only at hj3 ⊢
            obtain ⟨R, m, t, x, y, hsh, h1, hR, hD⟩ := DrawCoefficientOf_ex (a := a) (c := c) hB
            have cI := c_impl_CoefficientOf m t x y hsh
            have cS := c_spec_CoefficientOf m t x y hsh
            have p1 := c_laws_series5 m1 l1 (by omega)
            have p2 := c_laws_plane5 m2 t2 hj2
            have p3 := c_laws_plane5 m3 t3 hj3
            rcases hR with rfl | ⟨k, h, L, k1, k2, k3, k4, rfl⟩
            · (repeat (first | ((with_reducible refine rgn_cons rfl (fun K hK => ?_)); simp only [go_sem, seval, ↓reduceIte, decide_true, decide_false, beq_self_eq_true]; (first | refine hK _ _ _ (by simp only [go_sem, Nat.reduceEqDiff, ↓reduceIte]; rfl) ?_ | refine ⟨_, hD, hK _ _ _ (by simp only [go_sem, Nat.reduceEqDiff, ↓reduceIte]; rfl) ?_⟩ | refine ⟨_, cI, hK _ _ _ (by simp only [go_sem, Nat.reduceEqDiff, ↓reduceIte]; rfl) ?_⟩ | refine ⟨_, cS, hK _ _ _ (by simp only [go_sem, Nat.reduceEqDiff, ↓reduceIte]; rfl) ?_⟩ | refine ⟨_, p1, hK _ _ _ (by simp only [go_sem, Nat.reduceEqDiff, ↓reduceIte]; rfl) ?_⟩ | refine ⟨_, p2, hK _ _ _ (by simp only [go_sem, Nat.reduceEqDiff, ↓reduceIte]; rfl) ?_⟩ | refine ⟨_, p3, hK _ _ _ (by simp only [go_sem, Nat.reduceEqDiff, ↓reduceIte]; rfl) ?_⟩); clear hK; clear K) | (with_reducible first | refine rgn_nil (by first | trivial | kernel_rfl) ?_ | refine AWP.seq ?_ | refine tX hC hP (by kernel_rfl) ?_ | refine aX hC hM hP (by kernel_rfl) ?_ | refine AWP.skip ?_ | refine AWP.label ?_ | refine AWP.exit ?_ | refine AWP.block ?_ | refine cTa ?_ | refine cFa ?_) | simp only [qS, Nat.reduceEqDiff, ↓reduceIte]))
              (refine AWP.ret ?_; refine retOk1 (by simp only [go_sem, seval, ↓reduceIte, decide_true, decide_false]; rfl) ?_)
              rfl
            · have hwl : (((rowsO L).take h).drop k).length = t.length := by rw [win_len k1 k2, k4, win_length k1 k2]
              have hwr : ((rowsF L).take h).drop k = rowsF t := by rw [rowsF_win, k4]
              (repeat (first | ((with_reducible refine rgn_cons rfl (fun K hK => ?_)); simp only [go_sem, seval, ↓reduceIte, decide_true, decide_false, beq_self_eq_true, hwr]; (first | refine hK _ _ _ (by simp only [go_sem, Nat.reduceEqDiff, ↓reduceIte]; rfl) ?_ | refine ⟨_, hD, hK _ _ _ (by simp only [go_sem, Nat.reduceEqDiff, ↓reduceIte]; rfl) ?_⟩ | refine ⟨_, cI, hK _ _ _ (by simp only [go_sem, Nat.reduceEqDiff, ↓reduceIte]; rfl) ?_⟩ | refine ⟨_, cS, hK _ _ _ (by simp only [go_sem, Nat.reduceEqDiff, ↓reduceIte]; rfl) ?_⟩ | refine ⟨_, p1, hK _ _ _ (by simp only [go_sem, Nat.reduceEqDiff, ↓reduceIte]; rfl) ?_⟩ | refine ⟨_, p2, hK _ _ _ (by simp only [go_sem, Nat.reduceEqDiff, ↓reduceIte]; rfl) ?_⟩ | refine ⟨_, p3, hK _ _ _ (by simp only [go_sem, Nat.reduceEqDiff, ↓reduceIte]; rfl) ?_⟩); clear hK; clear K) | (with_reducible first | refine rgn_nil (by first | trivial | kernel_rfl) ?_ | refine AWP.seq ?_ | refine tX hC hP (by kernel_rfl) ?_ | refine aX hC hM hP (by kernel_rfl) ?_ | refine AWP.skip ?_ | refine AWP.label ?_ | refine AWP.exit ?_ | refine AWP.block ?_ | refine cTa ?_ | refine cFa ?_) | simp only [qS, Nat.reduceEqDiff, ↓reduceIte]))
              (refine AWP.ret ?_; refine retOk1 (by simp only [go_sem, seval, ↓reduceIte, decide_true, decide_false]; rfl) ?_)
              rfl
          · simp only [putSeq]
            obtain ⟨R0, m, t, x, hsh, h1, hR, hD⟩ := DrawChangePlane_ex (a := a) (c := c) hB
            by_cases hc : cgC m t x = 0
            · skip
              have cI := c_impl_ChangePlane_ok m x t hsh hc
              have cS := c_spec_ChangePlane_ok m x t hsh hc
              rcases hR with rfl | ⟨k, h, L, k1, k2, k3, k4, rfl⟩
              · (repeat (first | ((with_reducible refine rgn_cons rfl (fun K hK => ?_)); simp only [go_sem, seval, ↓reduceIte, decide_true, decide_false]; (first | refine hK _ _ _ (by simp only [go_sem, Nat.reduceEqDiff, ↓reduceIte]; rfl) ?_ | refine ⟨_, hD, hK _ _ _ (by simp only [go_sem, Nat.reduceEqDiff, ↓reduceIte]; rfl) ?_⟩ | refine ⟨_, cI, hK _ _ _ (by simp only [go_sem, Nat.reduceEqDiff, ↓reduceIte]; rfl) ?_⟩ | refine ⟨_, cS, hK _ _ _ (by simp only [go_sem, Nat.reduceEqDiff, ↓reduceIte]; rfl) ?_⟩); clear hK; clear K) | (with_reducible first | refine rgn_nil (by first | trivial | kernel_rfl) ?_ | refine AWP.seq ?_ | refine tX hC hP (by kernel_rfl) ?_ | refine aX hC hM hP (by kernel_rfl) ?_ | refine AWP.skip ?_ | refine AWP.label ?_ | refine AWP.exit ?_ | refine AWP.block ?_ | refine cTa ?_ | refine cFa ?_) | simp only [qS, Nat.reduceEqDiff, ↓reduceIte]))
                refine AWP.frz (s := 48) rfl ?_
                refine AWP.frz (s := 50) rfl ?_
                simp only [Tfreeze_box, Tfreeze_agg, T.freezeL, Tfreeze_int, Tfreeze_slt, intL_freeze, rowsO_freeze]
                refine AWP.sub ?_ (by rfl) (tail (x, cgL x t, 0) ⟨by rw [cgL_length]; exact hsh.1, fun i => by
                rw [cgL, List.getD_eq_getElem?_getD, List.getElem?_map]
                have := hsh.five.2 i
                rw [List.getD_eq_getElem?_getD] at this
                cases e : t[i]? with
                | none => simp
                | some r => rw [e] at this; simpa [rmL] using this⟩)
                simp [Sub, lk]
              · have hwl : (((rowsO L).take h).drop k).length = t.length := by rw [win_len k1 k2, k4, win_length k1 k2]
                have hwr : ((rowsF L).take h).drop k = rowsF t := by rw [rowsF_win, k4]
                (repeat (first | ((with_reducible refine rgn_cons rfl (fun K hK => ?_)); simp only [go_sem, seval, ↓reduceIte, decide_true, decide_false, hwr]; (first | refine hK _ _ _ (by simp only [go_sem, Nat.reduceEqDiff, ↓reduceIte]; rfl) ?_ | refine ⟨_, hD, hK _ _ _ (by simp only [go_sem, Nat.reduceEqDiff, ↓reduceIte]; rfl) ?_⟩ | refine ⟨_, cI, hK _ _ _ (by simp only [go_sem, Nat.reduceEqDiff, ↓reduceIte]; rfl) ?_⟩ | refine ⟨_, cS, hK _ _ _ (by simp only [go_sem, Nat.reduceEqDiff, ↓reduceIte]; rfl) ?_⟩); clear hK; clear K) | (with_reducible first | refine rgn_nil (by first | trivial | kernel_rfl) ?_ | refine AWP.seq ?_ | refine tX hC hP (by kernel_rfl) ?_ | refine aX hC hM hP (by kernel_rfl) ?_ | refine AWP.skip ?_ | refine AWP.label ?_ | refine AWP.exit ?_ | refine AWP.block ?_ | refine cTa ?_ | refine cFa ?_) | simp only [qS, Nat.reduceEqDiff, ↓reduceIte]))
                refine AWP.frz (s := 48) rfl ?_
                refine AWP.frz (s := 50) rfl ?_
                simp only [Tfreeze_box, Tfreeze_agg, T.freezeL, Tfreeze_int, Tfreeze_slt, intL_freeze, rowsO_freeze]
                refine AWP.sub ?_ (by rfl) (tail (x, cgL x t, 0) ⟨by rw [cgL_length]; exact hsh.1, fun i => by
                rw [cgL, List.getD_eq_getElem?_getD, List.getElem?_map]
                have := hsh.five.2 i
                rw [List.getD_eq_getElem?_getD] at this
                cases e : t[i]? with
                | none => simp
                | some r => rw [e] at this; simpa [rmL] using this⟩)
                simp [Sub, lk]
            · have cI := c_impl_ChangePlane_no m x t hsh hc
              have cS := c_spec_ChangePlane_no m x t hsh hc
              rcases hR with rfl | ⟨k, h, L, k1, k2, k3, k4, rfl⟩
              · (repeat (first | ((with_reducible refine rgn_cons rfl (fun K hK => ?_)); simp only [go_sem, seval, ↓reduceIte, decide_true, decide_false]; (first | refine hK _ _ _ (by simp only [go_sem, Nat.reduceEqDiff, ↓reduceIte]; rfl) ?_ | refine ⟨_, hD, hK _ _ _ (by simp only [go_sem, Nat.reduceEqDiff, ↓reduceIte]; rfl) ?_⟩ | refine ⟨_, cI, hK _ _ _ (by simp only [go_sem, Nat.reduceEqDiff, ↓reduceIte]; rfl) ?_⟩ | refine ⟨_, cS, hK _ _ _ (by simp only [go_sem, Nat.reduceEqDiff, ↓reduceIte]; rfl) ?_⟩); clear hK; clear K) | (with_reducible first | refine rgn_nil (by first | trivial | kernel_rfl) ?_ | refine AWP.seq ?_ | refine tX hC hP (by kernel_rfl) ?_ | refine aX hC hM hP (by kernel_rfl) ?_ | refine AWP.skip ?_ | refine AWP.label ?_ | refine AWP.exit ?_ | refine AWP.block ?_ | refine cTa ?_ | refine cFa ?_) | simp only [qS, Nat.reduceEqDiff, ↓reduceIte]))
                refine AWP.frz (s := 48) rfl ?_
                refine AWP.frz (s := 50) rfl ?_
                simp only [Tfreeze_box, Tfreeze_agg, T.freezeL, Tfreeze_int, Tfreeze_nil]
                refine AWP.weak (t := 48) rfl (le_nilP 0) rfl rfl ?_
                refine AWP.weak (t := 50) rfl (le_nilP 0) rfl rfl ?_
                refine AWP.sub ?_ (by rfl) (tail (0, [], cgC m t x) (by simp))
                simp [Sub, lk, intL, rowsF]
              · have hwl : (((rowsO L).take h).drop k).length = t.length := by rw [win_len k1 k2, k4, win_length k1 k2]
                have hwr : ((rowsF L).take h).drop k = rowsF t := by rw [rowsF_win, k4]
                (repeat (first | ((with_reducible refine rgn_cons rfl (fun K hK => ?_)); simp only [go_sem, seval, ↓reduceIte, decide_true, decide_false, hwr]; (first | refine hK _ _ _ (by simp only [go_sem, Nat.reduceEqDiff, ↓reduceIte]; rfl) ?_ | refine ⟨_, hD, hK _ _ _ (by simp only [go_sem, Nat.reduceEqDiff, ↓reduceIte]; rfl) ?_⟩ | refine ⟨_, cI, hK _ _ _ (by simp only [go_sem, Nat.reduceEqDiff, ↓reduceIte]; rfl) ?_⟩ | refine ⟨_, cS, hK _ _ _ (by simp only [go_sem, Nat.reduceEqDiff, ↓reduceIte]; rfl) ?_⟩); clear hK; clear K) | (with_reducible first | refine rgn_nil (by first | trivial | kernel_rfl) ?_ | refine AWP.seq ?_ | refine tX hC hP (by kernel_rfl) ?_ | refine aX hC hM hP (by kernel_rfl) ?_ | refine AWP.skip ?_ | refine AWP.label ?_ | refine AWP.exit ?_ | refine AWP.block ?_ | refine cTa ?_ | refine cFa ?_) | simp only [qS, Nat.reduceEqDiff, ↓reduceIte]))
                refine AWP.frz (s := 48) rfl ?_
                refine AWP.frz (s := 50) rfl ?_
                simp only [Tfreeze_box, Tfreeze_agg, T.freezeL, Tfreeze_int, Tfreeze_nil]
                refine AWP.weak (t := 48) rfl (le_nilP 0) rfl rfl ?_
                refine AWP.weak (t := 50) rfl (le_nilP 0) rfl rfl ?_
                refine AWP.sub ?_ (by rfl) (tail (0, [], cgC m t x) (by simp))
                simp [Sub, lk, intL, rowsF]
        · simp only [putSeq]
          obtain ⟨R0, m, t, x, hsh, h1, hR, hD⟩ := DrawCutPlane_ex (a := a) (c := c) hB
          by_cases hc : ctC m t x = 0
          · obtain ⟨X, rfl⟩ : ∃ X : Nat, x = (X : Int) := ⟨x.toNat, by
              have hx0 : 0 ≤ x := by
                unfold ctC at hc
                split at hc
                · split at hc
                  · rename_i hh; simp only [Bool.and_eq_true, decide_eq_true_eq] at hh; omega
                  · cases hc
                · cases hc
              omega⟩
            have hcX : X + 1 ≤ 1000 := by
              have hc2 := hc
              unfold ctC at hc2
              split at hc2
              · split at hc2
                · rename_i hh; simp only [Bool.and_eq_true, decide_eq_true_eq] at hh; have := hsh.1; omega
                · cases hc2
              · cases hc2
            have cI := c_impl_CutPlane_ok m t X hsh hc
            have cS := c_spec_CutPlane_ok m t X hsh hc
            rcases hR with rfl | ⟨k, h, L, k1, k2, k3, k4, rfl⟩
            · (repeat (first | ((with_reducible refine rgn_cons rfl (fun K hK => ?_)); simp only [go_sem, seval, ↓reduceIte, decide_true, decide_false]; (first | refine hK _ _ _ (by simp only [go_sem, Nat.reduceEqDiff, ↓reduceIte]; rfl) ?_ | refine ⟨_, hD, hK _ _ _ (by simp only [go_sem, Nat.reduceEqDiff, ↓reduceIte]; rfl) ?_⟩ | refine ⟨_, cI, hK _ _ _ (by simp only [go_sem, Nat.reduceEqDiff, ↓reduceIte]; rfl) ?_⟩ | refine ⟨_, cS, hK _ _ _ (by simp only [go_sem, Nat.reduceEqDiff, ↓reduceIte]; rfl) ?_⟩); clear hK; clear K) | (with_reducible first | refine rgn_nil (by first | trivial | kernel_rfl) ?_ | refine AWP.seq ?_ | refine tX hC hP (by kernel_rfl) ?_ | refine aX hC hM hP (by kernel_rfl) ?_ | refine AWP.skip ?_ | refine AWP.label ?_ | refine AWP.exit ?_ | refine AWP.block ?_ | refine cTa ?_ | refine cFa ?_) | simp only [qS, Nat.reduceEqDiff, ↓reduceIte]))
              refine AWP.frz (s := 42) rfl ?_
              refine AWP.frz (s := 44) rfl ?_
              simp only [Tfreeze_box, Tfreeze_agg, T.freezeL, Tfreeze_int, Tfreeze_slt, intL_freeze, rowsO_freeze]
              refine AWP.sub ?_ (by rfl) (tail (m, tab2 (X + 1) (pc t), 0) ⟨by rw [tab2_length]; have := hcX; omega, fun i => by
              by_cases hi : i < X + 1
              · rw [tab2_row hi, tab_length]; have := hcX; omega
              · rw [List.getD_eq_getElem?_getD, List.getElem?_eq_none (by rw [tab2_length]; omega)]; exact Nat.zero_le _⟩)
              simp [Sub, lk]
            · have hwl : (((rowsO L).take h).drop k).length = t.length := by rw [win_len k1 k2, k4, win_length k1 k2]
              have hwr : ((rowsF L).take h).drop k = rowsF t := by rw [rowsF_win, k4]
              (repeat (first | ((with_reducible refine rgn_cons rfl (fun K hK => ?_)); simp only [go_sem, seval, ↓reduceIte, decide_true, decide_false, hwr]; (first | refine hK _ _ _ (by simp only [go_sem, Nat.reduceEqDiff, ↓reduceIte]; rfl) ?_ | refine ⟨_, hD, hK _ _ _ (by simp only [go_sem, Nat.reduceEqDiff, ↓reduceIte]; rfl) ?_⟩ | refine ⟨_, cI, hK _ _ _ (by simp only [go_sem, Nat.reduceEqDiff, ↓reduceIte]; rfl) ?_⟩ | refine ⟨_, cS, hK _ _ _ (by simp only [go_sem, Nat.reduceEqDiff, ↓reduceIte]; rfl) ?_⟩); clear hK; clear K) | (with_reducible first | refine rgn_nil (by first | trivial | kernel_rfl) ?_ | refine AWP.seq ?_ | refine tX hC hP (by kernel_rfl) ?_ | refine aX hC hM hP (by kernel_rfl) ?_ | refine AWP.skip ?_ | refine AWP.label ?_ | refine AWP.exit ?_ | refine AWP.block ?_ | refine cTa ?_ | refine cFa ?_) | simp only [qS, Nat.reduceEqDiff, ↓reduceIte]))
              refine AWP.frz (s := 42) rfl ?_
              refine AWP.frz (s := 44) rfl ?_
              simp only [Tfreeze_box, Tfreeze_agg, T.freezeL, Tfreeze_int, Tfreeze_slt, intL_freeze, rowsO_freeze]
              refine AWP.sub ?_ (by rfl) (tail (m, tab2 (X + 1) (pc t), 0) ⟨by rw [tab2_length]; have := hcX; omega, fun i => by
              by_cases hi : i < X + 1
              · rw [tab2_row hi, tab_length]; have := hcX; omega
              · rw [List.getD_eq_getElem?_getD, List.getElem?_eq_none (by rw [tab2_length]; omega)]; exact Nat.zero_le _⟩)
              simp [Sub, lk]
          · have cI := c_impl_CutPlane_no m t x hsh hc
            have cS := c_spec_CutPlane_no m t x hsh hc
            rcases hR with rfl | ⟨k, h, L, k1, k2, k3, k4, rfl⟩
            · (repeat (first | ((with_reducible refine rgn_cons rfl (fun K hK => ?_)); simp only [go_sem, seval, ↓reduceIte, decide_true, decide_false]; (first | refine hK _ _ _ (by simp only [go_sem, Nat.reduceEqDiff, ↓reduceIte]; rfl) ?_ | refine ⟨_, hD, hK _ _ _ (by simp only [go_sem, Nat.reduceEqDiff, ↓reduceIte]; rfl) ?_⟩ | refine ⟨_, cI, hK _ _ _ (by simp only [go_sem, Nat.reduceEqDiff, ↓reduceIte]; rfl) ?_⟩ | refine ⟨_, cS, hK _ _ _ (by simp only [go_sem, Nat.reduceEqDiff, ↓reduceIte]; rfl) ?_⟩); clear hK; clear K) | (with_reducible first | refine rgn_nil (by first | trivial | kernel_rfl) ?_ | refine AWP.seq ?_ | refine tX hC hP (by kernel_rfl) ?_ | refine aX hC hM hP (by kernel_rfl) ?_ | refine AWP.skip ?_ | refine AWP.label ?_ | refine AWP.exit ?_ | refine AWP.block ?_ | refine cTa ?_ | refine cFa ?_) | simp only [qS, Nat.reduceEqDiff, ↓reduceIte]))
              refine AWP.frz (s := 42) rfl ?_
              refine AWP.frz (s := 44) rfl ?_
              simp only [Tfreeze_box, Tfreeze_agg, T.freezeL, Tfreeze_int, Tfreeze_nil]
              refine AWP.weak (t := 42) rfl (le_nilP 0) rfl rfl ?_
              refine AWP.weak (t := 44) rfl (le_nilP 0) rfl rfl ?_
              refine AWP.sub ?_ (by rfl) (tail (0, [], ctC m t x) (by simp))
              simp [Sub, lk, intL, rowsF]
            · have hwl : (((rowsO L).take h).drop k).length = t.length := by rw [win_len k1 k2, k4, win_length k1 k2]
              have hwr : ((rowsF L).take h).drop k = rowsF t := by rw [rowsF_win, k4]
              (repeat (first | ((with_reducible refine rgn_cons rfl (fun K hK => ?_)); simp only [go_sem, seval, ↓reduceIte, decide_true, decide_false, hwr]; (first | refine hK _ _ _ (by simp only [go_sem, Nat.reduceEqDiff, ↓reduceIte]; rfl) ?_ | refine ⟨_, hD, hK _ _ _ (by simp only [go_sem, Nat.reduceEqDiff, ↓reduceIte]; rfl) ?_⟩ | refine ⟨_, cI, hK _ _ _ (by simp only [go_sem, Nat.reduceEqDiff, ↓reduceIte]; rfl) ?_⟩ | refine ⟨_, cS, hK _ _ _ (by simp only [go_sem, Nat.reduceEqDiff, ↓reduceIte]; rfl) ?_⟩); clear hK; clear K) | (with_reducible first | refine rgn_nil (by first | trivial | kernel_rfl) ?_ | refine AWP.seq ?_ | refine tX hC hP (by kernel_rfl) ?_ | refine aX hC hM hP (by kernel_rfl) ?_ | refine AWP.skip ?_ | refine AWP.label ?_ | refine AWP.exit ?_ | refine AWP.block ?_ | refine cTa ?_ | refine cFa ?_) | simp only [qS, Nat.reduceEqDiff, ↓reduceIte]))
              refine AWP.frz (s := 42) rfl ?_
              refine AWP.frz (s := 44) rfl ?_
              simp only [Tfreeze_box, Tfreeze_agg, T.freezeL, Tfreeze_int, Tfreeze_nil]
              refine AWP.weak (t := 42) rfl (le_nilP 0) rfl rfl ?_
              refine AWP.weak (t := 44) rfl (le_nilP 0) rfl rfl ?_
              refine AWP.sub ?_ (by rfl) (tail (0, [], ctC m t x) (by simp))
              simp [Sub, lk, intL, rowsF]
      · simp only [putSeq]
        obtain ⟨R0, m, t, x, hsh, h1, hR, hD⟩ := DrawRowOfPlane_ex (a := a) (c := c) hB
        by_cases hc : rwC m t x = 0
        · obtain ⟨X, rfl⟩ : ∃ X : Nat, x = (X : Int) := ⟨x.toNat, by
            have hx0 : 0 ≤ x := by
              unfold rwC at hc
              split at hc
              · split at hc
                · rename_i hh; simp only [Bool.and_eq_true, decide_eq_true_eq] at hh; omega
                · cases hc
              · cases hc
            omega⟩
          have cI := c_impl_RowOfPlane_ok m t X hsh hc
          have cS := c_spec_RowOfPlane_ok m t X hsh hc
          rcases hR with rfl | ⟨k, h, L, k1, k2, k3, k4, rfl⟩
          · (repeat (first | ((with_reducible refine rgn_cons rfl (fun K hK => ?_)); simp only [go_sem, seval, ↓reduceIte, decide_true, decide_false]; (first | refine hK _ _ _ (by simp only [go_sem, Nat.reduceEqDiff, ↓reduceIte]; rfl) ?_ | refine ⟨_, hD, hK _ _ _ (by simp only [go_sem, Nat.reduceEqDiff, ↓reduceIte]; rfl) ?_⟩ | refine ⟨_, cI, hK _ _ _ (by simp only [go_sem, Nat.reduceEqDiff, ↓reduceIte]; rfl) ?_⟩ | refine ⟨_, cS, hK _ _ _ (by simp only [go_sem, Nat.reduceEqDiff, ↓reduceIte]; rfl) ?_⟩); clear hK; clear K) | (with_reducible first | refine rgn_nil (by first | trivial | kernel_rfl) ?_ | refine AWP.seq ?_ | refine tX hC hP (by kernel_rfl) ?_ | refine aX hC hM hP (by kernel_rfl) ?_ | refine AWP.skip ?_ | refine AWP.label ?_ | refine AWP.exit ?_ | refine AWP.block ?_ | refine cTa ?_ | refine cFa ?_) | simp only [qS, Nat.reduceEqDiff, ↓reduceIte]))
            refine AWP.frz (s := 36) rfl ?_
            refine AWP.frz (s := 38) rfl ?_
            simp only [Tfreeze_box, Tfreeze_agg, T.freezeL, Tfreeze_int, Tfreeze_slt, intL_freeze, rowsO_freeze]
            refine AWP.sub ?_ (by rfl) (tail (m, t.getD X [], 0) (hsh.five.2 X))
            simp [Sub, lk]
          · have hwl : (((rowsO L).take h).drop k).length = t.length := by rw [win_len k1 k2, k4, win_length k1 k2]
            have hwr : ((rowsF L).take h).drop k = rowsF t := by rw [rowsF_win, k4]
            (repeat (first | ((with_reducible refine rgn_cons rfl (fun K hK => ?_)); simp only [go_sem, seval, ↓reduceIte, decide_true, decide_false, hwr]; (first | refine hK _ _ _ (by simp only [go_sem, Nat.reduceEqDiff, ↓reduceIte]; rfl) ?_ | refine ⟨_, hD, hK _ _ _ (by simp only [go_sem, Nat.reduceEqDiff, ↓reduceIte]; rfl) ?_⟩ | refine ⟨_, cI, hK _ _ _ (by simp only [go_sem, Nat.reduceEqDiff, ↓reduceIte]; rfl) ?_⟩ | refine ⟨_, cS, hK _ _ _ (by simp only [go_sem, Nat.reduceEqDiff, ↓reduceIte]; rfl) ?_⟩); clear hK; clear K) | (with_reducible first | refine rgn_nil (by first | trivial | kernel_rfl) ?_ | refine AWP.seq ?_ | refine tX hC hP (by kernel_rfl) ?_ | refine aX hC hM hP (by kernel_rfl) ?_ | refine AWP.skip ?_ | refine AWP.label ?_ | refine AWP.exit ?_ | refine AWP.block ?_ | refine cTa ?_ | refine cFa ?_) | simp only [qS, Nat.reduceEqDiff, ↓reduceIte]))
            refine AWP.frz (s := 36) rfl ?_
            refine AWP.frz (s := 38) rfl ?_
            simp only [Tfreeze_box, Tfreeze_agg, T.freezeL, Tfreeze_int, Tfreeze_slt, intL_freeze, rowsO_freeze]
            refine AWP.sub ?_ (by rfl) (tail (m, t.getD X [], 0) (hsh.five.2 X))
            simp [Sub, lk]
        · have cI := c_impl_RowOfPlane_no m t x hsh hc
          have cS := c_spec_RowOfPlane_no m t x hsh hc
          rcases hR with rfl | ⟨k, h, L, k1, k2, k3, k4, rfl⟩
          · (repeat (first | ((with_reducible refine rgn_cons rfl (fun K hK => ?_)); simp only [go_sem, seval, ↓reduceIte, decide_true, decide_false]; (first | refine hK _ _ _ (by simp only [go_sem, Nat.reduceEqDiff, ↓reduceIte]; rfl) ?_ | refine ⟨_, hD, hK _ _ _ (by simp only [go_sem, Nat.reduceEqDiff, ↓reduceIte]; rfl) ?_⟩ | refine ⟨_, cI, hK _ _ _ (by simp only [go_sem, Nat.reduceEqDiff, ↓reduceIte]; rfl) ?_⟩ | refine ⟨_, cS, hK _ _ _ (by simp only [go_sem, Nat.reduceEqDiff, ↓reduceIte]; rfl) ?_⟩); clear hK; clear K) | (with_reducible first | refine rgn_nil (by first | trivial | kernel_rfl) ?_ | refine AWP.seq ?_ | refine tX hC hP (by kernel_rfl) ?_ | refine aX hC hM hP (by kernel_rfl) ?_ | refine AWP.skip ?_ | refine AWP.label ?_ | refine AWP.exit ?_ | refine AWP.block ?_ | refine cTa ?_ | refine cFa ?_) | simp only [qS, Nat.reduceEqDiff, ↓reduceIte]))
            refine AWP.frz (s := 36) rfl ?_
            refine AWP.frz (s := 38) rfl ?_
            simp only [Tfreeze_box, Tfreeze_agg, T.freezeL, Tfreeze_int, Tfreeze_nil]
            refine AWP.weak (t := 36) rfl (le_nilS 0) rfl rfl ?_
            refine AWP.weak (t := 38) rfl (le_nilS 0) rfl rfl ?_
            refine AWP.sub ?_ (by rfl) (tail (0, [], rwC m t x) (by simp))
            simp [Sub, lk, intL, rowsF]
          · have hwl : (((rowsO L).take h).drop k).length = t.length := by rw [win_len k1 k2, k4, win_length k1 k2]
            have hwr : ((rowsF L).take h).drop k = rowsF t := by rw [rowsF_win, k4]
            (repeat (first | ((with_reducible refine rgn_cons rfl (fun K hK => ?_)); simp only [go_sem, seval, ↓reduceIte, decide_true, decide_false, hwr]; (first | refine hK _ _ _ (by simp only [go_sem, Nat.reduceEqDiff, ↓reduceIte]; rfl) ?_ | refine ⟨_, hD, hK _ _ _ (by simp only [go_sem, Nat.reduceEqDiff, ↓reduceIte]; rfl) ?_⟩ | refine ⟨_, cI, hK _ _ _ (by simp only [go_sem, Nat.reduceEqDiff, ↓reduceIte]; rfl) ?_⟩ | refine ⟨_, cS, hK _ _ _ (by simp only [go_sem, Nat.reduceEqDiff, ↓reduceIte]; rfl) ?_⟩); clear hK; clear K) | (with_reducible first | refine rgn_nil (by first | trivial | kernel_rfl) ?_ | refine AWP.seq ?_ | refine tX hC hP (by kernel_rfl) ?_ | refine aX hC hM hP (by kernel_rfl) ?_ | refine AWP.skip ?_ | refine AWP.label ?_ | refine AWP.exit ?_ | refine AWP.block ?_ | refine cTa ?_ | refine cFa ?_) | simp only [qS, Nat.reduceEqDiff, ↓reduceIte]))
            refine AWP.frz (s := 36) rfl ?_
            refine AWP.frz (s := 38) rfl ?_
            simp only [Tfreeze_box, Tfreeze_agg, T.freezeL, Tfreeze_int, Tfreeze_nil]
            refine AWP.weak (t := 36) rfl (le_nilS 0) rfl rfl ?_
            refine AWP.weak (t := 38) rfl (le_nilS 0) rfl rfl ?_
            refine AWP.sub ?_ (by rfl) (tail (0, [], rwC m t x) (by simp))
            simp [Sub, lk, intL, rowsF]
    · simp only [putSeq]
      obtain ⟨R0, m, t, ma, la, hsh, h1, hR, hla, hla1, hD⟩ := DrawApplySeries_ex (a := a) (c := c) hB
      by_cases hc : apC ma la m t = 0
      · have cI := c_impl_ApplySeries_ok ma m la t hsh hla hc
        have cS := c_spec_ApplySeries_ok ma m la t hsh hla hc
        obtain ⟨f1, f2, rfl, f5, f6, f7, f8, f9, f10, f11, f12⟩ := apC_facts hc
        have hAp := aftL_pl (show 0 < m by omega) t.length (pc t) la la.length
        have p1 := c_laws_plane5 m (aftL m t.length (pc t) la la.length) (shpS hAp f7).five
        have cL := sub_lin (by omega) f2 f5 f6 f7
        have cA := sub_apply (t := t) (by omega) f2 f6 f7 f8
        have hpf := putL_facts (show 0 < m by omega) (pc t) (linL t.length) (linL t.length) (t.length - 1)
        have hpl : (putL m (pc t) (linL t.length) (linL t.length) (t.length - 1)).length = t.length := by rw [hpf.1]; omega
        have cC := c_impl_ComposeSeries_ok m la (putL m (pc t) (linL t.length) (linL t.length) (t.length - 1)) f11 (serS (by omega) f2 hpl f6 f7 hpf.2) (by rw [hpl, f8]) (put_zero f1 (by omega) f10)
        rw [f8] at cC p1 cA
        rw [f8] at cI cS
        have p2 := c_laws_series5 m (cmpL m la (putL m (pc t) (linL t.length) (linL t.length) (t.length - 1)) (t.length - 1) (t.length - 1 + 1)) (by rw [cmpL_length]; omega)
        have hlin : ((List.replicate t.length (0 : Int)).set 1 1) = linL t.length := rfl
        have hrl : (List.replicate t.length (0 : Int)).length = t.length := List.length_replicate
        have hnz : (t.length : Int) ≤ 1099511627776 := by omega
        rcases hR with rfl | ⟨k, h, L, k1, k2, k3, k4, rfl⟩
        · (repeat (first | ((with_reducible refine rgn_cons rfl (fun K hK => ?_)); simp only [go_sem, seval, ↓reduceIte, decide_true, decide_false, bne_self_eq_false, rowsO_length, Int.natCast_nonneg, Int.toNat_natCast, hnz, intL_replicate, hrl, show (1 : Int) < (t.length : Int) by omega, show (0 : Int) ≤ 1 by omega, show (1 : Int).toNat = 1 from rfl, intL_get (List.replicate t.length (0 : Int)) 1 (by rw [hrl]; omega), sizeL_intL, intL_takeR, List.length_take, show min 1 t.length = 1 by omega, Nat.mul_one, intL_modify, hlin]; (first | refine hK _ _ _ (by simp only [go_sem, Nat.reduceEqDiff, ↓reduceIte]; rfl) ?_ | refine ⟨_, hD, hK _ _ _ (by simp only [go_sem, Nat.reduceEqDiff, ↓reduceIte]; rfl) ?_⟩ | refine ⟨_, cI, hK _ _ _ (by simp only [go_sem, Nat.reduceEqDiff, ↓reduceIte]; rfl) ?_⟩ | refine ⟨_, cS, hK _ _ _ (by simp only [go_sem, Nat.reduceEqDiff, ↓reduceIte]; rfl) ?_⟩ | refine ⟨_, p1, hK _ _ _ (by simp only [go_sem, Nat.reduceEqDiff, ↓reduceIte]; rfl) ?_⟩ | refine ⟨_, cL, hK _ _ _ (by simp only [go_sem, Nat.reduceEqDiff, ↓reduceIte]; rfl) ?_⟩ | refine ⟨_, cC, hK _ _ _ (by simp only [go_sem, Nat.reduceEqDiff, ↓reduceIte]; rfl) ?_⟩ | refine ⟨_, cA, hK _ _ _ (by simp only [go_sem, Nat.reduceEqDiff, ↓reduceIte]; rfl) ?_⟩ | refine ⟨_, p2, hK _ _ _ (by simp only [go_sem, Nat.reduceEqDiff, ↓reduceIte]; rfl) ?_⟩); clear hK; clear K) | (with_reducible first | refine rgn_nil (by first | trivial | kernel_rfl) ?_ | refine AWP.seq ?_ | refine tX hC hP (by kernel_rfl) ?_ | refine aX hC hM hP (by kernel_rfl) ?_ | refine AWP.skip ?_ | refine AWP.label ?_ | refine AWP.exit ?_ | refine AWP.block ?_ | refine cTa ?_ | refine cFa ?_) | simp only [qS, Nat.reduceEqDiff, ↓reduceIte]))
          refine AWP.sub ?_ (by rfl) tail
          simp [Sub, lk]
        · have hwl : (((rowsO L).take h).drop k).length = t.length := by rw [win_len k1 k2, k4, win_length k1 k2]
          have hwr : ((rowsF L).take h).drop k = rowsF t := by rw [rowsF_win, k4]
          (repeat (first | ((with_reducible refine rgn_cons rfl (fun K hK => ?_)); simp only [go_sem, seval, ↓reduceIte, decide_true, decide_false, bne_self_eq_false, hwl, hwr, Int.natCast_nonneg, Int.toNat_natCast, hnz, intL_replicate, hrl, show (1 : Int) < (t.length : Int) by omega, show (0 : Int) ≤ 1 by omega, show (1 : Int).toNat = 1 from rfl, intL_get (List.replicate t.length (0 : Int)) 1 (by rw [hrl]; omega), sizeL_intL, intL_takeR, List.length_take, show min 1 t.length = 1 by omega, Nat.mul_one, intL_modify, hlin]; (first | refine hK _ _ _ (by simp only [go_sem, Nat.reduceEqDiff, ↓reduceIte]; rfl) ?_ | refine ⟨_, hD, hK _ _ _ (by simp only [go_sem, Nat.reduceEqDiff, ↓reduceIte]; rfl) ?_⟩ | refine ⟨_, cI, hK _ _ _ (by simp only [go_sem, Nat.reduceEqDiff, ↓reduceIte]; rfl) ?_⟩ | refine ⟨_, cS, hK _ _ _ (by simp only [go_sem, Nat.reduceEqDiff, ↓reduceIte]; rfl) ?_⟩ | refine ⟨_, p1, hK _ _ _ (by simp only [go_sem, Nat.reduceEqDiff, ↓reduceIte]; rfl) ?_⟩ | refine ⟨_, cL, hK _ _ _ (by simp only [go_sem, Nat.reduceEqDiff, ↓reduceIte]; rfl) ?_⟩ | refine ⟨_, cC, hK _ _ _ (by simp only [go_sem, Nat.reduceEqDiff, ↓reduceIte]; rfl) ?_⟩ | refine ⟨_, cA, hK _ _ _ (by simp only [go_sem, Nat.reduceEqDiff, ↓reduceIte]; rfl) ?_⟩ | refine ⟨_, p2, hK _ _ _ (by simp only [go_sem, Nat.reduceEqDiff, ↓reduceIte]; rfl) ?_⟩); clear hK; clear K) | (with_reducible first | refine rgn_nil (by first | trivial | kernel_rfl) ?_ | refine AWP.seq ?_ | refine tX hC hP (by kernel_rfl) ?_ | refine aX hC hM hP (by kernel_rfl) ?_ | refine AWP.skip ?_ | refine AWP.label ?_ | refine AWP.exit ?_ | refine AWP.block ?_ | refine cTa ?_ | refine cFa ?_) | simp only [qS, Nat.reduceEqDiff, ↓reduceIte]))
          refine AWP.sub ?_ (by rfl) tail
          simp [Sub, lk]
      · have cI := c_impl_ApplySeries_no ma m la t hsh hla hc
        have cS := c_spec_ApplySeries_no ma m la t hsh hla hc
        have hc1 : (apC ma la m t == 0) = false := by rw [beq_eq_false_iff_ne]; exact hc
        rcases hR with rfl | ⟨k, h, L, k1, k2, k3, k4, rfl⟩
        · (repeat (first | ((with_reducible refine rgn_cons rfl (fun K hK => ?_)); simp only [go_sem, seval, ↓reduceIte, decide_true, decide_false, bne_self_eq_false, hc1]; (first | refine hK _ _ _ (by simp only [go_sem, Nat.reduceEqDiff, ↓reduceIte]; rfl) ?_ | refine ⟨_, hD, hK _ _ _ (by simp only [go_sem, Nat.reduceEqDiff, ↓reduceIte]; rfl) ?_⟩ | refine ⟨_, cI, hK _ _ _ (by simp only [go_sem, Nat.reduceEqDiff, ↓reduceIte]; rfl) ?_⟩ | refine ⟨_, cS, hK _ _ _ (by simp only [go_sem, Nat.reduceEqDiff, ↓reduceIte]; rfl) ?_⟩ | refine ⟨_, c_laws_plane5_nil 0, hK _ _ _ (by simp only [go_sem, Nat.reduceEqDiff, ↓reduceIte]; rfl) ?_⟩); clear hK; clear K) | (with_reducible first | refine rgn_nil (by first | trivial | kernel_rfl) ?_ | refine AWP.seq ?_ | refine tX hC hP (by kernel_rfl) ?_ | refine aX hC hM hP (by kernel_rfl) ?_ | refine AWP.skip ?_ | refine AWP.label ?_ | refine AWP.exit ?_ | refine AWP.block ?_ | refine cTa ?_ | refine cFa ?_) | simp only [qS, Nat.reduceEqDiff, ↓reduceIte]))
          refine AWP.sub ?_ (by rfl) tail
          simp [Sub, lk]
        · have hwl : (((rowsO L).take h).drop k).length = t.length := by rw [win_len k1 k2, k4, win_length k1 k2]
          have hwr : ((rowsF L).take h).drop k = rowsF t := by rw [rowsF_win, k4]
          (repeat (first | ((with_reducible refine rgn_cons rfl (fun K hK => ?_)); simp only [go_sem, seval, ↓reduceIte, decide_true, decide_false, bne_self_eq_false, hc1, hwr]; (first | refine hK _ _ _ (by simp only [go_sem, Nat.reduceEqDiff, ↓reduceIte]; rfl) ?_ | refine ⟨_, hD, hK _ _ _ (by simp only [go_sem, Nat.reduceEqDiff, ↓reduceIte]; rfl) ?_⟩ | refine ⟨_, cI, hK _ _ _ (by simp only [go_sem, Nat.reduceEqDiff, ↓reduceIte]; rfl) ?_⟩ | refine ⟨_, cS, hK _ _ _ (by simp only [go_sem, Nat.reduceEqDiff, ↓reduceIte]; rfl) ?_⟩ | refine ⟨_, c_laws_plane5_nil 0, hK _ _ _ (by simp only [go_sem, Nat.reduceEqDiff, ↓reduceIte]; rfl) ?_⟩); clear hK; clear K) | (with_reducible first | refine rgn_nil (by first | trivial | kernel_rfl) ?_ | refine AWP.seq ?_ | refine tX hC hP (by kernel_rfl) ?_ | refine aX hC hM hP (by kernel_rfl) ?_ | refine AWP.skip ?_ | refine AWP.label ?_ | refine AWP.exit ?_ | refine AWP.block ?_ | refine cTa ?_ | refine cFa ?_) | simp only [qS, Nat.reduceEqDiff, ↓reduceIte]))
          refine AWP.sub ?_ (by rfl) tail
          simp [Sub, lk]
  · simp only [putSeq]
    obtain ⟨R0, m, t, ma, la, mb, lb, hsh, h1, hR, hla, hlb, hla1, hlb1, hD⟩ := DrawSubstituteBoth_ex (a := a) (c := c) hB
    by_cases hc : sbC m t ma la mb lb = 0
    · have cI := c_impl_SubstituteBoth_ok m ma mb t la lb hsh hla hlb hla1 hlb1 hc
      have cS := c_spec_SubstituteBoth_ok m ma mb t la lb hsh hla hlb hla1 hlb1 hc
      have dI := c_impl_SubstituteCurves_ok m ma mb t la lb hsh hla hlb hla1 hlb1 hc
      have dS := c_spec_SubstituteCurves_ok m ma mb t la lb hsh hla hlb hla1 hlb1 hc
      have hser := (sbC_ok hc).1.2.1
      obtain ⟨f1, f2, rfl, rfl, f5, f6, f7, f8, f9, f10, f11, f12, f13⟩ := sbC_facts hc
      have hBp := bthT_pl (show 0 < m by omega) t.length (pc t) (pwC m la (t.length - 1)) (pwC m lb (t.length - 1))
      have p1 := c_laws_plane5 m (bthT m t.length (pc t) (pwC m la (t.length - 1)) (pwC m lb (t.length - 1))) (shpS hBp f7).five
      have hpf := putL_facts (show 0 < m by omega) (pc t) la lb (t.length - 1)
      have p2 := c_laws_series5 m (putL m (pc t) la lb (t.length - 1)) (by rw [hpf.1]; omega)
      have p3 := c_laws_series5 m la (by omega)
      have cB := sub_both (t := t) (la := la) (lb := lb) (by omega) f2 f6 f7
      have cP := c_impl_PlaneOfSeries_ok m la hser
      have cX := sub_axis (la := la) (by omega) f2 f6 f7 f8 f10
      rw [f8] at cP
      have hlin : ((List.replicate t.length (0 : Int)).set 1 1) = linL t.length := rfl
      have hrl : (List.replicate t.length (0 : Int)).length = t.length := List.length_replicate
      have hnz : (t.length : Int) ≤ 1099511627776 := by omega
      rcases hR with rfl | ⟨k, h, L, k1, k2, k3, k4, rfl⟩
      · (repeat (first | ((with_reducible refine rgn_cons rfl (fun K hK => ?_)); simp only [go_sem, seval, ↓reduceIte, decide_true, decide_false, bne_self_eq_false, rowsO_length, Int.natCast_nonneg, Int.toNat_natCast, hnz, intL_replicate, hrl, show (1 : Int) < (t.length : Int) by omega, show (0 : Int) ≤ 1 by omega, show (1 : Int).toNat = 1 from rfl, intL_get (List.replicate t.length (0 : Int)) 1 (by rw [hrl]; omega), sizeL_intL, intL_takeR, List.length_take, show min 1 t.length = 1 by omega, Nat.mul_one, intL_modify, hlin, hbig, decide_false]; (first | refine hK _ _ _ (by simp only [go_sem, Nat.reduceEqDiff, ↓reduceIte]; rfl) ?_ | refine ⟨_, hb, hK _ _ _ (by simp only [go_sem, Nat.reduceEqDiff, ↓reduceIte]; rfl) ?_⟩ | refine ⟨_, hD, hK _ _ _ (by simp only [go_sem, Nat.reduceEqDiff, ↓reduceIte]; rfl) ?_⟩ | refine ⟨_, cI, hK _ _ _ (by simp only [go_sem, Nat.reduceEqDiff, ↓reduceIte]; rfl) ?_⟩ | refine ⟨_, cS, hK _ _ _ (by simp only [go_sem, Nat.reduceEqDiff, ↓reduceIte]; rfl) ?_⟩ | refine ⟨_, dI, hK _ _ _ (by simp only [go_sem, Nat.reduceEqDiff, ↓reduceIte]; rfl) ?_⟩ | refine ⟨_, dS, hK _ _ _ (by simp only [go_sem, Nat.reduceEqDiff, ↓reduceIte]; rfl) ?_⟩ | refine ⟨_, p1, hK _ _ _ (by simp only [go_sem, Nat.reduceEqDiff, ↓reduceIte]; rfl) ?_⟩ | refine ⟨_, p2, hK _ _ _ (by simp only [go_sem, Nat.reduceEqDiff, ↓reduceIte]; rfl) ?_⟩ | refine ⟨_, p3, hK _ _ _ (by simp only [go_sem, Nat.reduceEqDiff, ↓reduceIte]; rfl) ?_⟩ | refine ⟨_, cB, hK _ _ _ (by simp only [go_sem, Nat.reduceEqDiff, ↓reduceIte]; rfl) ?_⟩ | refine ⟨_, cP, hK _ _ _ (by simp only [go_sem, Nat.reduceEqDiff, ↓reduceIte]; rfl) ?_⟩ | refine ⟨_, cX, hK _ _ _ (by simp only [go_sem, Nat.reduceEqDiff, ↓reduceIte]; rfl) ?_⟩); clear hK; clear K) | (with_reducible first | refine rgn_nil (by first | trivial | kernel_rfl) ?_ | refine AWP.seq ?_ | refine tX hC hP (by kernel_rfl) ?_ | refine aX hC hM hP (by kernel_rfl) ?_ | refine AWP.skip ?_ | refine AWP.label ?_ | refine AWP.exit ?_ | refine AWP.block ?_ | refine cTa ?_ | refine cFa ?_) | simp only [qS, Nat.reduceEqDiff, ↓reduceIte]))
        refine AWP.sub ?_ (by rfl) tail
        simp [Sub, lk]
      · have hwl : (((rowsO L).take h).drop k).length = t.length := by rw [win_len k1 k2, k4, win_length k1 k2]
        have hwr : ((rowsF L).take h).drop k = rowsF t := by rw [rowsF_win, k4]
        (repeat (first | ((with_reducible refine rgn_cons rfl (fun K hK => ?_)); simp only [go_sem, seval, ↓reduceIte, decide_true, decide_false, bne_self_eq_false, hwl, hwr, Int.natCast_nonneg, Int.toNat_natCast, hnz, intL_replicate, hrl, show (1 : Int) < (t.length : Int) by omega, show (0 : Int) ≤ 1 by omega, show (1 : Int).toNat = 1 from rfl, intL_get (List.replicate t.length (0 : Int)) 1 (by rw [hrl]; omega), sizeL_intL, intL_takeR, List.length_take, show min 1 t.length = 1 by omega, Nat.mul_one, intL_modify, hlin, hbig, decide_false]; (first | refine hK _ _ _ (by simp only [go_sem, Nat.reduceEqDiff, ↓reduceIte]; rfl) ?_ | refine ⟨_, hb, hK _ _ _ (by simp only [go_sem, Nat.reduceEqDiff, ↓reduceIte]; rfl) ?_⟩ | refine ⟨_, hD, hK _ _ _ (by simp only [go_sem, Nat.reduceEqDiff, ↓reduceIte]; rfl) ?_⟩ | refine ⟨_, cI, hK _ _ _ (by simp only [go_sem, Nat.reduceEqDiff, ↓reduceIte]; rfl) ?_⟩ | refine ⟨_, cS, hK _ _ _ (by simp only [go_sem, Nat.reduceEqDiff, ↓reduceIte]; rfl) ?_⟩ | refine ⟨_, dI, hK _ _ _ (by simp only [go_sem, Nat.reduceEqDiff, ↓reduceIte]; rfl) ?_⟩ | refine ⟨_, dS, hK _ _ _ (by simp only [go_sem, Nat.reduceEqDiff, ↓reduceIte]; rfl) ?_⟩ | refine ⟨_, p1, hK _ _ _ (by simp only [go_sem, Nat.reduceEqDiff, ↓reduceIte]; rfl) ?_⟩ | refine ⟨_, p2, hK _ _ _ (by simp only [go_sem, Nat.reduceEqDiff, ↓reduceIte]; rfl) ?_⟩ | refine ⟨_, p3, hK _ _ _ (by simp only [go_sem, Nat.reduceEqDiff, ↓reduceIte]; rfl) ?_⟩ | refine ⟨_, cB, hK _ _ _ (by simp only [go_sem, Nat.reduceEqDiff, ↓reduceIte]; rfl) ?_⟩ | refine ⟨_, cP, hK _ _ _ (by simp only [go_sem, Nat.reduceEqDiff, ↓reduceIte]; rfl) ?_⟩ | refine ⟨_, cX, hK _ _ _ (by simp only [go_sem, Nat.reduceEqDiff, ↓reduceIte]; rfl) ?_⟩); clear hK; clear K) | (with_reducible first | refine rgn_nil (by first | trivial | kernel_rfl) ?_ | refine AWP.seq ?_ | refine tX hC hP (by kernel_rfl) ?_ | refine aX hC hM hP (by kernel_rfl) ?_ | refine AWP.skip ?_ | refine AWP.label ?_ | refine AWP.exit ?_ | refine AWP.block ?_ | refine cTa ?_ | refine cFa ?_) | simp only [qS, Nat.reduceEqDiff, ↓reduceIte]))
        refine AWP.sub ?_ (by rfl) tail
        simp [Sub, lk]
    · have cI := c_impl_SubstituteBoth_no m ma mb t la lb hsh hla hlb hla1 hlb1 hc
      have cS := c_spec_SubstituteBoth_no m ma mb t la lb hsh hla hlb hla1 hlb1 hc
      have dI := c_impl_SubstituteCurves_no m ma mb t la lb hsh hla hlb hla1 hlb1 hc
      have dS := c_spec_SubstituteCurves_no m ma mb t la lb hsh hla hlb hla1 hlb1 hc
      have hc1 : (sbC m t ma la mb lb == 0) = false := by rw [beq_eq_false_iff_ne]; exact hc
      rcases hR with rfl | ⟨k, h, L, k1, k2, k3, k4, rfl⟩
      · (repeat (first | ((with_reducible refine rgn_cons rfl (fun K hK => ?_)); simp only [go_sem, seval, ↓reduceIte, decide_true, decide_false, bne_self_eq_false, hc1, hbig, decide_false]; (first | refine hK _ _ _ (by simp only [go_sem, Nat.reduceEqDiff, ↓reduceIte]; rfl) ?_ | refine ⟨_, hb, hK _ _ _ (by simp only [go_sem, Nat.reduceEqDiff, ↓reduceIte]; rfl) ?_⟩ | refine ⟨_, hD, hK _ _ _ (by simp only [go_sem, Nat.reduceEqDiff, ↓reduceIte]; rfl) ?_⟩ | refine ⟨_, cI, hK _ _ _ (by simp only [go_sem, Nat.reduceEqDiff, ↓reduceIte]; rfl) ?_⟩ | refine ⟨_, cS, hK _ _ _ (by simp only [go_sem, Nat.reduceEqDiff, ↓reduceIte]; rfl) ?_⟩ | refine ⟨_, dI, hK _ _ _ (by simp only [go_sem, Nat.reduceEqDiff, ↓reduceIte]; rfl) ?_⟩ | refine ⟨_, dS, hK _ _ _ (by simp only [go_sem, Nat.reduceEqDiff, ↓reduceIte]; rfl) ?_⟩ | refine ⟨_, c_laws_plane5_nil 0, hK _ _ _ (by simp only [go_sem, Nat.reduceEqDiff, ↓reduceIte]; rfl) ?_⟩ | refine ⟨_, c_laws_series5_nil 0, hK _ _ _ (by simp only [go_sem, Nat.reduceEqDiff, ↓reduceIte]; rfl) ?_⟩); clear hK; clear K) | (with_reducible first | refine rgn_nil (by first | trivial | kernel_rfl) ?_ | refine AWP.seq ?_ | refine tX hC hP (by kernel_rfl) ?_ | refine aX hC hM hP (by kernel_rfl) ?_ | refine AWP.skip ?_ | refine AWP.label ?_ | refine AWP.exit ?_ | refine AWP.block ?_ | refine cTa ?_ | refine cFa ?_) | simp only [qS, Nat.reduceEqDiff, ↓reduceIte]))
        refine AWP.sub ?_ (by rfl) tail
        simp [Sub, lk]
      · have hwl : (((rowsO L).take h).drop k).length = t.length := by rw [win_len k1 k2, k4, win_length k1 k2]
        have hwr : ((rowsF L).take h).drop k = rowsF t := by rw [rowsF_win, k4]
        (repeat (first | ((with_reducible refine rgn_cons rfl (fun K hK => ?_)); simp only [go_sem, seval, ↓reduceIte, decide_true, decide_false, bne_self_eq_false, hc1, hwr, hbig, decide_false]; (first | refine hK _ _ _ (by simp only [go_sem, Nat.reduceEqDiff, ↓reduceIte]; rfl) ?_ | refine ⟨_, hb, hK _ _ _ (by simp only [go_sem, Nat.reduceEqDiff, ↓reduceIte]; rfl) ?_⟩ | refine ⟨_, hD, hK _ _ _ (by simp only [go_sem, Nat.reduceEqDiff, ↓reduceIte]; rfl) ?_⟩ | refine ⟨_, cI, hK _ _ _ (by simp only [go_sem, Nat.reduceEqDiff, ↓reduceIte]; rfl) ?_⟩ | refine ⟨_, cS, hK _ _ _ (by simp only [go_sem, Nat.reduceEqDiff, ↓reduceIte]; rfl) ?_⟩ | refine ⟨_, dI, hK _ _ _ (by simp only [go_sem, Nat.reduceEqDiff, ↓reduceIte]; rfl) ?_⟩ | refine ⟨_, dS, hK _ _ _ (by simp only [go_sem, Nat.reduceEqDiff, ↓reduceIte]; rfl) ?_⟩ | refine ⟨_, c_laws_plane5_nil 0, hK _ _ _ (by simp only [go_sem, Nat.reduceEqDiff, ↓reduceIte]; rfl) ?_⟩ | refine ⟨_, c_laws_series5_nil 0, hK _ _ _ (by simp only [go_sem, Nat.reduceEqDiff, ↓reduceIte]; rfl) ?_⟩); clear hK; clear K) | (with_reducible first | refine rgn_nil (by first | trivial | kernel_rfl) ?_ | refine AWP.seq ?_ | refine tX hC hP (by kernel_rfl) ?_ | refine aX hC hM hP (by kernel_rfl) ?_ | refine AWP.skip ?_ | refine AWP.label ?_ | refine AWP.exit ?_ | refine AWP.block ?_ | refine cTa ?_ | refine cFa ?_) | simp only [qS, Nat.reduceEqDiff, ↓reduceIte]))
        refine AWP.sub ?_ (by rfl) tail
        simp [Sub, lk]
end Go.Proofs.YtapdekacpecgiaaGreat
