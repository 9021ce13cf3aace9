/-
  FnArtinHasse.
-/
import Derived.Test.YtdnaecmcbkfpaaaGreatAy
namespace Go.Proofs.YtdnaecmcbkfpaaaGreat
open Go.RowKit
set_option linter.unusedSimpArgs false
set_option linter.unusedVariables false
set_option linter.unusedSectionVars false
set_option maxRecDepth 20000
-- FnArtinHasse.
set_option maxHeartbeats 16000000 in
theorem c_laws_FnArtinHasse (a : Option Addr) (c : Nat) (l : List Int) (hlen : l.length ≤ 9223372036854775807) (hx : ∀ x ∈ l, 0 ≤ x ∧ x ≤ 255) : AFn Tryz.prog 3 [.str (.src a c l)] (.bool true) := by
  refine AFn.of' ttOk (by decide) Tryz.func3 Tryz.ntmps3 (by rw [Tryz.results3]) (by rfl) (by rfl) (by simp) (by decide) (by simp only [go_sem, Nat.reduceAdd, ↓reduceIte]; rfl) mixed (fun C hP hM hC => ?_)
  by_cases hbig : (4096 : Int) < (l.length : Int)
  · have hb := c_laws_big a c l
    rw [decide_eq_true hbig] at hb
    (repeat (first | ((with_reducible refine rgn_cons rfl (fun K hK => ?_)); simp only [go_sem, seval, ↓reduceIte, decide_true, decide_false, hbig, decide_true]; (first | refine hK _ _ _ (by simp only [go_sem, Nat.reduceEqDiff, ↓reduceIte]; rfl) ?_ | refine ⟨_, hb, hK _ _ _ (by simp only [go_sem, Nat.reduceEqDiff, ↓reduceIte]; rfl) ?_⟩); clear hK; clear K) | (with_reducible first | refine rgn_nil (by first | trivial | kernel_rfl) ?_ | refine AWP.seq ?_ | refine tX hC hP (by kernel_rfl) ?_ | refine aX hC hM hP (by kernel_rfl) ?_ | refine AWP.skip ?_ | refine AWP.label ?_ | refine AWP.exit ?_ | refine AWP.block ?_ | refine cTa ?_ | refine cFa ?_) | simp only [qS, Nat.reduceEqDiff, ↓reduceIte]))
    (refine AWP.ret ?_; refine retOk1 (by simp only [go_sem, seval, ↓reduceIte, decide_true, decide_false]; rfl) ?_)
    rfl
  have hb := c_laws_big a c l
  rw [decide_eq_false hbig] at hb
  have hB : Byt l := ⟨by omega, hx⟩
  refine AWP.tailR 5 [(0, ⟨0, .val (.str (.src a c l))⟩)] ?_ (fun R tail => ?_)
  · simp only [dropSeq]
    refine AWP.tailR 3 [(0, ⟨0, .val (.str (.src a c l))⟩)] ?_ (fun R tail => ?_)
    · simp only [dropSeq]
      refine AWP.tailR 4 [(0, ⟨0, .val (.str (.src a c l))⟩)] ?_ (fun R tail => ?_)
      · simp only [dropSeq]
        refine AWP.ghost (t := 0) rfl rfl ?_
        refine AWP.tailF (J := Int × Int) 5 (fun s => [(0, ⟨0, .val (.str (.src a c l))⟩), (3000000, ⟨0, .val (.str (.src a c l))⟩), (33, ⟨0, .val (.addr 212 1 [] 0 [0])⟩), (212, ⟨1, .own (.box 82 (.agg [.str (.raw a l.length c), .int .i64 s.1, .int .u64 s.2]))⟩)]) (fun s => Sok l s) (fun s hS => ?_) (fun R tail => ?_)
        · simp only [dropSeq]
          obtain ⟨p, m, la, n, hla, hD⟩ := DrawWittOfBig_ex (a := a) (c := c) hB
          by_cases hc : wobC p m la n = 0
          · have f := wobC_zero hc
            have f1 := isBig_of f.1
            have hp := typB_of f.2.1
            obtain ⟨P, rfl⟩ := Int.eq_ofNat_of_zero_le (show 0 ≤ p by omega)
            obtain ⟨N, rfl⟩ := Int.eq_ofNat_of_zero_le (show 0 ≤ n by omega)
            rw [Int.toNat_natCast] at hp
            have hpb := hp.1.b
            obtain ⟨d, hd⟩ : ∃ d, la.length = d + 1 := ⟨la.length - 1, by omega⟩
            have hk := wob_code hc
            have hd1 : la.length - 1 = d := by omega
            have hN : 1 ≤ N ∧ N ≤ d := by omega
            have cWi := c_impl_WittOfBig_nat P N m la (by omega) hc
            have cWs := c_spec_WittOfBig_nat P N m la (by omega) hc
            have cBi := c_impl_BlocksOf_ok P m la (by omega) hk
            have cBs := c_spec_BlocksOf_ok P m la (by omega) hk
            rw [hd1] at cWi cWs
            rw [hk, Int.toNat_natCast, hd1] at cBi cBs
            have hzl : (wbL (bkL m (ahL P m d) la d) P d 4 N).length ≤ 4 := wbL_len _ P d 4 N
            have hbk := bkL_length m (ahL P m d) la d
            (repeat (first | ((with_reducible refine rgn_cons rfl (fun K hK => ?_)); simp only [go_sem, seval, ↓reduceIte, decide_true, decide_false]; (first | refine hK _ _ _ (by simp only [go_sem, Nat.reduceEqDiff, ↓reduceIte]; rfl) ?_ | refine ⟨_, hD, hK _ _ _ (by simp only [go_sem, Nat.reduceEqDiff, ↓reduceIte]; rfl) ?_⟩ | refine ⟨_, cWi, hK _ _ _ (by simp only [go_sem, Nat.reduceEqDiff, ↓reduceIte]; rfl) ?_⟩ | refine ⟨_, cWs, hK _ _ _ (by simp only [go_sem, Nat.reduceEqDiff, ↓reduceIte]; rfl) ?_⟩ | refine ⟨_, c_laws_witt9 P m (wbL (bkL m (ahL P m d) la d) P d 4 N) (by omega), hK _ _ _ (by simp only [go_sem, Nat.reduceEqDiff, ↓reduceIte]; rfl) ?_⟩ | refine ⟨_, cBi, hK _ _ _ (by simp only [go_sem, Nat.reduceEqDiff, ↓reduceIte]; rfl) ?_⟩ | refine ⟨_, cBs, hK _ _ _ (by simp only [go_sem, Nat.reduceEqDiff, ↓reduceIte]; rfl) ?_⟩ | refine ⟨_, c_laws_likeInts (bkL m (ahL P m d) la d) (by omega), hK _ _ _ (by simp only [go_sem, Nat.reduceEqDiff, ↓reduceIte]; rfl) ?_⟩); clear hK; clear K) | (with_reducible first | refine rgn_nil (by first | trivial | kernel_rfl) ?_ | refine AWP.seq ?_ | refine tX hC hP (by kernel_rfl) ?_ | refine aX hC hM hP (by kernel_rfl) ?_ | refine AWP.skip ?_ | refine AWP.label ?_ | refine AWP.exit ?_ | refine AWP.block ?_ | refine cTa ?_ | refine cFa ?_) | simp only [qS, Nat.reduceEqDiff, ↓reduceIte]))
            refine AWP.loop (fun w : Nat × Nat => [(58, ⟨0, .val (.int .i64 (w.1 + 1 : Nat))⟩), (57, ⟨w.2, .own (.box 31 (.agg [.int .i64 m, .sl true 2 (intL (1 :: nxL l m s w.1))]))⟩), (47, ⟨2, .own (.box 31 (.agg [.int .i64 m, .sl true 2 (intL la)]))⟩), (46, ⟨0, .val (.int .i64 P)⟩), (48, ⟨0, .val (.int .i64 N)⟩), (49, ⟨2, .own (.box 42 (.agg [.int .i64 P, .int .i64 m, .sl true 2 (intL (wbL (bkL m (ahL P m d) la d) P d 4 N))]))⟩), (33, ⟨0, .val (.addr 212 1 [] 0 [0])⟩), (212, ⟨1, .own (.box 82 (.agg [.str (.raw a l.length c), .int .i64 (nxS l m s w.1).1, .int .u64 (nxS l m s w.1).2]))⟩), (3000000, ⟨0, .val (.str (.src a c l))⟩), (0, ⟨0, .val (.str (.src a c l))⟩)]) (fun w => w.1 ≤ d) (fun w => d - w.1) (0, 2) (Nat.zero_le _) (fun i => rfl) ?_ (fun w hw => ?_)
            · simp [Sub, lk, nxL, nxS, intL]
            · obtain ⟨i, v⟩ := w
              simp only at hw ⊢
              by_cases hi : i < d
              · have hSi := nxS_ok (M := m) hS i
                have hll := nxL_length l m s i
                have hsn : (1 :: nxL l m s i) ++ [nextX l (nxS l m s i) m] = 1 :: nxL l m s (i + 1) := rfl
                (repeat (first | ((with_reducible refine rgn_cons rfl (fun K hK => ?_)); simp only [go_sem, seval, ↓reduceIte, decide_true, decide_false, show ((i + 1 : Nat) : Int) < (la.length : Int) by omega, decide_true, intL_snoc, List.length_cons, hll, hsn, show i + 1 + 1 ≤ 1099511627776 by omega, show (i + 1 + 1) * 8 ≤ 140737488355328 by omega, show IntKind.i64.wrap (((i + 1 : Nat) : Int) + 1) = ((i + 1 + 1 : Nat) : Int) by rw [wid _ (by omega) (by omega)]; omega]; (first | refine hK _ _ _ (by simp only [go_sem, Nat.reduceEqDiff, ↓reduceIte]; rfl) ?_ | refine ⟨_, c_laws_dice_below a c l hB _ hSi m, hK _ _ _ (by simp only [go_sem, Nat.reduceEqDiff, ↓reduceIte]; rfl) ?_⟩); clear hK; clear K) | (with_reducible first | refine rgn_nil (by first | trivial | kernel_rfl) ?_ | refine AWP.seq ?_ | refine tX hC hP (by kernel_rfl) ?_ | refine aX hC hM hP (by kernel_rfl) ?_ | refine AWP.skip ?_ | refine AWP.label ?_ | refine AWP.exit ?_ | refine AWP.block ?_ | refine cTa ?_ | refine cFa ?_) | simp only [qS, Nat.reduceEqDiff, ↓reduceIte]))
                exact ⟨(i + 1, v + 1), by simp only; omega, by simp only; omega, by simp [Sub, lk, nxS]⟩
              · have e : i = d := by omega
                subst e
                have hbL : (1 :: nxL l m s i).length = i + 1 := by rw [List.length_cons, nxL_length]
                have hbb := one_cons (show 1 < m by omega) (nxL_b hB (show 1 ≤ m by omega) s i)
                have hb0 : at' (1 :: nxL l m s i) 0 = 1 := rfl
                generalize 1 :: nxL l m s i = b at *
                have hbig2 := big_of (d := i) f1.1 f1.2.1 hbL (by omega) (by omega) hbb hb0
                have htL := timesL_length m la b i
                have htb := timesL_num m la b i (by omega)
                have ht0 : at' (timesL m la b i) 0 = 1 := times_at0 (by omega) (big_at f.1) hb0
                have hbig3 := big_of (d := i) f1.1 f1.2.1 htL (by omega) (by omega) htb ht0
                have hn : ((N : Int)) % (P : Int) ≠ 0 := f.2.2.2.1
                have hcb := wob_of hbig2 f.2.1 (n := (N : Int)) (by omega) hn f.2.2.2.2
                have hct := wob_of hbig3 f.2.1 (n := (N : Int)) (by omega) hn f.2.2.2.2
                have h2 := two_of f.1 hbig2 (by omega)
                have cA := c_impl_AddBig_ok m m la b (by omega) (by omega) h2
                rw [h2, hd1] at cA
                have cW2 := c_impl_WittOfBig_nat P N m b (by omega) hcb
                have cW3 := c_impl_WittOfBig_nat P N m (timesL m la b i) (by omega) hct
                rw [hbL, Nat.add_sub_cancel] at cW2
                rw [htL, Nat.add_sub_cancel] at cW3
                have hnp : N % P ≠ 0 := by omega
                have hz4 := wbL_len (bkL m (ahL P m i) b i) P i 4 N
                have hz1 := wbL_pos (b := bkL m (ahL P m i) la i) (p := P) hN.2
                have hsame := wbL_same (p := P) (d := i) (bkL m (ahL P m i) b i) (bkL m (ahL P m i) la i) 4 N
                have hw1 := wt_of (p := (P : Int)) f.2.1 f1.1 f1.2.1 (l := wbL (bkL m (ahL P m i) la i) P i 4 N) (by omega) (by omega) (wbL_b (by omega) (bkF_b (by omega) _ hd f1.2.2.2.2) 4 N)
                have hw2 := wt_of (p := (P : Int)) f.2.1 f1.1 f1.2.1 (l := wbL (bkL m (ahL P m i) b i) P i 4 N) (by omega) (by omega) (wbL_b (by omega) (bkF_b (by omega) _ hbL hbb) 4 N)
                have cS := c_impl_AddWitt_nat P m _ _ hw1 hw2 hsame
                rw [← wob_add hp.1 (by omega) f.2.2.2.2 (by omega) ⟨hd, f1.2.2.2.2⟩ ⟨hbL, hbb⟩ (big_at f.1) hb0 hN.1 hN.2 hnp] at cS
                have hz5 := wbL_len (bkL m (ahL P m i) (timesL m la b i) i) P i 4 N
                (repeat (first | ((with_reducible refine rgn_cons rfl (fun K hK => ?_)); simp only [go_sem, seval, ↓reduceIte, decide_true, decide_false, hd, show ¬ ((i + 1 : Nat) : Int) < ((i + 1 : Nat) : Int) by omega, decide_false]; (first | refine hK _ _ _ (by simp only [go_sem, Nat.reduceEqDiff, ↓reduceIte]; rfl) ?_ | refine ⟨_, cA, hK _ _ _ (by simp only [go_sem, Nat.reduceEqDiff, ↓reduceIte]; rfl) ?_⟩ | refine ⟨_, cW2, hK _ _ _ (by simp only [go_sem, Nat.reduceEqDiff, ↓reduceIte]; rfl) ?_⟩ | refine ⟨_, cW3, hK _ _ _ (by simp only [go_sem, Nat.reduceEqDiff, ↓reduceIte]; rfl) ?_⟩ | refine ⟨_, cS, hK _ _ _ (by simp only [go_sem, Nat.reduceEqDiff, ↓reduceIte]; rfl) ?_⟩ | refine ⟨_, c_laws_witt9 P m (wbL (bkL m (ahL P m i) (timesL m la b i) i) P i 4 N) (by omega), hK _ _ _ (by simp only [go_sem, Nat.reduceEqDiff, ↓reduceIte]; rfl) ?_⟩); clear hK; clear K) | (with_reducible first | refine rgn_nil (by first | trivial | kernel_rfl) ?_ | refine AWP.seq ?_ | refine tX hC hP (by kernel_rfl) ?_ | refine aX hC hM hP (by kernel_rfl) ?_ | refine AWP.skip ?_ | refine AWP.label ?_ | refine AWP.exit ?_ | refine AWP.block ?_ | refine cTa ?_ | refine cFa ?_) | simp only [qS, Nat.reduceEqDiff, ↓reduceIte]))
                (refine AWP.ret ?_; refine retOk1 (by simp only [go_sem, seval, ↓reduceIte, decide_true, decide_false]; rfl) ?_)
                rfl
          · by_cases hk : blkC p m la = 0
            · have f := blkC_zero hk
              have f2 := isBig_of f.1
              have hkl := bkL_length m (ahL p.toNat m (la.length - 1)) la (la.length - 1)
              (repeat (first | ((with_reducible refine rgn_cons rfl (fun K hK => ?_)); simp only [go_sem, seval, ↓reduceIte, decide_true, decide_false, hk, bneT hc]; (first | refine hK _ _ _ (by simp only [go_sem, Nat.reduceEqDiff, ↓reduceIte]; rfl) ?_ | refine ⟨_, hD, hK _ _ _ (by simp only [go_sem, Nat.reduceEqDiff, ↓reduceIte]; rfl) ?_⟩ | refine ⟨_, c_impl_WittOfBig_no p m n la (by omega) hc, hK _ _ _ (by simp only [go_sem, Nat.reduceEqDiff, ↓reduceIte]; rfl) ?_⟩ | refine ⟨_, c_spec_WittOfBig_no p m n la (by omega) hc, hK _ _ _ (by simp only [go_sem, Nat.reduceEqDiff, ↓reduceIte]; rfl) ?_⟩ | refine ⟨_, c_laws_witt9_nil 0 0, hK _ _ _ (by simp only [go_sem, Nat.reduceEqDiff, ↓reduceIte]; rfl) ?_⟩ | refine ⟨_, c_impl_BlocksOf_ok p m la (by omega) hk, hK _ _ _ (by simp only [go_sem, Nat.reduceEqDiff, ↓reduceIte]; rfl) ?_⟩ | refine ⟨_, c_spec_BlocksOf_ok p m la (by omega) hk, hK _ _ _ (by simp only [go_sem, Nat.reduceEqDiff, ↓reduceIte]; rfl) ?_⟩ | refine ⟨_, c_laws_likeInts (bkL m (ahL p.toNat m (la.length - 1)) la (la.length - 1)) (by omega), hK _ _ _ (by simp only [go_sem, Nat.reduceEqDiff, ↓reduceIte]; rfl) ?_⟩); clear hK; clear K) | (with_reducible first | refine rgn_nil (by first | trivial | kernel_rfl) ?_ | refine AWP.seq ?_ | refine tX hC hP (by kernel_rfl) ?_ | refine aX hC hM hP (by kernel_rfl) ?_ | refine AWP.skip ?_ | refine AWP.label ?_ | refine AWP.exit ?_ | refine AWP.block ?_ | refine cTa ?_ | refine cFa ?_) | simp only [qS, Nat.reduceEqDiff, ↓reduceIte]))
              (refine AWP.ret ?_; refine retOk1 (by simp only [go_sem, seval, ↓reduceIte, decide_true, decide_false]; rfl) ?_)
              rfl
            · (repeat (first | ((with_reducible refine rgn_cons rfl (fun K hK => ?_)); simp only [go_sem, seval, ↓reduceIte, decide_true, decide_false, bneT hc]; (first | refine hK _ _ _ (by simp only [go_sem, Nat.reduceEqDiff, ↓reduceIte]; rfl) ?_ | refine ⟨_, hD, hK _ _ _ (by simp only [go_sem, Nat.reduceEqDiff, ↓reduceIte]; rfl) ?_⟩ | refine ⟨_, c_impl_WittOfBig_no p m n la (by omega) hc, hK _ _ _ (by simp only [go_sem, Nat.reduceEqDiff, ↓reduceIte]; rfl) ?_⟩ | refine ⟨_, c_spec_WittOfBig_no p m n la (by omega) hc, hK _ _ _ (by simp only [go_sem, Nat.reduceEqDiff, ↓reduceIte]; rfl) ?_⟩ | refine ⟨_, c_laws_witt9_nil 0 0, hK _ _ _ (by simp only [go_sem, Nat.reduceEqDiff, ↓reduceIte]; rfl) ?_⟩ | refine ⟨_, c_impl_BlocksOf_no p m la (by omega) hk, hK _ _ _ (by simp only [go_sem, Nat.reduceEqDiff, ↓reduceIte]; rfl) ?_⟩ | refine ⟨_, c_spec_BlocksOf_no p m la (by omega) hk, hK _ _ _ (by simp only [go_sem, Nat.reduceEqDiff, ↓reduceIte]; rfl) ?_⟩ | refine ⟨_, c_laws_likeInts_nil, hK _ _ _ (by simp only [go_sem, Nat.reduceEqDiff, ↓reduceIte]; rfl) ?_⟩); clear hK; clear K) | (with_reducible first | refine rgn_nil (by first | trivial | kernel_rfl) ?_ | refine AWP.seq ?_ | refine tX hC hP (by kernel_rfl) ?_ | refine aX hC hM hP (by kernel_rfl) ?_ | refine AWP.skip ?_ | refine AWP.label ?_ | refine AWP.exit ?_ | refine AWP.block ?_ | refine cTa ?_ | refine cFa ?_) | simp only [qS, Nat.reduceEqDiff, ↓reduceIte]))
              (refine AWP.ret ?_; refine retOk1 (by simp only [go_sem, seval, ↓reduceIte, decide_true, decide_false]; rfl) ?_)
              rfl
        · simp only [putSeq]
          have hR := roll0_ok l 7016
          obtain ⟨p, m, x, t, d, hx8, hw, hD⟩ := DrawExponentialOfWitt_ex (a := a) (c := c) hB
          cases hw with
          | none =>
            have he : expC p m d [] = 1 := by simp [expC, isWt]
            have hne : ¬ expC p m d [] = 0 := by omega
            have cI := AFn_nil (by decide) (c_impl_ExponentialOfWitt_no p m d [] (by simp) hne)
            have cS := AFn_nil (by decide) (c_spec_ExponentialOfWitt_no p m d [] (by simp) hne)
            rw [he] at cI cS
            (repeat (first | ((with_reducible refine rgn_cons rfl (fun K hK => ?_)); simp only [go_sem, seval, ↓reduceIte, decide_true, decide_false, show ((1 : Int) == 0) = false from rfl, bne_self_eq_false]; (first | refine hK _ _ _ (by simp only [go_sem, Nat.reduceEqDiff, ↓reduceIte]; rfl) ?_ | refine ⟨_, hD, hK _ _ _ (by simp only [go_sem, Nat.reduceEqDiff, ↓reduceIte]; rfl) ?_⟩ | refine ⟨_, cI, hK _ _ _ (by simp only [go_sem, Nat.reduceEqDiff, ↓reduceIte]; rfl) ?_⟩ | refine ⟨_, cS, hK _ _ _ (by simp only [go_sem, Nat.reduceEqDiff, ↓reduceIte]; rfl) ?_⟩ | refine ⟨_, c_laws_series9_nil 0, hK _ _ _ (by simp only [go_sem, Nat.reduceEqDiff, ↓reduceIte]; rfl) ?_⟩ | refine ⟨_, c_laws_roll a c l 7016 hB, hK _ _ _ (by simp only [go_sem, Nat.reduceEqDiff, ↓reduceIte]; rfl) ?_⟩); clear hK; clear K) | (with_reducible first | refine rgn_nil (by first | trivial | kernel_rfl) ?_ | refine AWP.seq ?_ | refine tX hC hP (by kernel_rfl) ?_ | refine aX hC hM hP (by kernel_rfl) ?_ | refine AWP.skip ?_ | refine AWP.label ?_ | refine AWP.exit ?_ | refine AWP.block ?_ | refine cTa ?_ | refine cFa ?_) | simp only [qS, Nat.reduceEqDiff, ↓reduceIte]))
            refine AWP.sub ?_ (by rfl) (tail _ hR)
            simp [Sub, lk]
          | full =>
            by_cases hc : expC p m d x = 0
            · have f := expC_zero hc
              have f1 := isWt_of f.1
              have hp := typB_of f1.1
              obtain ⟨P, rfl⟩ := Int.eq_ofNat_of_zero_le (show 0 ≤ p by omega)
              obtain ⟨D, rfl⟩ := Int.eq_ofNat_of_zero_le (show 0 ≤ d by omega)
              rw [Int.toNat_natCast] at hp
              have hpb := hp.1.b
              obtain ⟨r, hr⟩ : ∃ r, x.length = r := ⟨_, rfl⟩
              have cI := c_impl_ExponentialOfWitt_nat P D m x (by omega) hc
              have cS := c_spec_ExponentialOfWitt_nat P D m x (by omega) hc
              rw [hr] at cI cS
              have hel := expL_facts (show 1 < m by omega) (ahL P m D) x P D r
              (repeat (first | ((with_reducible refine rgn_cons rfl (fun K hK => ?_)); simp only [go_sem, seval, ↓reduceIte, decide_true, decide_false]; (first | refine hK _ _ _ (by simp only [go_sem, Nat.reduceEqDiff, ↓reduceIte]; rfl) ?_ | refine ⟨_, hD, hK _ _ _ (by simp only [go_sem, Nat.reduceEqDiff, ↓reduceIte]; rfl) ?_⟩ | refine ⟨_, cI, hK _ _ _ (by simp only [go_sem, Nat.reduceEqDiff, ↓reduceIte]; rfl) ?_⟩ | refine ⟨_, cS, hK _ _ _ (by simp only [go_sem, Nat.reduceEqDiff, ↓reduceIte]; rfl) ?_⟩ | refine ⟨_, c_laws_series9 m (expL m (ahL P m D) x P D r) (by omega), hK _ _ _ (by simp only [go_sem, Nat.reduceEqDiff, ↓reduceIte]; rfl) ?_⟩ | refine ⟨_, c_laws_roll a c l 7016 hB, hK _ _ _ (by simp only [go_sem, Nat.reduceEqDiff, ↓reduceIte]; rfl) ?_⟩); clear hK; clear K) | (with_reducible first | refine rgn_nil (by first | trivial | kernel_rfl) ?_ | refine AWP.seq ?_ | refine tX hC hP (by kernel_rfl) ?_ | refine aX hC hM hP (by kernel_rfl) ?_ | refine AWP.skip ?_ | refine AWP.label ?_ | refine AWP.exit ?_ | refine AWP.block ?_ | refine cTa ?_ | refine cFa ?_) | simp only [qS, Nat.reduceEqDiff, ↓reduceIte]))
              refine AWP.loop (fun w : Nat × Nat => match w with
                | (0, v) => [(36, ⟨0, .val (.int .i64 0)⟩), (35, ⟨0, .val (.int .i64 1)⟩), (34, ⟨2, .own (.box 42 (.agg [.int .i64 P, .int .i64 m, .nil]))⟩), (33, ⟨0, .val (.addr 212 1 [] 0 [0])⟩), (212, ⟨1, .own (.box 82 (.agg [.str (.raw a l.length c), .int .i64 (roll0 l 7016).1, .int .u64 (roll0 l 7016).2]))⟩), (27, ⟨2, .own (.box 42 (.agg [.int .i64 P, .int .i64 m, .sl true 2 (intL x)]))⟩), (28, ⟨0, .val (.int .i64 D)⟩), (29, ⟨2, .own (.box 31 (.agg [.int .i64 m, .sl true 2 (intL (expL m (ahL P m D) x P D r))]))⟩), (3000000, ⟨0, .val (.str (.src a c l))⟩), (0, ⟨0, .val (.str (.src a c l))⟩)]
                | (i + 1, v) => [(36, ⟨0, .val (.int .i64 (i + 1 : Nat))⟩), (35, ⟨0, .val (.int .i64 (P ^ (i + 1) : Nat))⟩), (34, ⟨v, .own (.box 42 (.agg [.int .i64 P, .int .i64 m, .sl true 2 (intL (nxL l m (roll0 l 7016) (i + 1)))]))⟩), (33, ⟨0, .val (.addr 212 1 [] 0 [0])⟩), (212, ⟨1, .own (.box 82 (.agg [.str (.raw a l.length c), .int .i64 (nxS l m (roll0 l 7016) (i + 1)).1, .int .u64 (nxS l m (roll0 l 7016) (i + 1)).2]))⟩), (27, ⟨2, .own (.box 42 (.agg [.int .i64 P, .int .i64 m, .sl true 2 (intL x)]))⟩), (28, ⟨0, .val (.int .i64 D)⟩), (29, ⟨2, .own (.box 31 (.agg [.int .i64 m, .sl true 2 (intL (expL m (ahL P m D) x P D r))]))⟩), (3000000, ⟨0, .val (.str (.src a c l))⟩), (0, ⟨0, .val (.str (.src a c l))⟩)]) (fun w => w.1 ≤ r) (fun w => r - w.1) (0, 1) (Nat.zero_le _) (fun w => by obtain ⟨k, v⟩ := w; cases k <;> rfl) ?_ (fun w hw => ?_)
              · simp [Sub, lk]
              · obtain ⟨i, v⟩ := w
                simp only at hw
                cases i with
                | zero =>
                  simp only
                  (repeat (first | ((with_reducible refine rgn_cons rfl (fun K hK => ?_)); simp only [go_sem, seval, ↓reduceIte, decide_true, decide_false, hr, show (0 : Int) < (r : Int) by omega, decide_true, show [T.int .i64 (nextX l (roll0 l 7016) m)] = intL (nxL l m (roll0 l 7016) 1) from rfl, nxL_length, List.length_nil, Nat.zero_add, show 1 ≤ 1099511627776 by omega, show 1 * 8 ≤ 140737488355328 by omega, show IntKind.i64.wrap (1 * (P : Int)) = ((P ^ (0 + 1) : Nat) : Int) by rw [Int.one_mul, Nat.zero_add, Nat.pow_one, wid _ (by omega) (by omega)]]; (first | refine hK _ _ _ (by simp only [go_sem, Nat.reduceEqDiff, ↓reduceIte]; rfl) ?_ | refine ⟨_, c_laws_dice_below a c l hB _ hR m, hK _ _ _ (by simp only [go_sem, Nat.reduceEqDiff, ↓reduceIte]; rfl) ?_⟩); clear hK; clear K) | (with_reducible first | refine rgn_nil (by first | trivial | kernel_rfl) ?_ | refine AWP.seq ?_ | refine tX hC hP (by kernel_rfl) ?_ | refine aX hC hM hP (by kernel_rfl) ?_ | refine AWP.skip ?_ | refine AWP.label ?_ | refine AWP.exit ?_ | refine AWP.block ?_ | refine cTa ?_ | refine cFa ?_) | simp only [qS, Nat.reduceEqDiff, ↓reduceIte]))
                  exact ⟨(0 + 1, 3), by simp only; omega, by simp only; omega, by simp [Sub, lk, nxS]; rfl⟩
                | succ i =>
                  simp only
                  by_cases hi : i + 1 < r
                  · have hSi := nxS_ok (M := m) hR (i + 1)
                    have hll := nxL_length l m (roll0 l 7016) (i + 1)
                    have hsn : nxL l m (roll0 l 7016) (i + 1) ++ [nextX l (nxS l m (roll0 l 7016) (i + 1)) m] = nxL l m (roll0 l 7016) (i + 1 + 1) := rfl
                    have hp4 : P ^ (i + 1 + 1) ≤ 2401 := Nat.le_trans (Nat.pow_le_pow_left hpb.2 (i + 1 + 1)) (Nat.le_trans (Nat.pow_le_pow_right (by omega) (show i + 1 + 1 ≤ 4 by omega)) (by decide))
                    have hpw2 : IntKind.i64.wrap (((P ^ (i + 1) : Nat) : Int) * (P : Int)) = ((P ^ (i + 1 + 1) : Nat) : Int) := by
                      rw [← Int.natCast_mul, show P ^ (i + 1) * P = P ^ (i + 1 + 1) from rfl]
                      exact wid _ (by omega) (by omega)
                    (repeat (first | ((with_reducible refine rgn_cons rfl (fun K hK => ?_)); simp only [go_sem, seval, ↓reduceIte, decide_true, decide_false, hr, show ((i + 1 : Nat) : Int) < (r : Int) by omega, decide_true, intL_snoc, hll, hsn, show i + 1 + 1 ≤ 1099511627776 by omega, show (i + 1 + 1) * 8 ≤ 140737488355328 by omega, show IntKind.i64.wrap (((i + 1 : Nat) : Int) + 1) = ((i + 1 + 1 : Nat) : Int) by rw [wid _ (by omega) (by omega)]; omega, hpw2]; (first | refine hK _ _ _ (by simp only [go_sem, Nat.reduceEqDiff, ↓reduceIte]; rfl) ?_ | refine ⟨_, c_laws_dice_below a c l hB _ hSi m, hK _ _ _ (by simp only [go_sem, Nat.reduceEqDiff, ↓reduceIte]; rfl) ?_⟩); clear hK; clear K) | (with_reducible first | refine rgn_nil (by first | trivial | kernel_rfl) ?_ | refine AWP.seq ?_ | refine tX hC hP (by kernel_rfl) ?_ | refine aX hC hM hP (by kernel_rfl) ?_ | refine AWP.skip ?_ | refine AWP.label ?_ | refine AWP.exit ?_ | refine AWP.block ?_ | refine cTa ?_ | refine cFa ?_) | simp only [qS, Nat.reduceEqDiff, ↓reduceIte]))
                    exact ⟨(i + 1 + 1, v + 1), by simp only; omega, by simp only; omega, by simp [Sub, lk, nxS]⟩
                  · have e : i + 1 = r := by omega
                    rw [e]
                    have hS' := nxS_ok (M := m) hR r
                    have hvl := nxL_length l m (roll0 l 7016) r
                    have hvb := nxL_b hB (show 1 ≤ m by omega) (roll0 l 7016) r
                    generalize nxL l m (roll0 l 7016) r = v1 at *
                    generalize nxS l m (roll0 l 7016) r = s1 at *
                    have w2 := wt_of f1.1 f1.2.1 f1.2.2.1 (by omega) (by omega) hvb
                    have cA := c_impl_AddWitt_nat P m x v1 f.1 w2 (by omega)
                    rw [hr] at cA
                    have hwl := awL_length m P x v1 r
                    have w3 := wt_of f1.1 f1.2.1 f1.2.2.1 (by omega) (by omega) (awL_b (show 0 < m by omega) P x v1 r)
                    have cV := c_impl_ExponentialOfWitt_nat P D m v1 (by omega) (exp_code w2 f.2.1 f.2.2)
                    have cU := c_impl_ExponentialOfWitt_nat P D m (awL m P x v1 r) (by omega) (exp_code w3 f.2.1 f.2.2)
                    rw [hvl] at cV
                    rw [hwl] at cU
                    have hev := expL_facts (show 1 < m by omega) (ahL P m D) v1 P D r
                    have heu := expL_facts (show 1 < m by omega) (ahL P m D) (awL m P x v1 r) P D r
                    have s1' := ser_of (d := D) f1.2.1 f1.2.2.1 hel.1 (by omega) (by omega) hel.2
                    have s2' := ser_of (d := D) f1.2.1 f1.2.2.1 hev.1 (by omega) (by omega) hev.2
                    have cM := c_impl_MultiplySeries_ok m _ _ D s1' s2' hel.1 hev.1
                    have hadd : ∀ k, k ≤ D → k < P ^ r → at' (timesL m (expL m (ahL P m D) x P D r) (expL m (ahL P m D) v1 P D r) D) k = at' (expL m (ahL P m D) (awL m P x v1 r) P D r) k := fun k hk1 hk2 => exp_add hp.1 (by omega) f.2.2 (by omega) (by omega) hk1 hk2
                    have htl := timesL_length m (expL m (ahL P m D) x P D r) (expL m (ahL P m D) v1 P D r) D
                    have hul := heu.1
                    generalize timesL m (expL m (ahL P m D) x P D r) (expL m (ahL P m D) v1 P D r) D = L1 at *
                    generalize expL m (ahL P m D) (awL m P x v1 r) P D r = L2 at *
                    (repeat (first | ((with_reducible refine rgn_cons rfl (fun K hK => ?_)); simp only [go_sem, seval, ↓reduceIte, decide_true, decide_false, hr, show ¬ (r : Int) < (r : Int) by omega, decide_false]; (first | refine hK _ _ _ (by simp only [go_sem, Nat.reduceEqDiff, ↓reduceIte]; rfl) ?_ | refine ⟨_, cA, hK _ _ _ (by simp only [go_sem, Nat.reduceEqDiff, ↓reduceIte]; rfl) ?_⟩ | refine ⟨_, cV, hK _ _ _ (by simp only [go_sem, Nat.reduceEqDiff, ↓reduceIte]; rfl) ?_⟩ | refine ⟨_, cU, hK _ _ _ (by simp only [go_sem, Nat.reduceEqDiff, ↓reduceIte]; rfl) ?_⟩ | refine ⟨_, cM, hK _ _ _ (by simp only [go_sem, Nat.reduceEqDiff, ↓reduceIte]; rfl) ?_⟩); clear hK; clear K) | (with_reducible first | refine rgn_nil (by first | trivial | kernel_rfl) ?_ | refine AWP.seq ?_ | refine tX hC hP (by kernel_rfl) ?_ | refine aX hC hM hP (by kernel_rfl) ?_ | refine AWP.skip ?_ | refine AWP.label ?_ | refine AWP.exit ?_ | refine AWP.block ?_ | refine cTa ?_ | refine cFa ?_) | simp only [qS, Nat.reduceEqDiff, ↓reduceIte]))
                    refine AWP.loop (fun k : Nat => [(45, ⟨0, .val (.int .i64 k)⟩), (28, ⟨0, .val (.int .i64 D)⟩), (35, ⟨0, .val (.int .i64 (P ^ r : Nat))⟩), (43, ⟨2, .own (.box 31 (.agg [.int .i64 m, .sl true 2 (intL L1)]))⟩), (41, ⟨2, .own (.box 31 (.agg [.int .i64 m, .sl true 2 (intL L2)]))⟩), (33, ⟨0, .val (.addr 212 1 [] 0 [0])⟩), (212, ⟨1, .own (.box 82 (.agg [.str (.raw a l.length c), .int .i64 s1.1, .int .u64 s1.2]))⟩), (3000000, ⟨0, .val (.str (.src a c l))⟩), (0, ⟨0, .val (.str (.src a c l))⟩)]) (fun k => k ≤ D + 1) (fun k => D + 1 - k) 0 (Nat.zero_le _) (fun k => rfl) ?_ (fun k hk => ?_)
                    · simp [Sub, lk]
                    · by_cases h1 : k ≤ D
                      · by_cases h2 : k < P ^ r
                        · have g1 : k < L1.length := by omega
                          have g2 : k < L2.length := by omega
                          (repeat (first | ((with_reducible refine rgn_cons rfl (fun K hK => ?_)); simp only [go_sem, seval, ↓reduceIte, decide_true, decide_false, show (k : Int) ≤ (D : Int) by omega, show (k : Int) < ((P ^ r : Nat) : Int) by omega, decide_true, htl, hul, Int.toNat_natCast, Int.natCast_nonneg, Nat.mul_one, show (k : Int) < ((D + 1 : Nat) : Int) by omega, intL_get _ k g1, intL_get _ k g2, sizeL_take _ k (Nat.le_of_lt g1), sizeL_take _ k (Nat.le_of_lt g2), show L1.getD k 0 = at' L1 k from rfl, show L2.getD k 0 = at' L2 k from rfl, hadd k h1 h2, bne_self_eq_false, wid ((k : Int) + 1) (by omega) (by omega)]; (refine hK _ _ _ (by simp only [go_sem, Nat.reduceEqDiff, ↓reduceIte]; rfl) ?_); clear hK; clear K) | (with_reducible first | refine rgn_nil (by first | trivial | kernel_rfl) ?_ | refine AWP.seq ?_ | refine tX hC hP (by kernel_rfl) ?_ | refine aX hC hM hP (by kernel_rfl) ?_ | refine AWP.skip ?_ | refine AWP.label ?_ | refine AWP.exit ?_ | refine AWP.block ?_ | refine cTa ?_ | refine cFa ?_) | simp only [qS, Nat.reduceEqDiff, ↓reduceIte]))
                          exact ⟨k + 1, by omega, by omega, by simp [Sub, lk]⟩
                        · (repeat (first | ((with_reducible refine rgn_cons rfl (fun K hK => ?_)); simp only [go_sem, seval, ↓reduceIte, decide_true, decide_false, show (k : Int) ≤ (D : Int) by omega, show ¬ (k : Int) < ((P ^ r : Nat) : Int) by omega, decide_true, decide_false]; (refine hK _ _ _ (by simp only [go_sem, Nat.reduceEqDiff, ↓reduceIte]; rfl) ?_); clear hK; clear K) | (with_reducible first | refine rgn_nil (by first | trivial | kernel_rfl) ?_ | refine AWP.seq ?_ | refine tX hC hP (by kernel_rfl) ?_ | refine aX hC hM hP (by kernel_rfl) ?_ | refine AWP.skip ?_ | refine AWP.label ?_ | refine AWP.exit ?_ | refine AWP.block ?_ | refine cTa ?_ | refine cFa ?_) | simp only [qS, Nat.reduceEqDiff, ↓reduceIte]))
                          refine AWP.sub ?_ (by rfl) (tail _ hS')
                          simp [Sub, lk]
                      · (repeat (first | ((with_reducible refine rgn_cons rfl (fun K hK => ?_)); simp only [go_sem, seval, ↓reduceIte, decide_true, decide_false, show ¬ (k : Int) ≤ (D : Int) by omega, decide_false]; (refine hK _ _ _ (by simp only [go_sem, Nat.reduceEqDiff, ↓reduceIte]; rfl) ?_); clear hK; clear K) | (with_reducible first | refine rgn_nil (by first | trivial | kernel_rfl) ?_ | refine AWP.seq ?_ | refine tX hC hP (by kernel_rfl) ?_ | refine aX hC hM hP (by kernel_rfl) ?_ | refine AWP.skip ?_ | refine AWP.label ?_ | refine AWP.exit ?_ | refine AWP.block ?_ | refine cTa ?_ | refine cFa ?_) | simp only [qS, Nat.reduceEqDiff, ↓reduceIte]))
                        refine AWP.sub ?_ (by rfl) (tail _ hS')
                        simp [Sub, lk]
            · (repeat (first | ((with_reducible refine rgn_cons rfl (fun K hK => ?_)); simp only [go_sem, seval, ↓reduceIte, decide_true, decide_false, beqF hc]; (first | refine hK _ _ _ (by simp only [go_sem, Nat.reduceEqDiff, ↓reduceIte]; rfl) ?_ | refine ⟨_, hD, hK _ _ _ (by simp only [go_sem, Nat.reduceEqDiff, ↓reduceIte]; rfl) ?_⟩ | refine ⟨_, c_impl_ExponentialOfWitt_no p m d x (by omega) hc, hK _ _ _ (by simp only [go_sem, Nat.reduceEqDiff, ↓reduceIte]; rfl) ?_⟩ | refine ⟨_, c_spec_ExponentialOfWitt_no p m d x (by omega) hc, hK _ _ _ (by simp only [go_sem, Nat.reduceEqDiff, ↓reduceIte]; rfl) ?_⟩ | refine ⟨_, c_laws_series9_nil 0, hK _ _ _ (by simp only [go_sem, Nat.reduceEqDiff, ↓reduceIte]; rfl) ?_⟩ | refine ⟨_, c_laws_roll a c l 7016 hB, hK _ _ _ (by simp only [go_sem, Nat.reduceEqDiff, ↓reduceIte]; rfl) ?_⟩); clear hK; clear K) | (with_reducible first | refine rgn_nil (by first | trivial | kernel_rfl) ?_ | refine AWP.seq ?_ | refine tX hC hP (by kernel_rfl) ?_ | refine aX hC hM hP (by kernel_rfl) ?_ | refine AWP.skip ?_ | refine AWP.label ?_ | refine AWP.exit ?_ | refine AWP.block ?_ | refine cTa ?_ | refine cFa ?_) | simp only [qS, Nat.reduceEqDiff, ↓reduceIte]))
              refine AWP.sub ?_ (by rfl) (tail _ hR)
              simp [Sub, lk]
      · simp only [putSeq]
        have hD := c_spec_DrawBigOfBlocks a c l hB
        have hdl := dlL_length l (mxA (qrB l (from0 l))) (nextS l (qrS l (from0 l)) 12) (dbN l)
        have hdb := dbN_b hB
        generalize dlL l (mxA (qrB l (from0 l))) (nextS l (qrS l (from0 l)) 12) (dbN l) = L at *
        generalize qrA l (from0 l) = p at *
        generalize qrB l (from0 l) = m at *
        by_cases hc : bobC p m L = 0
        · have f := bobC_zero hc
          have f2 := degC_nums f.2.1
          have hp := typB_of f.1
          have ho := bobL_facts (m := m) (by omega) (ahL p.toNat m L.length) L L.length L.length
          have hk := bob_code hc
          have hback := bob_back (m := m) (l := L) hp.1 (by omega) f.2.2 (by omega) f2.2.2.2.2
          have cB := c_impl_BlocksOf_ok p m (bobL m (ahL p.toNat m L.length) L L.length L.length) (by omega) hk
          rw [hk, ho.1, Nat.add_sub_cancel, hback] at cB
          (repeat (first | ((with_reducible refine rgn_cons rfl (fun K hK => ?_)); simp only [go_sem, seval, ↓reduceIte, decide_true, decide_false, hc]; (first | refine hK _ _ _ (by simp only [go_sem, Nat.reduceEqDiff, ↓reduceIte]; rfl) ?_ | refine ⟨_, hD, hK _ _ _ (by simp only [go_sem, Nat.reduceEqDiff, ↓reduceIte]; rfl) ?_⟩ | refine ⟨_, c_impl_BigOfBlocks_ok p m L (by omega) hc, hK _ _ _ (by simp only [go_sem, Nat.reduceEqDiff, ↓reduceIte]; rfl) ?_⟩ | refine ⟨_, c_spec_BigOfBlocks_ok p m L (by omega) hc, hK _ _ _ (by simp only [go_sem, Nat.reduceEqDiff, ↓reduceIte]; rfl) ?_⟩ | refine ⟨_, c_laws_series9 m (bobL m (ahL p.toNat m L.length) L L.length L.length) (by omega), hK _ _ _ (by simp only [go_sem, Nat.reduceEqDiff, ↓reduceIte]; rfl) ?_⟩ | refine ⟨_, cB, hK _ _ _ (by simp only [go_sem, Nat.reduceEqDiff, ↓reduceIte]; rfl) ?_⟩ | refine ⟨_, c_laws_likeInts L (by omega), hK _ _ _ (by simp only [go_sem, Nat.reduceEqDiff, ↓reduceIte]; rfl) ?_⟩); clear hK; clear K) | (with_reducible first | refine rgn_nil (by first | trivial | kernel_rfl) ?_ | refine AWP.seq ?_ | refine tX hC hP (by kernel_rfl) ?_ | refine aX hC hM hP (by kernel_rfl) ?_ | refine AWP.skip ?_ | refine AWP.label ?_ | refine AWP.exit ?_ | refine AWP.block ?_ | refine cTa ?_ | refine cFa ?_) | simp only [qS, Nat.reduceEqDiff, ↓reduceIte]))
          refine AWP.sub ?_ (by rfl) tail
          simp [Sub, lk]
        · (repeat (first | ((with_reducible refine rgn_cons rfl (fun K hK => ?_)); simp only [go_sem, seval, ↓reduceIte, decide_true, decide_false, beqF hc]; (first | refine hK _ _ _ (by simp only [go_sem, Nat.reduceEqDiff, ↓reduceIte]; rfl) ?_ | refine ⟨_, hD, hK _ _ _ (by simp only [go_sem, Nat.reduceEqDiff, ↓reduceIte]; rfl) ?_⟩ | refine ⟨_, c_impl_BigOfBlocks_no p m L (by omega) hc, hK _ _ _ (by simp only [go_sem, Nat.reduceEqDiff, ↓reduceIte]; rfl) ?_⟩ | refine ⟨_, c_spec_BigOfBlocks_no p m L (by omega) hc, hK _ _ _ (by simp only [go_sem, Nat.reduceEqDiff, ↓reduceIte]; rfl) ?_⟩ | refine ⟨_, c_laws_series9_nil 0, hK _ _ _ (by simp only [go_sem, Nat.reduceEqDiff, ↓reduceIte]; rfl) ?_⟩); clear hK; clear K) | (with_reducible first | refine rgn_nil (by first | trivial | kernel_rfl) ?_ | refine AWP.seq ?_ | refine tX hC hP (by kernel_rfl) ?_ | refine aX hC hM hP (by kernel_rfl) ?_ | refine AWP.skip ?_ | refine AWP.label ?_ | refine AWP.exit ?_ | refine AWP.block ?_ | refine cTa ?_ | refine cFa ?_) | simp only [qS, Nat.reduceEqDiff, ↓reduceIte]))
          refine AWP.sub ?_ (by rfl) tail
          simp [Sub, lk]
    · simp only [putSeq]
      have hD := c_spec_DrawArtinHasse a c l hB
      generalize qrA l (from0 l) = p at *
      generalize qrB l (from0 l) = m at *
      generalize nextX l (qrS l (from0 l)) 12 = d at *
      by_cases hc : ahC p m d = 0
      · have f := ahC_zero hc
        have hl2 := ahL_length p.toNat m d.toNat
        (repeat (first | ((with_reducible refine rgn_cons rfl (fun K hK => ?_)); simp only [go_sem, seval, ↓reduceIte, decide_true, decide_false]; (first | refine hK _ _ _ (by simp only [go_sem, Nat.reduceEqDiff, ↓reduceIte]; rfl) ?_ | refine ⟨_, hD, hK _ _ _ (by simp only [go_sem, Nat.reduceEqDiff, ↓reduceIte]; rfl) ?_⟩ | refine ⟨_, c_impl_ArtinHasse_ok p m d hc, hK _ _ _ (by simp only [go_sem, Nat.reduceEqDiff, ↓reduceIte]; rfl) ?_⟩ | refine ⟨_, c_spec_ArtinHasse_ok p m d hc, hK _ _ _ (by simp only [go_sem, Nat.reduceEqDiff, ↓reduceIte]; rfl) ?_⟩ | refine ⟨_, c_laws_series9 m (ahL p.toNat m d.toNat) (by omega), hK _ _ _ (by simp only [go_sem, Nat.reduceEqDiff, ↓reduceIte]; rfl) ?_⟩); clear hK; clear K) | (with_reducible first | refine rgn_nil (by first | trivial | kernel_rfl) ?_ | refine AWP.seq ?_ | refine tX hC hP (by kernel_rfl) ?_ | refine aX hC hM hP (by kernel_rfl) ?_ | refine AWP.skip ?_ | refine AWP.label ?_ | refine AWP.exit ?_ | refine AWP.block ?_ | refine cTa ?_ | refine cFa ?_) | simp only [qS, Nat.reduceEqDiff, ↓reduceIte]))
        refine AWP.sub ?_ (by rfl) tail
        simp [Sub, lk]
      · (repeat (first | ((with_reducible refine rgn_cons rfl (fun K hK => ?_)); simp only [go_sem, seval, ↓reduceIte, decide_true, decide_false]; (first | refine hK _ _ _ (by simp only [go_sem, Nat.reduceEqDiff, ↓reduceIte]; rfl) ?_ | refine ⟨_, hD, hK _ _ _ (by simp only [go_sem, Nat.reduceEqDiff, ↓reduceIte]; rfl) ?_⟩ | refine ⟨_, c_impl_ArtinHasse_no p m d hc, hK _ _ _ (by simp only [go_sem, Nat.reduceEqDiff, ↓reduceIte]; rfl) ?_⟩ | refine ⟨_, c_spec_ArtinHasse_no p m d hc, hK _ _ _ (by simp only [go_sem, Nat.reduceEqDiff, ↓reduceIte]; rfl) ?_⟩ | refine ⟨_, c_laws_series9_nil 0, hK _ _ _ (by simp only [go_sem, Nat.reduceEqDiff, ↓reduceIte]; rfl) ?_⟩); clear hK; clear K) | (with_reducible first | refine rgn_nil (by first | trivial | kernel_rfl) ?_ | refine AWP.seq ?_ | refine tX hC hP (by kernel_rfl) ?_ | refine aX hC hM hP (by kernel_rfl) ?_ | refine AWP.skip ?_ | refine AWP.label ?_ | refine AWP.exit ?_ | refine AWP.block ?_ | refine cTa ?_ | refine cFa ?_) | simp only [qS, Nat.reduceEqDiff, ↓reduceIte]))
        refine AWP.sub ?_ (by rfl) tail
        simp [Sub, lk]
  · simp only [putSeq]
    have hD := c_spec_DrawArtinHasseCoefficient a c l hB
    generalize nextX l (qrS l (from0 l)) 12 - (nextX l (nextS l (qrS l (from0 l)) 12) 24).tdiv 23 = n at *
    generalize qrA l (from0 l) = p at *
    by_cases hc : typB p = true ∧ 0 ≤ n ∧ n ≤ 10
    · have hp := typB_of hc.1
      have hpb := hp.1.b
      have hz : ahcC p n = 0 := if_pos hc
      have hbt := ah_bot hc
      (repeat (first | ((with_reducible refine rgn_cons rfl (fun K hK => ?_)); simp only [go_sem, seval, ↓reduceIte, decide_true, decide_false, hbig, decide_false, bne_self_eq_false, hz, beq_self_eq_true, show p ≠ 0 by omega, beqF hbt]; (first | refine hK _ _ _ (by simp only [go_sem, Nat.reduceEqDiff, ↓reduceIte]; rfl) ?_ | refine ⟨_, hb, hK _ _ _ (by simp only [go_sem, Nat.reduceEqDiff, ↓reduceIte]; rfl) ?_⟩ | refine ⟨_, hD, hK _ _ _ (by simp only [go_sem, Nat.reduceEqDiff, ↓reduceIte]; rfl) ?_⟩ | refine ⟨_, c_impl_ArtinHasseCoefficient p n, hK _ _ _ (by simp only [go_sem, Nat.reduceEqDiff, ↓reduceIte]; rfl) ?_⟩ | refine ⟨_, c_spec_ArtinHasseCoefficient p n, hK _ _ _ (by simp only [go_sem, Nat.reduceEqDiff, ↓reduceIte]; rfl) ?_⟩); clear hK; clear K) | (with_reducible first | refine rgn_nil (by first | trivial | kernel_rfl) ?_ | refine AWP.seq ?_ | refine tX hC hP (by kernel_rfl) ?_ | refine aX hC hM hP (by kernel_rfl) ?_ | refine AWP.skip ?_ | refine AWP.label ?_ | refine AWP.exit ?_ | refine AWP.block ?_ | refine cTa ?_ | refine cFa ?_) | simp only [qS, Nat.reduceEqDiff, ↓reduceIte]))
      refine AWP.sub ?_ (by rfl) tail
      simp [Sub, lk]
    · have hz : ahcC p n = 2 := if_neg hc
      (repeat (first | ((with_reducible refine rgn_cons rfl (fun K hK => ?_)); simp only [go_sem, seval, ↓reduceIte, decide_true, decide_false, hbig, decide_false, bne_self_eq_false, hz, show ((2 : Int) == 0) = false from rfl]; (first | refine hK _ _ _ (by simp only [go_sem, Nat.reduceEqDiff, ↓reduceIte]; rfl) ?_ | refine ⟨_, hb, hK _ _ _ (by simp only [go_sem, Nat.reduceEqDiff, ↓reduceIte]; rfl) ?_⟩ | refine ⟨_, hD, hK _ _ _ (by simp only [go_sem, Nat.reduceEqDiff, ↓reduceIte]; rfl) ?_⟩ | refine ⟨_, c_impl_ArtinHasseCoefficient p n, hK _ _ _ (by simp only [go_sem, Nat.reduceEqDiff, ↓reduceIte]; rfl) ?_⟩ | refine ⟨_, c_spec_ArtinHasseCoefficient p n, hK _ _ _ (by simp only [go_sem, Nat.reduceEqDiff, ↓reduceIte]; rfl) ?_⟩); clear hK; clear K) | (with_reducible first | refine rgn_nil (by first | trivial | kernel_rfl) ?_ | refine AWP.seq ?_ | refine tX hC hP (by kernel_rfl) ?_ | refine aX hC hM hP (by kernel_rfl) ?_ | refine AWP.skip ?_ | refine AWP.label ?_ | refine AWP.exit ?_ | refine AWP.block ?_ | refine cTa ?_ | refine cFa ?_) | simp only [qS, Nat.reduceEqDiff, ↓reduceIte]))
      refine AWP.sub ?_ (by rfl) tail
      simp [Sub, lk]


end Go.Proofs.YtdnaecmcbkfpaaaGreat
