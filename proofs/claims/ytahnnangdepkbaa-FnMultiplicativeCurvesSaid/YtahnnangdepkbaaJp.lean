/-
  The law of multiplicative curves.
-/
import Derived.Test.YtahnnangdepkbaaJo
import Derived.Test.YtahnnangdepkbaaBy
import Derived.Test.YtahnnangdepkbaaVz
namespace Go.Proofs.Ytahnnangdepkbaa
open Go.RowKit
set_option linter.unusedSimpArgs false
set_option linter.unusedVariables false
set_option linter.unusedSectionVars false
set_option maxRecDepth 20000
-- The law of multiplicative curves.
def mList : List Int := [2, 3, 4, 5, 6, 9, 25, 101]
theorem mList_b {i : Nat} (hi : i < 8) : 2 ≤ mList.getD i 0 ∧ mList.getD i 0 ≤ 101 := by
  rcases (show i = 0 ∨ i = 1 ∨ i = 2 ∨ i = 3 ∨ i = 4 ∨ i = 5 ∨ i = 6 ∨ i = 7 by omega) with rfl | rfl | rfl | rfl | rfl | rfl | rfl | rfl <;> decide
/-- 1 and the opposites of the first coordinates. -/
def uL (m : Int) (x : List Int) (i : Nat) : List Int := 1 :: tab i (fun j => (m - at' x j) % m)
theorem uL_length (m : Int) (x : List Int) (i : Nat) : (uL m x i).length = i + 1 := by rw [uL, List.length_cons, tab_length]
theorem uL_snoc (m : Int) (x : List Int) (i : Nat) : uL m x i ++ [(m - at' x i) % m] = uL m x (i + 1) := by simp [uL, tab, List.range_succ]
theorem uL_at {m : Int} {x : List Int} {i j : Nat} (h : j < i) : at' (uL m x i) (j + 1) = (m - at' x j) % m := by
  rw [uL]
  show at' (tab i (fun j => (m - at' x j) % m)) j = _
  rw [at_tab h]
theorem uL_num {m : Int} (hm : 1 < m) (x : List Int) (i : Nat) : ∀ y ∈ uL m x i, 0 ≤ y ∧ y < m := fun y hy => by
  rcases List.mem_cons.1 hy with h | h
  · omega
  · obtain ⟨j, _, rfl⟩ := mem_tab.1 h
    exact emod_b _ m (by omega)
theorem uL_opp {m : Int} (hm : 1 < m) {x : List Int} {d : Nat} (hx : ∀ y ∈ x, 0 ≤ y ∧ y < m) : Opp m d (0 :: x) (uL m x d) := ⟨rfl, rfl, fun i h1 h2 => by
  obtain ⟨j, rfl⟩ : ∃ j, i = j + 1 := ⟨i - 1, by omega⟩
  rw [uL_at (by omega), show at' (0 :: x) (j + 1) = at' x j from rfl, Int.add_emod_emod, show at' x j + (m - at' x j) = m by omega, Int.emod_self]⟩
theorem uL_mcv {m : Int} {x : List Int} {d : Nat} (hm : 1 < m) (hx : ∀ y ∈ x, 0 ≤ y ∧ y < m) (hl : x.length = d) : MCv m d (0 :: x) := ⟨by rw [List.length_cons, hl], fun y hy => by
  rcases List.mem_cons.1 hy with h | h
  · omega
  · exact hx y h, rfl⟩
theorem uL_big {m : Int} (hm : 1 < m) (hm2 : m ≤ 10000) (x : List Int) {d : Nat} (hd : 1 ≤ d) (hd2 : d ≤ 10) : isBig m (uL m x d) = true := by
  have hl := uL_length m x d
  have hn := uL_num hm x d
  have h5 : (uL m x d).getD 0 0 = 1 := rfl
  have h6 : (uL m x d).all (isNum m) = true := by
    rw [List.all_eq_true]
    intro y hy
    have := hn y hy
    simp only [isNum, Bool.and_eq_true, decide_eq_true_eq]
    omega
  rw [isBig, isSer, h6, h5, hl]
  simp
  omega
set_option maxHeartbeats 8000000 in
theorem c_laws_FnMultiplicativeCurves (a : Option Addr) (c : Nat) (l : List Int) (hlen : l.length ≤ 9223372036854775807) (hx : ∀ x ∈ l, 0 ≤ x ∧ x ≤ 255) : AFn Try.prog 3 [.str (.src a c l)] (.bool true) := by
  refine AFn.of' ttOk (by decide) Try.func3 Try.ntmps3 (by rw [Try.results3]) (by rfl) (by rfl) (by simp) (by decide) (by simp only [go_sem, Nat.reduceAdd, ↓reduceIte]; rfl) mixed (fun C hP hM hC => ?_)
  by_cases hbig : (4096 : Int) < (l.length : Int)
  · have hb := c_laws_big a c l
    rw [decide_eq_true hbig] at hb
    (repeat (first | ((with_reducible refine rgn_cons rfl (fun K hK => ?_)); simp only [go_sem, seval, ↓reduceIte, decide_true, decide_false, hbig, decide_true]; (first | refine hK _ _ _ (by simp only [go_sem, Nat.reduceEqDiff, ↓reduceIte]; rfl) ?_ | refine ⟨_, hb, hK _ _ _ (by simp only [go_sem, Nat.reduceEqDiff, ↓reduceIte]; rfl) ?_⟩); clear hK; clear K) | (with_reducible first | refine rgn_nil (by first | trivial | kernel_rfl) ?_ | refine AWP.seq ?_ | refine tX hC hP (by kernel_rfl) ?_ | refine aX hC hM hP (by kernel_rfl) ?_ | refine AWP.skip ?_ | refine AWP.label ?_ | refine AWP.exit ?_ | refine AWP.block ?_ | refine cTa ?_ | refine cFa ?_) | simp only [qS, Nat.reduceEqDiff, ↓reduceIte]))
    (refine AWP.ret ?_; refine retOk1 (by simp only [go_sem, seval, ↓reduceIte, decide_true, decide_false]; rfl) ?_)
    rfl
  have hb := c_laws_big a c l
  rw [decide_eq_false hbig] at hb
  have hB : Byt l := ⟨by omega, hx⟩
  refine AWP.ghost (t := 0) rfl rfl ?_
  have hS0 := roll0_ok l 964
  have hR := c_laws_roll a c l 964 hB
  obtain ⟨s0, hs0⟩ : ∃ s, roll0 l 964 = s := ⟨_, rfl⟩
  rw [hs0] at hR hS0
  have x1 := nextX_bound hB s0 8
  have b1 := c_laws_dice_below a c l hB s0 hS0 8
  have hS1 := nextS_ok hS0 8
  obtain ⟨i0, hi0⟩ := Int.eq_ofNat_of_zero_le x1.1
  rw [hi0] at x1 b1
  obtain ⟨s1, hs1⟩ : ∃ s, nextS l s0 8 = s := ⟨_, rfl⟩
  rw [hs1] at b1 hS1
  have hi8 : i0 < 8 := by have := x1.2.1 (by omega); omega
  have hM1 := mList_b hi8
  obtain ⟨m, hm⟩ : ∃ m, mList.getD i0 0 = m := ⟨_, rfl⟩
  rw [hm] at hM1
  have x2 := nextX_bound hB s1 7
  have b2 := c_laws_dice_below a c l hB s1 hS1 7
  have hS2 := nextS_ok hS1 7
  obtain ⟨e0, he0⟩ := Int.eq_ofNat_of_zero_le x2.1
  rw [he0] at x2 b2
  obtain ⟨s2, hs2⟩ : ∃ s, nextS l s1 7 = s := ⟨_, rfl⟩
  rw [hs2] at b2 hS2
  have he7 : e0 < 7 := by have := x2.2.1 (by omega); omega
  obtain ⟨d, hd⟩ : ∃ d, e0 + 2 = d := ⟨_, rfl⟩
  have hd2 : 2 ≤ d := by omega
  have hd8 : d ≤ 8 := by omega
  have w1 : IntKind.i64.wrap (2 + (e0 : Int)) = (d : Int) := by rw [wid _ (by omega) (by omega)]; omega
  have cMu := c_impl_MultiplicativeLaw m d (by omega) (by omega) hd2 (by omega)
  have b3 := c_laws_below5 a c l hB s2 hS2 d m (by omega)
  have hS3 := n5S_ok (M := m) hS2 d
  have hxl := n5L_length l m s2 d
  have hxb := n5L_b hB (show 1 ≤ m by omega) s2 d
  obtain ⟨xs, hxs⟩ : ∃ xs, n5L l m s2 d = xs := ⟨_, rfl⟩
  obtain ⟨s3, hs3⟩ : ∃ s, n5S l m s2 d = s := ⟨_, rfl⟩
  rw [hxs] at b3 hxl hxb
  rw [hs3] at b3 hS3
  have b4 := c_laws_below5 a c l hB s3 hS3 d m (by omega)
  have hS4 := n5S_ok (M := m) hS3 d
  have hyl := n5L_length l m s3 d
  have hyb := n5L_b hB (show 1 ≤ m by omega) s3 d
  obtain ⟨ys, hys⟩ : ∃ ys, n5L l m s3 d = ys := ⟨_, rfl⟩
  obtain ⟨s4, hs4⟩ : ∃ s, n5S l m s3 d = s := ⟨_, rfl⟩
  rw [hys] at b4 hyl hyb
  rw [hs4] at b4 hS4
  clear hs0 hs1 hs2 hs3 hs4 hi0 he0 hxs hys
  have hm0 : m ≠ 0 := by omega
  have hda := uL_mcv (show 1 < m by omega) hxb hxl
  have hdb := uL_mcv (show 1 < m by omega) hyb hyl
  have hoa := uL_opp (d := d) (show 1 < m by omega) hxb
  have hob := uL_opp (d := d) (show 1 < m by omega) hyb
  have hub := uL_big (show 1 < m by omega) (by omega) xs (d := d) (by omega) (by omega)
  have hvb := uL_big (show 1 < m by omega) (by omega) ys (d := d) (by omega) (by omega)
  have hul := uL_length m xs d
  have hvl := uL_length m ys d
  have hun := uL_num (show 1 < m by omega) xs d
  obtain ⟨u, hu⟩ : ∃ u, uL m xs d = u := ⟨_, rfl⟩
  obtain ⟨w, hw0⟩ : ∃ w, uL m ys d = w := ⟨_, rfl⟩
  rw [hu] at hoa hub hul hun
  rw [hw0] at hob hvb hvl
  obtain ⟨K2, hK2⟩ : ∃ K2 : Int, (if (d : Int) - 1 < 4 then (d : Int) - 1 else 4) = K2 := ⟨_, rfl⟩
  have hK3 : 1 ≤ K2 ∧ K2 ≤ 4 ∧ K2 ≤ (d : Int) - 1 := by
    rw [← hK2]
    split <;> omega
  have x3 := nextX_bound hB s4 K2
  have b5 := c_laws_dice_below a c l hB s4 hS4 K2
  obtain ⟨f0, hf0⟩ := Int.eq_ofNat_of_zero_le x3.1
  rw [hf0] at x3 b5
  have hfK := x3.2.1 hK3.1
  obtain ⟨n, hn⟩ : ∃ n, f0 + 2 = n := ⟨_, rfl⟩
  have hn2 : 2 ≤ n := by omega
  have hn5 : n ≤ 5 := by omega
  have hni : n ≤ d := by omega
  have w2 : IntKind.i64.wrap (2 + (f0 : Int)) = (n : Int) := by rw [wid _ (by omega) (by omega)]; omega
  have cS := c_impl_SumUnder m d (0 :: xs) (0 :: ys) (by omega) (by omega) hd2 (by omega) hda hdb
  have h2w : twoB m u m w = 0 := by simp [twoB, hub, hvb, alikeB, hul, hvl]
  have cA := c_impl_AddBig_ok m m u w (by omega) (by omega) h2w
  rw [h2w, hul, Nat.add_sub_cancel] at cA
  have cFr := c_impl_FrobeniusUnder m d n (0 :: xs) (by omega) (by omega) hd2 (by omega) hda hn2 hn5 hni
  rw [frW_mul] at cFr
  have hfc : froC m u n = 0 := by
    rw [froC, if_pos hub, if_pos (by simp; omega), if_neg (by omega)]
  have cB := c_impl_FrobeniusOfBig_ok m n u (by omega) hfc
  rw [hfc, hul, Nat.add_sub_cancel, Int.toNat_natCast] at cB
  have cV := c_impl_VerschiebungOf m d n (0 :: xs) (by omega) (by omega) hd2 (by omega) hda hn2 hn5
  have hbc : bigC m u n 1 100 = 0 := by
    rw [bigC, if_pos hub, if_pos (by simp; omega)]
  have cW := c_impl_VerschiebungOfBig_ok m n u (by omega) hbc
  rw [hbc, hul, Nat.add_sub_cancel, Int.toNat_natCast] at cW
  have lP := putL_facts (show 0 < m by omega) (pc (tab2 (d + 1) (mulT m))) (0 :: xs) (0 :: ys) d
  have lT := timesL_length m u w d
  have lT2 := timesL_num m u w d (show 0 < m by omega)
  have lF : (frW m n d (mulT m) (0 :: xs)).length = d / n + 1 := tab_length _ _
  have lB := fL_facts (show 1 < m by omega) n (d / n) (cL m u d) d
  have lV := spreadL_length (0 :: xs) n d
  have lW := spreadL_length u n d
  have mS := fun k (h1 : 1 ≤ k) (h2 : k ≤ d) => sum_mul (show 1 < m by omega) hd2 hoa hob h1 h2
  have mF := fun k (h1 : 1 ≤ k) (h2 : k ≤ d / n) => frW_big (show 1 < m by omega) hn2 hn5 hni hoa.a0 ⟨hul, hun⟩ hoa.u0 hoa.au h1 h2
  have mV := fun k (h1 : 1 ≤ k) (h2 : k ≤ d) => ver_mul (show 0 < n by omega) hoa h1 h2
  have nF : ∀ x ∈ frW m n d (mulT m) (0 :: xs), 0 ≤ x ∧ x < m := fun x hx => by
    obtain ⟨q, hq, rfl⟩ := mem_tab.1 hx
    have h9 := (toN_ok (show 0 < m by omega) (ruL n).length (ruL n) (0 :: xs) (d + 1) (mulT m) n).at (i := q * n) (by
      have := Nat.le_trans (Nat.mul_le_mul_right n (show q ≤ d / n by omega)) (Nat.div_mul_le_self d n); omega)
    exact at_bound h9.2 (by omega) 0
  have nV : ∀ x ∈ spreadL (0 :: xs) n d, 0 ≤ x ∧ x < m := fun x hx => by
    obtain ⟨q, hq, rfl⟩ := mem_tab.1 hx
    split
    · exact at_bound hda.num (by omega) _
    · omega
  have nW : ∀ x ∈ spreadL u n d, 0 ≤ x ∧ x < m := fun x hx => by
    obtain ⟨q, hq, rfl⟩ := mem_tab.1 hx
    split
    · exact at_bound hun (by omega) _
    · omega
  have nB := lB.2
  have lB := lB.1
  obtain ⟨e, he⟩ : ∃ e, d / n = e := ⟨_, rfl⟩
  have hed : e ≤ d := by rw [← he]; exact Nat.div_le_self d n
  rw [he] at lF lB mF nB cB
  generalize putL m (pc (tab2 (d + 1) (mulT m))) (0 :: xs) (0 :: ys) d = pS at *
  generalize timesL m u w d = pT at *
  generalize frW m n d (mulT m) (0 :: xs) = pF at *
  generalize fL m n e (cL m u d) d = pB at *
  generalize spreadL (0 :: xs) n d = pV at *
  generalize spreadL u n d = pW at *
  have lP2 := lP.2
  have lP := lP.1
  refine AWP.tailR 11 [(12, ⟨d + 2, .own (.box 36 (.agg [.int .i64 m, .sl true 2 (intL u)]))⟩), (13, ⟨d + 2, .own (.box 36 (.agg [.int .i64 m, .sl true 2 (intL w)]))⟩), (10, ⟨2, .own (.box 36 (.agg [.int .i64 m, .sl true 2 (intL (0 :: xs))]))⟩), (11, ⟨2, .own (.box 36 (.agg [.int .i64 m, .sl true 2 (intL (0 :: ys))]))⟩), (6, ⟨2, .own (.box 31 (.agg [.int .i64 m, .sl true 27 (rowsO (tab2 (d + 1) (mulT m)))]))⟩), (5, ⟨0, .val (.int .i64 d)⟩), (4, ⟨0, .val (.int .i64 m)⟩), (3, ⟨0, .val (.addr 33 1 [] 0 [0])⟩), (33, ⟨1, .own (.box 43 (.agg [.str (.raw a l.length c), .int .i64 s4.1, .int .u64 s4.2]))⟩), (3000000, ⟨0, .val (.str (.src a c l))⟩), (0, ⟨0, .val (.str (.src a c l))⟩)] ?_ (fun R tail => ?_)
  · simp only [dropSeq]
    refine AWP.tailR 7 [(15, ⟨2, .own (.box 36 (.agg [.int .i64 m, .sl true 2 (intL pS)]))⟩), (16, ⟨0, .val (.int .i64 0)⟩), (17, ⟨2, .own (.box 36 (.agg [.int .i64 m, .sl true 2 (intL pT)]))⟩), (18, ⟨0, .val (.int .i64 0)⟩), (20, ⟨2, .own (.box 36 (.agg [.int .i64 m, .sl true 2 (intL pF)]))⟩), (21, ⟨0, .val (.int .i64 0)⟩), (22, ⟨2, .own (.box 36 (.agg [.int .i64 m, .sl true 2 (intL pB)]))⟩), (23, ⟨0, .val (.int .i64 0)⟩), (24, ⟨2, .own (.box 36 (.agg [.int .i64 m, .sl true 2 (intL pV)]))⟩), (25, ⟨0, .val (.int .i64 0)⟩), (26, ⟨2, .own (.box 36 (.agg [.int .i64 m, .sl true 2 (intL pW)]))⟩), (27, ⟨0, .val (.int .i64 0)⟩), (4, ⟨0, .val (.int .i64 m)⟩)] ?_ (fun R tail => ?_)
    · simp only [dropSeq]
      clear cS cA cFr cB cV cW hb hR b1 b2 b3 b4 b5 cMu hfc hbc h2w hK2 hK3 x3 hfK w2 x1 x2 hub hvb hul hvl hun hoa hob hda hdb hxb hyb hxl hyl he hn hn2 hn5 hni
      refine AWP.tailR 2 [(20, ⟨2, .own (.box 36 (.agg [.int .i64 m, .sl true 2 (intL pF)]))⟩), (22, ⟨2, .own (.box 36 (.agg [.int .i64 m, .sl true 2 (intL pB)]))⟩), (4, ⟨0, .val (.int .i64 m)⟩)] ?_ (fun R tail => ?_)
      · simp only [dropSeq]
        (repeat (first | ((with_reducible refine rgn_cons rfl (fun K hK => ?_)); simp only [go_sem, seval, ↓reduceIte, decide_true, decide_false]; (refine hK _ _ _ (by simp only [go_sem, Nat.reduceEqDiff, ↓reduceIte]; rfl) ?_); clear hK; clear K) | (with_reducible first | refine rgn_nil (by first | trivial | kernel_rfl) ?_ | refine AWP.seq ?_ | refine tX hC hP (by kernel_rfl) ?_ | refine aX hC hM hP (by kernel_rfl) ?_ | refine AWP.skip ?_ | refine AWP.label ?_ | refine AWP.exit ?_ | refine AWP.block ?_ | refine cTa ?_ | refine cFa ?_) | simp only [qS, Nat.reduceEqDiff, ↓reduceIte]))
        refine AWP.loop (fun i : Nat => [(29, ⟨0, .val (.int .i64 (i + 1 : Nat))⟩), (20, ⟨2, .own (.box 36 (.agg [.int .i64 m, .sl true 2 (intL pF)]))⟩), (22, ⟨2, .own (.box 36 (.agg [.int .i64 m, .sl true 2 (intL pB)]))⟩), (4, ⟨0, .val (.int .i64 m)⟩)]) (fun i => i ≤ e) (fun i => e - i) 0 (Nat.zero_le _) (fun i => rfl) ?_ (fun i0 hi0 => ?_)
        · simp [Sub, lk]
        · obtain ⟨i, hi⟩ : ∃ i, i0 + 1 = i := ⟨_, rfl⟩
          rw [hi]
          by_cases hlt : i ≤ e
          · have y1 := at_bound nF (show 0 < m by omega) i
            have y2 := at_bound nB (show 0 < m by omega) i
            (repeat (first | ((with_reducible refine rgn_cons rfl (fun K hK => ?_)); simp only [go_sem, seval, ↓reduceIte, decide_true, decide_false, lF, lB, show (i : Int) < ((e + 1 : Nat) : Int) by omega, decide_true, Int.natCast_nonneg, Int.toNat_natCast, Nat.mul_one, hm0, intL_get pF i (by omega), intL_get pB i (by omega), sizeL_take pF i (by omega), sizeL_take pB i (by omega), show pF.getD i 0 = at' pF i from rfl, show pB.getD i 0 = at' pB i from rfl, wid (at' pF i + at' pB i) (by omega) (by omega), tm (at' pF i + at' pB i) m (by omega), mF i (by omega) hlt, show ((0 : Int) != 0) = false from rfl, wid ((i : Int) + 1) (by omega) (by omega)]; (refine hK _ _ _ (by simp only [go_sem, Nat.reduceEqDiff, ↓reduceIte]; rfl) ?_); clear hK; clear K) | (with_reducible first | refine rgn_nil (by first | trivial | kernel_rfl) ?_ | refine AWP.seq ?_ | refine tX hC hP (by kernel_rfl) ?_ | refine aX hC hM hP (by kernel_rfl) ?_ | refine AWP.skip ?_ | refine AWP.label ?_ | refine AWP.exit ?_ | refine AWP.block ?_ | refine cTa ?_ | refine cFa ?_) | simp only [qS, Nat.reduceEqDiff, ↓reduceIte]))
            exact ⟨i0 + 1, by omega, by omega, by simp [Sub, lk]; omega⟩
          · (repeat (first | ((with_reducible refine rgn_cons rfl (fun K hK => ?_)); simp only [go_sem, seval, ↓reduceIte, decide_true, decide_false, lF, lB, show ¬ (i : Int) < ((e + 1 : Nat) : Int) by omega, decide_false]; (refine hK _ _ _ (by simp only [go_sem, Nat.reduceEqDiff, ↓reduceIte]; rfl) ?_); clear hK; clear K) | (with_reducible first | refine rgn_nil (by first | trivial | kernel_rfl) ?_ | refine AWP.seq ?_ | refine tX hC hP (by kernel_rfl) ?_ | refine aX hC hM hP (by kernel_rfl) ?_ | refine AWP.skip ?_ | refine AWP.label ?_ | refine AWP.exit ?_ | refine AWP.block ?_ | refine cTa ?_ | refine cFa ?_) | simp only [qS, Nat.reduceEqDiff, ↓reduceIte]))
            (refine AWP.ret ?_; refine retOk1 (by simp only [go_sem, seval, ↓reduceIte, decide_true, decide_false]; rfl) ?_)
            rfl
      · simp only [putSeq]
        (repeat (first | ((with_reducible refine rgn_cons rfl (fun K hK => ?_)); simp only [go_sem, seval, ↓reduceIte, decide_true, decide_false, show ((0 : Int) != 0) = false from rfl, bne_self_eq_false, lP, lT, lF, lB, lV, lW]; (refine hK _ _ _ (by simp only [go_sem, Nat.reduceEqDiff, ↓reduceIte]; rfl) ?_); clear hK; clear K) | (with_reducible first | refine rgn_nil (by first | trivial | kernel_rfl) ?_ | refine AWP.seq ?_ | refine tX hC hP (by kernel_rfl) ?_ | refine aX hC hM hP (by kernel_rfl) ?_ | refine AWP.skip ?_ | refine AWP.label ?_ | refine AWP.exit ?_ | refine AWP.block ?_ | refine cTa ?_ | refine cFa ?_) | simp only [qS, Nat.reduceEqDiff, ↓reduceIte]))
        refine AWP.loop (fun i : Nat => [(28, ⟨0, .val (.int .i64 (i + 1 : Nat))⟩), (15, ⟨2, .own (.box 36 (.agg [.int .i64 m, .sl true 2 (intL pS)]))⟩), (17, ⟨2, .own (.box 36 (.agg [.int .i64 m, .sl true 2 (intL pT)]))⟩), (24, ⟨2, .own (.box 36 (.agg [.int .i64 m, .sl true 2 (intL pV)]))⟩), (26, ⟨2, .own (.box 36 (.agg [.int .i64 m, .sl true 2 (intL pW)]))⟩), (20, ⟨2, .own (.box 36 (.agg [.int .i64 m, .sl true 2 (intL pF)]))⟩), (22, ⟨2, .own (.box 36 (.agg [.int .i64 m, .sl true 2 (intL pB)]))⟩), (4, ⟨0, .val (.int .i64 m)⟩)]) (fun i => i ≤ d) (fun i => d - i) 0 (Nat.zero_le _) (fun i => rfl) ?_ (fun i0 hi0 => ?_)
        · simp [Sub, lk]
        · obtain ⟨i, hi⟩ : ∃ i, i0 + 1 = i := ⟨_, rfl⟩
          rw [hi]
          by_cases hlt : i ≤ d
          · have y1 := at_bound lP2 (show 0 < m by omega) i
            have y2 := at_bound lT2 (show 0 < m by omega) i
            have y3 := at_bound nV (show 0 < m by omega) i
            have y4 := at_bound nW (show 0 < m by omega) i
            (repeat (first | ((with_reducible refine rgn_cons rfl (fun K hK => ?_)); simp only [go_sem, seval, ↓reduceIte, decide_true, decide_false, lP, lT, lV, lW, show (i : Int) < ((d + 1 : Nat) : Int) by omega, decide_true, Int.natCast_nonneg, Int.toNat_natCast, Nat.mul_one, hm0, intL_get pS i (by omega), intL_get pT i (by omega), sizeL_take pS i (by omega), sizeL_take pT i (by omega), show pS.getD i 0 = at' pS i from rfl, show pT.getD i 0 = at' pT i from rfl, wid (at' pS i + at' pT i) (by omega) (by omega), tm (at' pS i + at' pT i) m (by omega), mS i (by omega) hlt, intL_get pV i (by omega), intL_get pW i (by omega), sizeL_take pV i (by omega), sizeL_take pW i (by omega), show pV.getD i 0 = at' pV i from rfl, show pW.getD i 0 = at' pW i from rfl, wid (at' pV i + at' pW i) (by omega) (by omega), tm (at' pV i + at' pW i) m (by omega), mV i (by omega) hlt, show ((0 : Int) != 0) = false from rfl, wid ((i : Int) + 1) (by omega) (by omega)]; (refine hK _ _ _ (by simp only [go_sem, Nat.reduceEqDiff, ↓reduceIte]; rfl) ?_); clear hK; clear K) | (with_reducible first | refine rgn_nil (by first | trivial | kernel_rfl) ?_ | refine AWP.seq ?_ | refine tX hC hP (by kernel_rfl) ?_ | refine aX hC hM hP (by kernel_rfl) ?_ | refine AWP.skip ?_ | refine AWP.label ?_ | refine AWP.exit ?_ | refine AWP.block ?_ | refine cTa ?_ | refine cFa ?_) | simp only [qS, Nat.reduceEqDiff, ↓reduceIte]))
            exact ⟨i0 + 1, by omega, by omega, by simp [Sub, lk]; omega⟩
          · (repeat (first | ((with_reducible refine rgn_cons rfl (fun K hK => ?_)); simp only [go_sem, seval, ↓reduceIte, decide_true, decide_false, lP, show ¬ (i : Int) < ((d + 1 : Nat) : Int) by omega, decide_false]; (refine hK _ _ _ (by simp only [go_sem, Nat.reduceEqDiff, ↓reduceIte]; rfl) ?_); clear hK; clear K) | (with_reducible first | refine rgn_nil (by first | trivial | kernel_rfl) ?_ | refine AWP.seq ?_ | refine tX hC hP (by kernel_rfl) ?_ | refine aX hC hM hP (by kernel_rfl) ?_ | refine AWP.skip ?_ | refine AWP.label ?_ | refine AWP.exit ?_ | refine AWP.block ?_ | refine cTa ?_ | refine cFa ?_) | simp only [qS, Nat.reduceEqDiff, ↓reduceIte]))
            refine AWP.sub ?_ (by rfl) tail
            simp [Sub, lk]
    · simp only [putSeq]
      have wd : IntKind.i64.wrap ((d : Int) - 1) = (d : Int) - 1 := wid _ (by omega) (by omega)
      clear mS mF mV nF nV nW nB hfc hbc h2w hb hR b1 b2 b3 b4 cMu hub hvb hul hvl hun hoa hob hda hdb hxb hyb hxl hyl he lP lP2 lT lT2 lF lB lV lW hn hn2 hn5 hni x1 x2 x3
      (repeat (first | ((with_reducible refine rgn_cons rfl (fun K hK => ?_)); simp only [go_sem, seval, ↓reduceIte, decide_true, decide_false, wd, hK2, w2]; (first | refine hK _ _ _ (by simp only [go_sem, Nat.reduceEqDiff, ↓reduceIte]; rfl) ?_ | refine ⟨_, cS, hK _ _ _ (by simp only [go_sem, Nat.reduceEqDiff, ↓reduceIte]; rfl) ?_⟩ | refine ⟨_, cA, hK _ _ _ (by simp only [go_sem, Nat.reduceEqDiff, ↓reduceIte]; rfl) ?_⟩ | refine ⟨_, b5, hK _ _ _ (by simp only [go_sem, Nat.reduceEqDiff, ↓reduceIte]; rfl) ?_⟩ | refine ⟨_, cFr, hK _ _ _ (by simp only [go_sem, Nat.reduceEqDiff, ↓reduceIte]; rfl) ?_⟩ | refine ⟨_, cB, hK _ _ _ (by simp only [go_sem, Nat.reduceEqDiff, ↓reduceIte]; rfl) ?_⟩ | refine ⟨_, cV, hK _ _ _ (by simp only [go_sem, Nat.reduceEqDiff, ↓reduceIte]; rfl) ?_⟩ | refine ⟨_, cW, hK _ _ _ (by simp only [go_sem, Nat.reduceEqDiff, ↓reduceIte]; rfl) ?_⟩); clear hK; clear K) | (with_reducible first | refine rgn_nil (by first | trivial | kernel_rfl) ?_ | refine AWP.seq ?_ | refine tX hC hP (by kernel_rfl) ?_ | refine aX hC hM hP (by kernel_rfl) ?_ | refine AWP.skip ?_ | refine AWP.label ?_ | refine AWP.exit ?_ | refine AWP.block ?_ | refine cTa ?_ | refine cFa ?_) | simp only [qS, Nat.reduceEqDiff, ↓reduceIte]))
      refine AWP.sub ?_ (by rfl) tail
      simp [Sub, lk]
  · simp only [putSeq]
    clear mS mF mV nF nV nW nB lF lB lV lW lP lP2 lT lT2 cS cA cFr cB cV cW hfc hbc h2w b5 x3 hK2 hK3 hfK w2 hoa hob hub hvb hul hvl hun hda hdb he hed hn hn2 hn5 hni
    have eL : [T.int .i64 2, T.int .i64 3, T.int .i64 4, T.int .i64 5, T.int .i64 6, T.int .i64 9, T.int .i64 25, T.int .i64 101] = intL mList := rfl
    have hml : mList.length = 8 := rfl
    (repeat (first | ((with_reducible refine rgn_cons rfl (fun K hK => ?_)); simp only [go_sem, seval, ↓reduceIte, decide_true, decide_false, eL, hml, Int.natCast_nonneg, Int.toNat_natCast, show (i0 : Int) < ((8 : Nat) : Int) by omega, show (i0 : Int) < 8 by omega, intL_get mList i0 (by rw [hml]; exact hi8), sizeL_take mList i0 (by rw [hml]; omega), Nat.mul_one, hm, w1, wid (m - 1) (by omega) (by omega), show ((0 : Int) != 0) = false from rfl, intL_plain, hxl, hyl, show 1 + d ≤ 1099511627776 by omega, show (1 + d) * 8 ≤ 140737488355328 by omega, show [T.int .i64 0] ++ intL xs = intL (0 :: xs) from rfl, show [T.int .i64 0] ++ intL ys = intL (0 :: ys) from rfl, show [T.int .i64 1] = intL (uL m xs 0) from rfl]; (first | refine hK _ _ _ (by simp only [go_sem, Nat.reduceEqDiff, ↓reduceIte]; rfl) ?_ | refine ⟨_, hb, hK _ _ _ (by simp only [go_sem, Nat.reduceEqDiff, ↓reduceIte]; rfl) ?_⟩ | refine ⟨_, hR, hK _ _ _ (by simp only [go_sem, Nat.reduceEqDiff, ↓reduceIte]; rfl) ?_⟩ | refine ⟨_, b1, hK _ _ _ (by simp only [go_sem, Nat.reduceEqDiff, ↓reduceIte]; rfl) ?_⟩ | refine ⟨_, b2, hK _ _ _ (by simp only [go_sem, Nat.reduceEqDiff, ↓reduceIte]; rfl) ?_⟩ | refine ⟨_, cMu, hK _ _ _ (by simp only [go_sem, Nat.reduceEqDiff, ↓reduceIte]; rfl) ?_⟩ | refine ⟨_, b3, hK _ _ _ (by simp only [go_sem, Nat.reduceEqDiff, ↓reduceIte]; rfl) ?_⟩ | refine ⟨_, b4, hK _ _ _ (by simp only [go_sem, Nat.reduceEqDiff, ↓reduceIte]; rfl) ?_⟩); clear hK; clear K) | (with_reducible first | refine rgn_nil (by first | trivial | kernel_rfl) ?_ | refine AWP.seq ?_ | refine tX hC hP (by kernel_rfl) ?_ | refine aX hC hM hP (by kernel_rfl) ?_ | refine AWP.skip ?_ | refine AWP.label ?_ | refine AWP.exit ?_ | refine AWP.block ?_ | refine cTa ?_ | refine cFa ?_) | simp only [qS, Nat.reduceEqDiff, ↓reduceIte]))
    refine AWP.loop (fun i : Nat => [(14, ⟨0, .val (.int .i64 i)⟩), (12, ⟨i + 2, .own (.box 36 (.agg [.int .i64 m, .sl true 2 (intL (uL m xs i))]))⟩), (13, ⟨i + 2, .own (.box 36 (.agg [.int .i64 m, .sl true 2 (intL (uL m ys i))]))⟩), (10, ⟨2, .own (.box 36 (.agg [.int .i64 m, .sl true 2 (intL (0 :: xs))]))⟩), (11, ⟨2, .own (.box 36 (.agg [.int .i64 m, .sl true 2 (intL (0 :: ys))]))⟩), (8, ⟨1, .own (.sl true 2 (intL xs))⟩), (9, ⟨1, .own (.sl true 2 (intL ys))⟩), (6, ⟨2, .own (.box 31 (.agg [.int .i64 m, .sl true 27 (rowsO (tab2 (d + 1) (mulT m)))]))⟩), (5, ⟨0, .val (.int .i64 d)⟩), (4, ⟨0, .val (.int .i64 m)⟩), (3, ⟨0, .val (.addr 33 1 [] 0 [0])⟩), (33, ⟨1, .own (.box 43 (.agg [.str (.raw a l.length c), .int .i64 s4.1, .int .u64 s4.2]))⟩), (3000000, ⟨0, .val (.str (.src a c l))⟩), (0, ⟨0, .val (.str (.src a c l))⟩)]) (fun i => i ≤ d) (fun i => d - i) 0 (Nat.zero_le _) (fun i => rfl) ?_ (fun i hi => ?_)
    · simp [Sub, lk, intL, uL, tab]
    · by_cases hlt : i < d
      · have hxi := at_bound hxb (show 0 < m by omega) i
        have hyi := at_bound hyb (show 0 < m by omega) i
        (repeat (first | ((with_reducible refine rgn_cons rfl (fun K hK => ?_)); simp only [go_sem, seval, ↓reduceIte, decide_true, decide_false, show (i : Int) < (d : Int) by omega, decide_true, hxl, hyl, Int.natCast_nonneg, Int.toNat_natCast, intL_get xs i (by omega), intL_get ys i (by omega), sizeL_take xs i (by omega), sizeL_take ys i (by omega), Nat.mul_one, show xs.getD i 0 = at' xs i from rfl, show ys.getD i 0 = at' ys i from rfl, wid (m - at' xs i) (by omega) (by omega), wid (m - at' ys i) (by omega) (by omega), hm0, tm (m - at' xs i) m (by omega), tm (m - at' ys i) m (by omega), intL_snoc, uL_snoc, uL_length, show i + 1 + 1 ≤ 1099511627776 by omega, show (i + 1 + 1) * 8 ≤ 140737488355328 by omega, wid ((i : Int) + 1) (by omega) (by omega)]; (refine hK _ _ _ (by simp only [go_sem, Nat.reduceEqDiff, ↓reduceIte]; rfl) ?_); clear hK; clear K) | (with_reducible first | refine rgn_nil (by first | trivial | kernel_rfl) ?_ | refine AWP.seq ?_ | refine tX hC hP (by kernel_rfl) ?_ | refine aX hC hM hP (by kernel_rfl) ?_ | refine AWP.skip ?_ | refine AWP.label ?_ | refine AWP.exit ?_ | refine AWP.block ?_ | refine cTa ?_ | refine cFa ?_) | simp only [qS, Nat.reduceEqDiff, ↓reduceIte]))
        exact ⟨i + 1, by omega, by omega, by simp [Sub, lk]⟩
      · have e1 : i = d := by omega
        rw [e1, hu, hw0]
        (repeat (first | ((with_reducible refine rgn_cons rfl (fun K hK => ?_)); simp only [go_sem, seval, ↓reduceIte, decide_true, decide_false, show ¬ (d : Int) < (d : Int) by omega, decide_false]; (refine hK _ _ _ (by simp only [go_sem, Nat.reduceEqDiff, ↓reduceIte]; rfl) ?_); clear hK; clear K) | (with_reducible first | refine rgn_nil (by first | trivial | kernel_rfl) ?_ | refine AWP.seq ?_ | refine tX hC hP (by kernel_rfl) ?_ | refine aX hC hM hP (by kernel_rfl) ?_ | refine AWP.skip ?_ | refine AWP.label ?_ | refine AWP.exit ?_ | refine AWP.block ?_ | refine cTa ?_ | refine cFa ?_) | simp only [qS, Nat.reduceEqDiff, ↓reduceIte]))
        refine AWP.sub ?_ (by rfl) tail
        simp [Sub, lk]

end Go.Proofs.Ytahnnangdepkbaa
