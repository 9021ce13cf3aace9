/-
  Sums of points: a part of a new list, given back and written over in place.
-/
import Derived.Test.YtfnfdjomkohfjaaRb
import Derived.Test.YtfnfdjomkohfjaaMk
import Derived.Test.YtfnfdjomkohfjaaLp
import Derived.Sort.Row
import Derived.Lib.RowBridge
import Derived.WalkKit
import Derived.ProofKit
import Derived.Lib.Hide
namespace Go.Proofs.Ytfnfdjomkohfjaa
open Go.RowKit
set_option linter.unusedSimpArgs false
set_option linter.unusedVariables false
set_option linter.unusedSectionVars false
set_option maxRecDepth 20000
-- Sums of points: a part of a new list, given back and written over in place.
open Go.Sort
set_option maxHeartbeats 1000000 in
theorem mark_walkO (l : List Int) (k : Int) (b off cap : Nat) (w : World) (hH : Holds (Value.int .i64) w b off l.toArray) (h1 : -1000000000000 ≤ k) (h2 : k ≤ 1000000000000) (h3 : l.length ≤ 1099511627776) :
    Calls Try.prog 15 #[.slice (some ⟨b, off, none⟩) l.length cap, .int .i64 k] w fun e w' => e = .returned (.int .i64 (k + l.length)) ∧ w' = putRow (Value.int .i64) w b off (mkA k l l.length).toArray := by
  go_enter Try.func15, Try.ntmps15
  go_wp2
  go_loopw [1, 5] (fun kk i wr => ∃ j : Nat, j ≤ l.length ∧ i = .int .i64 j ∧ kk = .int .i64 (k + j) ∧ wr = putRow (Value.int .i64) w b off (mkA k l j).toArray) (fun _ i _ => l.length - (intOf i).toNat)
  case atStart =>
    refine ⟨0, Nat.zero_le _, rfl, by simp, ?_⟩
    rw [mkA_zero, putRow_self _ _ _ _ _ hH]
  case round =>
    obtain ⟨j, hj, rfl, rfl, rfl⟩ := hrel
    by_cases hlt : j < l.length
    · have hHj := holds_putRow (Value.int .i64) w b off l.toArray (mkA k l j).toArray hH (by simp [mkA_length k l j hj])
      have hc := hHj j (by simp [mkA_length k l j hj, hlt])
      have hc1 := hc.1
      have hc2 := hc.2
      clear hc hHj hH
      have hw : (putRow (Value.int .i64) w b off (mkA k l j).toArray).setCell ⟨b, off + j, none⟩ (.int .i64 (k + j)) = putRow (Value.int .i64) w b off (mkA k l (j + 1)).toArray := by
        have h := putRow_set (Value.int .i64) w b off (mkA k l j).toArray j (k + j) (by simp [mkA_length k l j hj, hlt])
        rw [h, List.setIfInBounds_toArray, mkA_set k l j hlt]
      have HW := Lib.hid hw
      clear hw
      go_wp2
      go_roundw
      case rel => exact ⟨j + 1, by omega, by go_num, by rw [show k + (j : Int) + 1 = k + ((j + 1 : Nat) : Int) by omega], HW.out⟩
      case measure => simp [intOf]; omega
    · have e : j = l.length := by omega
      subst e
      go_wp2
      go_ret
      exact ⟨rfl, rfl⟩
/-- The list behind marks from place 'off' on. -/
def mkT (off : Nat) (k : Int) (l : List Int) : List Int := l.take off ++ mks k (l.length - off)
theorem mkT_length (off : Nat) (k : Int) (l : List Int) : (mkT off k l).length = l.length := by
  simp only [mkT, List.length_append, List.length_take, mks_length]; omega
theorem mkT_drop (k : Int) (l : List Int) : (mkT 1 k l).drop 1 = mks k (l.length - 1) := by
  cases l with
  | nil => simp [mkT, mks]
  | cons x l => simp [mkT]
theorem intL_drop (l : List Int) (k : Nat) : (intL l).drop k = intL (l.drop k) := by simp [intL]
theorem intL_scalars (l : List Int) : ∀ t ∈ intL l, t.scalar = true := fun t ht => by
  simp only [intL, List.mem_map] at ht
  obtain ⟨x, _, rfl⟩ := ht
  rfl
theorem ptC_zero {m : Int} {ll L : List (List Int)} (h : ptC m ll L = 0) : lawB m ll = true ∧ ∀ i, i < L.length → ptB m ll.length (L.getD 0 []).length (L.getD i []) = true := by
  unfold ptC at h
  split at h
  · rename_i h1
    split at h
    · rename_i h2; exact ⟨h1, h2⟩
    · cases h
  · cases h
theorem putCells_off {cur : Array Value} {l : List Int} (off : Nat) (k : Int) (ho : off ≤ l.length) (hs : l.length ≤ cur.size) (hc : ∀ j, j < l.length → cur[j]? = some (.int .i64 (l.getD j 0))) :
    putCells (Value.int .i64) off (mks k (l.length - off)).toArray cur = putCells (Value.int .i64) 0 (mkT off k l).toArray cur := by
  apply Array.ext_getElem?
  intro j
  simp only [putCells, Array.getElem?_mapIdx]
  by_cases hj : j < cur.size
  · rw [Array.getElem?_eq_getElem hj]
    simp only [Option.map_some, Option.some.injEq]
    have hsz : (mks k (l.length - off)).toArray.size = l.length - off := by simp [mks_length]
    have hsz2 : (mkT off k l).toArray.size = l.length := by simp [mkT_length]
    rw [hsz, hsz2]
    by_cases h1 : off ≤ j ∧ j < off + (l.length - off)
    · rw [if_pos h1, if_pos (by omega)]
      have h2 : j - off < (mks k (l.length - off)).toArray.size := by rw [hsz]; omega
      have h3 : j - 0 < (mkT off k l).toArray.size := by rw [hsz2]; omega
      rw [getElem!_pos (mks k (l.length - off)).toArray (j - off) h2, getElem!_pos (mkT off k l).toArray (j - 0) h3]
      simp only [List.getElem_toArray, Nat.sub_zero, mkT]
      rw [List.getElem_append_right (by simp; omega)]
      congr 2
      simp only [List.length_take]
      omega
    · rw [if_neg h1]
      by_cases h2 : 0 ≤ j ∧ j < 0 + l.length
      · rw [if_pos h2]
        have h3 : j - 0 < (mkT off k l).toArray.size := by rw [hsz2]; omega
        rw [getElem!_pos (mkT off k l).toArray (j - 0) h3]
        have h4 := hc j (by omega)
        rw [Array.getElem?_eq_getElem hj] at h4
        simp only [Option.some.injEq] at h4
        rw [h4]
        simp only [List.getElem_toArray, Nat.sub_zero, mkT]
        rw [List.getElem_append_left (by simp; omega), List.getElem_take, List.getD_eq_getElem?_getD, List.getElem?_eq_getElem (by omega), Option.getD_some]
      · rw [if_neg h2]
  · rw [Array.getElem?_eq_none (by omega)]; rfl
theorem it_markInt64S (l : List Int) (off : Nat) (k : Int) (h1 : -1000000000000 ≤ k) (h2 : k ≤ 1000000000000) (h3 : l.length ≤ 1000000000) (ho : off ≤ l.length) :
    AFn Try.prog (4000000 + 15) [.sl true 2 (intL l), .int .i64 k, .int .i64 (off : Nat)] (.tup [.int .i64 (k + ((l.length - off : Nat) : Int)), .sl true 2 (intL (mkT off k l))]) := by
  refine (AFn_it (by decide)).2 ⟨⟨_, Try.func15, by rfl, by rfl⟩, _, _, _, _, _, _, _, _, rfl, rfl, intL_refFree _, fun t ht => by simp only [intL, List.mem_map] at ht; obtain ⟨x, _, rfl⟩ := ht; rfl, fun w b c κ hcol hinj hVR => ?_⟩
  obtain ⟨cs, e1, e2⟩ := hVR
  have e3 := node_cs rfl e2 e1
  subst e3
  have e4 := e2
  obtain ⟨b', cap, cur, he, hb, hk, hl, hH, hback⟩ := markable e2
  have hlen : (intL l).length = l.length := by simp [intL]
  rw [hlen] at he hk hback ⊢
  simp only [Value.slice.injEq, Option.some.injEq, Addr.mk.injEq, and_true, true_and] at he
  obtain ⟨rfl, rfl⟩ := he
  have hcell : ∀ j, j < l.length → cur[j]? = some (.int .i64 (l.getD j 0)) := fun j hj => by
    have h := (hH j (by simpa using hj)).1
    simp only [World.cell?, hb, Nat.zero_add] at h
    have hjs : j < cur.size := by omega
    have hg : l.toArray[j]! = l.getD j 0 := by
      rw [getElem!_pos l.toArray j (by simpa using hj), List.getElem_toArray, List.getD_eq_getElem?_getD, List.getElem?_eq_getElem hj, Option.getD_some]
    rw [hg] at h
    simpa using h
  have hHo : Holds (Value.int .i64) w b off (l.drop off).toArray := fun j hj => by
    have hj' : j < l.length - off := by simpa using hj
    have h := hH (off + j) (by simp; omega)
    rw [Nat.zero_add] at h
    refine ⟨?_, h.2⟩
    rw [h.1, getElem!_pos l.toArray (off + j) (by simp; omega), getElem!_pos (l.drop off).toArray j hj]
    simp
  have hW := mark_walkO (l.drop off) k b off (c - off) w hHo h1 h2 (by rw [List.length_drop]; omega)
  rw [List.length_drop] at hW
  refine hW.mono fun e w' ⟨he, hw⟩ => ?_
  have hf : mkA k (l.drop off) (l.length - off) = mks k (l.length - off) := by
    have h := mkA_full k (l.drop off)
    rw [List.length_drop] at h
    rw [h]; rfl
  rw [hf] at hw
  subst hw
  refine ⟨he, rfl, rfl, rfl, by simp [putRow, mapBlock], fun d hd hn => ?_, ⟨[.slice (some ⟨b, 0, none⟩) l.length c], rfl, ?_⟩⟩
  · simp only [putRow, mapBlock, Array.getElem?_modify]
    rw [if_neg (fun e => by rw [← e, hk] at hn; cases hn)]
  · have hx := hback (putRow (Value.int .i64) w b off (mks k (l.length - off)).toArray) κ 0 [] (mkT off k l) (mkT_length _ _ _) (by
      rw [← putCells_off off k ho hl hcell]
      simp [putRow, mapBlock, Array.getElem?_modify, hb, onCells]) hk
    exact hx
/-- The sum of two points, with the constant term ahead. -/
def spL (m : Int) (ll : List (List Int)) (x y : List Int) : List Int := putL m (pc (tab2 (x.length + 1) (pc ll))) (0 :: x) (0 :: y) x.length
theorem spL_length {m : Int} {ll : List (List Int)} {x y : List Int} (hm : 0 < m) : (spL m ll x y).length = x.length + 1 := (putL_facts hm _ _ _ _).1
theorem pt_two {m : Int} {ll : List (List Int)} {x y : List Int} (h : ptC m ll [x, y] = 0) : 1 < m ∧ m ≤ 10000 ∧ 1 ≤ x.length ∧ x.length + 1 ≤ ll.length ∧ ll.length ≤ 11 ∧ Pl m ll.length ll ∧ (∀ z ∈ x, 0 ≤ z ∧ z < m) ∧ (∀ z ∈ y, 0 ≤ z ∧ z < m) ∧ y.length = x.length ∧ Pl m (x.length + 1) (tab2 (x.length + 1) (pc ll)) := by
  have h1 := ptC_zero h
  have h2 := isPl_of (lawB_of h1.1).1
  have h3 := h1.2 0 (by simp)
  have h4 := h1.2 1 (by simp)
  simp only [ptB, spB, List.getD_cons_zero, List.getD_cons_succ, Bool.and_eq_true, decide_eq_true_eq, List.all_eq_true, isNum] at h3 h4
  refine ⟨by omega, h2.2.1, by omega, by omega, h2.2.2.2.1, h2.2.2.2.2, fun z hz => by have := h3.1.2 z hz; omega, fun z hz => by have := h4.1.2 z hz; omega, h4.2, Pl.tab2 (by omega) fun i j _ => h2.2.2.2.2.num i j⟩
theorem getD_two (x y : List Int) (i : Nat) : ([x, y].getD i []).length ≤ x.length + y.length := by
  match i with
  | 0 => simp
  | 1 => simp
  | i + 2 => simp
theorem two_rows (x y : List Int) : [T.sl false 2 (intL x), T.sl false 2 (intL y)] = rowsF [x, y] := rfl
theorem z0 {m : Int} {x : List Int} (hm : 1 < m) (h : ∀ z ∈ x, 0 ≤ z ∧ z < m) : ∀ z ∈ (0 :: x), 0 ≤ z ∧ z < m := fun z hz => by
  rcases List.mem_cons.1 hz with e | e
  · omega
  · exact h z e
set_option maxHeartbeats 1000000 in
theorem c_impl_curveOf_sum (m : Int) (x : List Int) (hx : x.length ≤ 1000000000) : AFn Try.prog 35 [.int .i64 m, .sl false 2 (intL x)] (.agg [.int .i64 m, .sl true 2 (intL (0 :: x))]) := by
  refine AFn.of' ttOk (by decide) Try.func35 Try.ntmps35 (by rw [Try.results35]) (by rfl) (by rfl) (by simp) (by decide) (by simp only [go_sem, Nat.reduceAdd, ↓reduceIte]; rfl) mixed (fun C hP hM hC => ?_)
  (repeat (first | ((with_reducible refine rgn_cons rfl (fun K hK => ?_)); simp only [go_sem, seval, ↓reduceIte, decide_true, decide_false, intL_plain, show 1 + x.length ≤ 1099511627776 by omega, show (1 + x.length) * 8 ≤ 140737488355328 by omega, List.length_cons, List.length_nil, Nat.zero_add, List.cons_append, List.nil_append, show T.int .i64 0 :: intL x = intL (0 :: x) from rfl]; (refine hK _ _ _ (by simp only [go_sem, Nat.reduceEqDiff, ↓reduceIte]; rfl) ?_); clear hK; clear K) | (with_reducible first | refine rgn_nil (by first | trivial | kernel_rfl) ?_ | refine AWP.seq ?_ | refine tX hC hP (by kernel_rfl) ?_ | refine aX hC hM hP (by kernel_rfl) ?_ | refine AWP.skip ?_ | refine AWP.label ?_ | refine AWP.exit ?_ | refine AWP.block ?_ | refine cTa ?_ | refine cFa ?_) | simp only [qS, Nat.reduceEqDiff, ↓reduceIte]))
  (refine AWP.ret ?_; refine retOk1 (by simp only [go_sem, seval, ↓reduceIte, decide_true, decide_false]; rfl) ?_)
  rfl
theorem c_spec_l16Add (m : Int) (ll : List (List Int)) (x y : List Int) (d : Nat) (hm : 1 < m) (hm2 : m ≤ 10000) (hl : Pl m (d + 1) ll) (hd1 : 1 ≤ d) (hd : d ≤ 999) (ha : ∀ z ∈ x, 0 ≤ z ∧ z < m) (hx : x.length = d) (hb : ∀ z ∈ y, 0 ≤ z ∧ z < m) (hy : y.length = d) : AFn Try.prog (2000000 + 29) [.agg [.int .i64 m, .sl false 25 (rowsF ll)], .sl false 2 (intL x), .sl false 2 (intL y)] (.tup [.int .i64 (1 : Nat), .sl true 2 (intL (putL m (pc ll) (0 :: x) (0 :: y) d))]) := by
  have hW := c_spec_l03Put m ll (0 :: x) (0 :: y) d hm hm2 hl (z0 hm ha) (by simp [hx]) (z0 hm hb) (by simp [hy]) hd
  have f := putL_facts (m := m) (by omega) (pc ll) (0 :: x) (0 :: y) d
  generalize putL m (pc ll) (0 :: x) (0 :: y) d = P at *
  have hlen := f.1
  refine (AFn_w (by decide)).2 (AFw.of' (t := 6) (s := 17) ttOk Try.func29 Try.ntmps29 (by rw [Try.results29]) (by rfl) (by rfl) (by simp) (by decide) (by simp [T.pureL, T.pure, rowsF_pure, intL_pure]) (by rw [intL_length]; omega) (by kernel_rfl) (intL_scalars P) (by simp only [go_sem, Nat.reduceAdd, ↓reduceIte]; rfl) mixed (fun C hP hM hC => ?_))
  (repeat (first | ((with_reducible refine rgn_cons rfl (fun K hK => ?_)); simp only [go_sem, seval, ↓reduceIte, decide_true, decide_false, intL_plain, show 1 + x.length ≤ 1099511627776 by omega, show (1 + x.length) * 8 ≤ 140737488355328 by omega, show 1 + y.length ≤ 1099511627776 by omega, show (1 + y.length) * 8 ≤ 140737488355328 by omega, List.length_cons, List.length_nil, Nat.zero_add, List.cons_append, List.nil_append, show T.int .i64 0 :: intL x = intL (0 :: x) from rfl, show T.int .i64 0 :: intL y = intL (0 :: y) from rfl, show (0 : Int) ≤ 1 by decide, show (1 : Int) < (P.length : Int) by omega, show (1 : Int).toNat = 1 from rfl, Option.isNone_none, Bool.and_self]; (first | refine hK _ _ _ (by simp only [go_sem, Nat.reduceEqDiff, ↓reduceIte]; rfl) ?_ | refine ⟨_, hW, hK _ _ _ (by simp only [go_sem, Nat.reduceEqDiff, ↓reduceIte]; rfl) ?_⟩); clear hK; clear K) | (with_reducible first | refine rgn_nil (by first | trivial | kernel_rfl) ?_ | refine AWP.seq ?_ | refine tX hC hP (by kernel_rfl) ?_ | refine aX hC hM hP (by kernel_rfl) ?_ | refine AWP.skip ?_ | refine AWP.label ?_ | refine AWP.exit ?_ | refine AWP.block ?_ | refine cTa ?_ | refine cFa ?_) | simp only [qS, Nat.reduceEqDiff, ↓reduceIte]))
  refine AWP.ret (endQW_ret ?_)
  exact ⟨_, _, rfl, rfl⟩
set_option maxHeartbeats 1000000 in
theorem c_spec_SumOfPoints_ok (m : Int) (ll : List (List Int)) (x y : List Int) (hs : Sm ll) (hx : x.length ≤ 500000000) (hy : y.length ≤ 500000000) (h : ptC m ll [x, y] = 0) : AFn Try.prog 8 [.agg [.int .i64 m, .sl false 25 (rowsF ll)], .sl false 2 (intL x), .sl false 2 (intL y)] (.tup [.sl true 2 (intL ((spL m ll x y).drop 1)), .int .i64 (ptC m ll [x, y])]) := by
  refine AFn.of' ttOk (by decide) Try.func8 Try.ntmps8 (by rw [Try.results8]) (by rfl) (by rfl) (by simp) (by decide) (by simp only [go_sem, Nat.reduceAdd, ↓reduceIte]; rfl) mixed (fun C hP hM hC => ?_)
  obtain ⟨h1, h2, h3, h4, h5, h6, h7, h8, h9, h10⟩ := pt_two h
  have hA := c_spec_l16Code m ll [x, y] hs (by simp) (fun i => Nat.le_trans (getD_two x y i) (by omega))
  have hC1 := c_spec_l16Cut m ll ll.length x.length h6 h4 (by omega)
  have hM1 := c_spec_l16Add m (tab2 (x.length + 1) (pc ll)) x y x.length h1 h2 h10 h3 (by omega) h7 rfl h8 h9
  have hO := c_spec_l01Own_pt ((spL m ll x y).drop 1) (by rw [List.length_drop, spL_length (by omega)]; omega)
  unfold spL at hO ⊢
  generalize putL m (pc (tab2 (x.length + 1) (pc ll))) (0 :: x) (0 :: y) x.length = P at *
  (repeat (first | ((with_reducible refine rgn_cons rfl (fun K hK => ?_)); simp only [go_sem, seval, ↓reduceIte, decide_true, decide_false, h, show ((0 : Int) != 0) = false from rfl, two_rows, intL_freeze, intL_drop, Int.toNat_natCast]; (first | refine hK _ _ _ (by simp only [go_sem, Nat.reduceEqDiff, ↓reduceIte]; rfl) ?_ | refine ⟨_, hA, hK _ _ _ (by simp only [go_sem, Nat.reduceEqDiff, ↓reduceIte]; rfl) ?_⟩ | refine ⟨_, hC1, hK _ _ _ (by simp only [go_sem, Nat.reduceEqDiff, ↓reduceIte]; rfl) ?_⟩ | refine ⟨_, hM1, hK _ _ _ (by simp only [go_sem, Nat.reduceEqDiff, ↓reduceIte]; rfl) ?_⟩ | refine ⟨_, hO, hK _ _ _ (by simp only [go_sem, Nat.reduceEqDiff, ↓reduceIte]; rfl) ?_⟩); clear hK; clear K) | (with_reducible first | refine rgn_nil (by first | trivial | kernel_rfl) ?_ | refine AWP.seq ?_ | refine tX hC hP (by kernel_rfl) ?_ | refine aX hC hM hP (by kernel_rfl) ?_ | refine AWP.skip ?_ | refine AWP.label ?_ | refine AWP.exit ?_ | refine AWP.block ?_ | refine cTa ?_ | refine cFa ?_) | simp only [qS, Nat.reduceEqDiff, ↓reduceIte]))
  (refine AWP.ret ?_; refine retOk2 (by simp only [go_sem, seval, ↓reduceIte, decide_true, decide_false]; rfl) (by simp only [go_sem, seval, ↓reduceIte, decide_true, decide_false]; rfl) (by simp) ?_)
  rw [h]
set_option maxHeartbeats 1000000 in
theorem c_spec_SumOfPoints_no (m : Int) (ll : List (List Int)) (x y : List Int) (hs : Sm ll) (hx : x.length ≤ 500000000) (hy : y.length ≤ 500000000) (h : ¬ ptC m ll [x, y] = 0) : AFn Try.prog 8 [.agg [.int .i64 m, .sl false 25 (rowsF ll)], .sl false 2 (intL x), .sl false 2 (intL y)] (.tup [.nil, .int .i64 (ptC m ll [x, y])]) := by
  refine AFn.of' ttOk (by decide) Try.func8 Try.ntmps8 (by rw [Try.results8]) (by rfl) (by rfl) (by simp) (by decide) (by simp only [go_sem, Nat.reduceAdd, ↓reduceIte]; rfl) mixed (fun C hP hM hC => ?_)
  have hA := c_spec_l16Code m ll [x, y] hs (by simp) (fun i => Nat.le_trans (getD_two x y i) (by omega))
  (repeat (first | ((with_reducible refine rgn_cons rfl (fun K hK => ?_)); simp only [go_sem, seval, ↓reduceIte, decide_true, decide_false, show (ptC m ll [x, y] != 0) = true by rw [bne_iff_ne]; exact h, two_rows]; (first | refine hK _ _ _ (by simp only [go_sem, Nat.reduceEqDiff, ↓reduceIte]; rfl) ?_ | refine ⟨_, hA, hK _ _ _ (by simp only [go_sem, Nat.reduceEqDiff, ↓reduceIte]; rfl) ?_⟩); clear hK; clear K) | (with_reducible first | refine rgn_nil (by first | trivial | kernel_rfl) ?_ | refine AWP.seq ?_ | refine tX hC hP (by kernel_rfl) ?_ | refine aX hC hM hP (by kernel_rfl) ?_ | refine AWP.skip ?_ | refine AWP.label ?_ | refine AWP.exit ?_ | refine AWP.block ?_ | refine cTa ?_ | refine cFa ?_) | simp only [qS, Nat.reduceEqDiff, ↓reduceIte]))
  (refine AWP.ret ?_; refine retOk2 (by simp only [go_sem, seval, ↓reduceIte, decide_true, decide_false]; rfl) (by simp only [go_sem, seval, ↓reduceIte, decide_true, decide_false]; rfl) (by simp) ?_)
  rfl
theorem c_impl_SumOfPoints_ok (m : Int) (ll : List (List Int)) (x y : List Int) (hs : Sm ll) (hx : x.length ≤ 500000000) (hy : y.length ≤ 500000000) (h : ptC m ll [x, y] = 0) : AFn Try.prog (3000000 + 11) [.agg [.int .i64 m, .sl false 25 (rowsF ll)], .sl false 2 (intL x), .sl false 2 (intL y)] (.tup [.int .i64 (1 : Nat), .sl true 2 (intL (spL m ll x y)), .int .i64 (ptC m ll [x, y])]) := by
  obtain ⟨h1, h2, h3, h4, h5, h6, h7, h8, h9, h10⟩ := pt_two h
  have hA := c_impl_pointed m ll [x, y] hs (by simp) (by simp) (fun i => Nat.le_trans (getD_two x y i) (by omega))
  rw [List.getD_cons_zero] at hA
  have hC1 := c_impl_Plane_cut m ll ll.length x.length h6 h4 (by omega)
  have hU := c_impl_curveOf_sum m x (by omega)
  have hU2 := c_impl_curveOf_sum m y (by omega)
  have hM1 := c_impl_Plane_curves m (tab2 (x.length + 1) (pc ll)) (0 :: x) (0 :: y) x.length h1 h2 h10 (z0 h1 h7) (by simp) (z0 h1 h8) (by simp [h9]) (by omega)
  have hlen := spL_length (m := m) (ll := ll) (x := x) (y := y) (by omega)
  unfold spL at hlen ⊢
  generalize putL m (pc (tab2 (x.length + 1) (pc ll))) (0 :: x) (0 :: y) x.length = P at *
  rw [h] at hA ⊢
  refine (AFn_wt (by decide)).2 (AFwt.of' (t := 6) (t2 := 7) (s := 33) (q := [1]) ttOk Try.func11 Try.ntmps11 (by rw [Try.results11]) (by rfl) (by rfl) (by simp) (by decide) (by decide) (by simp [T.pureL, T.pure, rowsF_pure, intL_pure]) (by rw [intL_length]; omega) (by kernel_rfl) (intL_scalars P) (by simp only [go_sem, Nat.reduceAdd, ↓reduceIte]; rfl) mixed (fun C hP hM hC => ?_))
  (repeat (first | ((with_reducible refine rgn_cons rfl (fun K hK => ?_)); simp only [go_sem, seval, ↓reduceIte, decide_true, decide_false, show ((0 : Int) != 0) = false from rfl, two_rows, show (0 : Int) ≤ 1 by decide, show (1 : Int) < (P.length : Int) by omega, show (1 : Int).toNat = 1 from rfl, Option.isNone_none]; (first | refine hK _ _ _ (by simp only [go_sem, Nat.reduceEqDiff, ↓reduceIte]; rfl) ?_ | refine ⟨_, hA, hK _ _ _ (by simp only [go_sem, Nat.reduceEqDiff, ↓reduceIte]; rfl) ?_⟩ | refine ⟨_, hC1, hK _ _ _ (by simp only [go_sem, Nat.reduceEqDiff, ↓reduceIte]; rfl) ?_⟩ | refine ⟨_, hU, hK _ _ _ (by simp only [go_sem, Nat.reduceEqDiff, ↓reduceIte]; rfl) ?_⟩ | refine ⟨_, hU2, hK _ _ _ (by simp only [go_sem, Nat.reduceEqDiff, ↓reduceIte]; rfl) ?_⟩ | refine ⟨_, hM1, hK _ _ _ (by simp only [go_sem, Nat.reduceEqDiff, ↓reduceIte]; rfl) ?_⟩); clear hK; clear K) | (with_reducible first | refine rgn_nil (by first | trivial | kernel_rfl) ?_ | refine AWP.seq ?_ | refine tX hC hP (by kernel_rfl) ?_ | refine aX hC hM hP (by kernel_rfl) ?_ | refine AWP.skip ?_ | refine AWP.label ?_ | refine AWP.exit ?_ | refine AWP.block ?_ | refine cTa ?_ | refine cFa ?_) | simp only [qS, Nat.reduceEqDiff, ↓reduceIte]))
  refine AWP.ret (endQWt_ret ?_)
  exact ⟨_, _, _, _, rfl, rfl, rfl, rfl⟩
set_option maxHeartbeats 1000000 in
theorem c_impl_SumOfPoints_no0 (m : Int) (ll : List (List Int)) (x y : List Int) (hs : Sm ll) (hx : x.length ≤ 500000000) (hy : y.length ≤ 500000000) (h : ¬ ptC m ll [x, y] = 0) : AFn Try.prog 11 [.agg [.int .i64 m, .sl false 25 (rowsF ll)], .sl false 2 (intL x), .sl false 2 (intL y)] (.tup [.nil, .int .i64 (ptC m ll [x, y])]) := by
  refine AFn.of' ttOk (by decide) Try.func11 Try.ntmps11 (by rw [Try.results11]) (by rfl) (by rfl) (by simp) (by decide) (by simp only [go_sem, Nat.reduceAdd, ↓reduceIte]; rfl) mixed (fun C hP hM hC => ?_)
  have hA := c_impl_pointed m ll [x, y] hs (by simp) (by simp) (fun i => Nat.le_trans (getD_two x y i) (by omega))
  rw [List.getD_cons_zero] at hA
  (repeat (first | ((with_reducible refine rgn_cons rfl (fun K hK => ?_)); simp only [go_sem, seval, ↓reduceIte, decide_true, decide_false, show (ptC m ll [x, y] != 0) = true by rw [bne_iff_ne]; exact h, two_rows]; (first | refine hK _ _ _ (by simp only [go_sem, Nat.reduceEqDiff, ↓reduceIte]; rfl) ?_ | refine ⟨_, hA, hK _ _ _ (by simp only [go_sem, Nat.reduceEqDiff, ↓reduceIte]; rfl) ?_⟩); clear hK; clear K) | (with_reducible first | refine rgn_nil (by first | trivial | kernel_rfl) ?_ | refine AWP.seq ?_ | refine tX hC hP (by kernel_rfl) ?_ | refine aX hC hM hP (by kernel_rfl) ?_ | refine AWP.skip ?_ | refine AWP.label ?_ | refine AWP.exit ?_ | refine AWP.block ?_ | refine cTa ?_ | refine cFa ?_) | simp only [qS, Nat.reduceEqDiff, ↓reduceIte]))
  (refine AWP.ret ?_; refine retOk2 (by simp only [go_sem, seval, ↓reduceIte, decide_true, decide_false]; rfl) (by simp only [go_sem, seval, ↓reduceIte, decide_true, decide_false]; rfl) (by simp) ?_)
  rfl
theorem c_impl_SumOfPoints_no (m : Int) (ll : List (List Int)) (x y : List Int) (hs : Sm ll) (hx : x.length ≤ 500000000) (hy : y.length ≤ 500000000) (h : ¬ ptC m ll [x, y] = 0) : AFn Try.prog (3000000 + 11) [.agg [.int .i64 m, .sl false 25 (rowsF ll)], .sl false 2 (intL x), .sl false 2 (intL y)] (.tup [.nil, .int .i64 (ptC m ll [x, y])]) :=
  (AFn_wt (by decide)).2 (.inl ⟨_, _, rfl, (AFn_lt (by decide)).1 (c_impl_SumOfPoints_no0 m ll x y hs hx hy h)⟩)

end Go.Proofs.Ytfnfdjomkohfjaa
