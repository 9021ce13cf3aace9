/-
  The laws' marks: a list is written over in place.
-/
import Derived.Test.YtahnnangdepkbabFin
import Derived.Sort.Row
import Derived.Lib.RowBridge
import Derived.WalkKit
import Derived.ProofKit
import Derived.Lib.Hide
namespace Go.Proofs.Ytahnnangdepkbab
open Go.RowKit
set_option linter.unusedSimpArgs false
set_option linter.unusedVariables false
set_option linter.unusedSectionVars false
set_option maxRecDepth 20000
-- The laws' marks: a list is written over in place.
open Go.Sort
/-- Marks up to j, then the elder numbers. -/
def mkA (k : Int) (l : List Int) (j : Nat) : List Int := (List.range j).map (fun (i : Nat) => k + (i : Int)) ++ l.drop j
theorem mkA_length (k : Int) (l : List Int) (j : Nat) (h : j ≤ l.length) : (mkA k l j).length = l.length := by simp [mkA]; omega
theorem mkA_zero (k : Int) (l : List Int) : mkA k l 0 = l := by simp [mkA]
theorem mkA_full (k : Int) (l : List Int) : mkA k l l.length = (List.range l.length).map (fun (i : Nat) => k + (i : Int)) := by simp [mkA]
theorem mkA_set (k : Int) (l : List Int) (j : Nat) (h : j < l.length) : (mkA k l j).set j (k + j) = mkA k l (j + 1) := by
  apply List.ext_getElem
  · simp [mkA]; omega
  · intro i h1 h2
    simp only [mkA, List.length_set, List.length_append, List.length_map, List.length_range, List.length_drop] at h1 h2
    rw [List.getElem_set]
    simp only [mkA, List.getElem_append, List.length_map, List.length_range, List.getElem_map, List.getElem_range, List.getElem_drop]
    split
    · rename_i e; subst e; rw [dif_pos (by omega)]
    · split <;> split <;> first | rfl | omega | (congr 1; omega)
set_option maxHeartbeats 1000000 in
theorem mark_walk (l : List Int) (k : Int) (b cap : Nat) (w : World) (hH : Holds (Value.int .i64) w b 0 l.toArray) (h1 : -1000000000000 ≤ k) (h2 : k ≤ 1000000000000) (h3 : l.length ≤ 1099511627776) :
    Calls Try.prog 25 #[.slice (some ⟨b, 0, none⟩) l.length cap, .int .i64 k] w fun e w' => e = .returned (.int .i64 (k + l.length)) ∧ w' = putRow (Value.int .i64) w b 0 (mkA k l l.length).toArray := by
  go_enter Try.func25, Try.ntmps25
  go_wp2
  go_loopw [1, 5] (fun kk i wr => ∃ j : Nat, j ≤ l.length ∧ i = .int .i64 j ∧ kk = .int .i64 (k + j) ∧ wr = putRow (Value.int .i64) w b 0 (mkA k l j).toArray) (fun _ i _ => l.length - (intOf i).toNat)
  case atStart =>
    refine ⟨0, Nat.zero_le _, rfl, by simp, ?_⟩
    rw [mkA_zero, putRow_self _ _ _ _ _ hH]
  case round =>
    obtain ⟨j, hj, rfl, rfl, rfl⟩ := hrel
    by_cases hlt : j < l.length
    · have hHj := holds_putRow (Value.int .i64) w b 0 l.toArray (mkA k l j).toArray hH (by simp [mkA_length k l j hj])
      have hc := hHj j (by simp [mkA_length k l j hj, hlt])
      have hc1 := hc.1
      have hc2 := hc.2
      rw [Nat.zero_add] at hc1 hc2
      clear hc hHj hH
      have hw : (putRow (Value.int .i64) w b 0 (mkA k l j).toArray).setCell ⟨b, j, none⟩ (.int .i64 (k + j)) = putRow (Value.int .i64) w b 0 (mkA k l (j + 1)).toArray := by
        have h := putRow_set (Value.int .i64) w b 0 (mkA k l j).toArray j (k + j) (by simp [mkA_length k l j hj, hlt])
        rw [Nat.zero_add] at h
        rw [h, List.setIfInBounds_toArray, mkA_set k l j hlt]
      have HW := Lib.hid hw
      clear hw
      go_wp2
      go_roundw
      case rel => exact ⟨j + 1, by omega, by go_num, by rw [show k + (j : Int) + 1 = k + ((j + 1 : Nat) : Int) by omega], HW.out⟩
      case measure => simp [intOf]; omega
    · have e : j = l.length := by omega
      subst e
      go_wp2
      go_ret
      exact ⟨rfl, rfl⟩
theorem cells_at {cur : Array Value} {l : List Int} {X : Cx} {s : Nat} {p : List Nat} (hl : l.length ≤ cur.size) (h : CRL X s p 0 (intL l) (cur.toList.take l.length)) (j : Nat) (hj : j < l.length) : cur[j]? = some (.int .i64 (l.getD j 0)) := by
  have hg : (intL l)[j]? = some (.int .i64 (l.getD j 0)) := by simp [intL, List.getD_eq_getElem?_getD, hj]
  have h1 := CRL_at (intL l) j 0 _ _ hg h
  have h2 : T.sizeL ((intL l).take j) = j := by
    rw [sizeL_of_all (n := 1) (fun t ht => by
      have := List.mem_of_mem_take ht
      simp only [intL, List.mem_map] at this
      obtain ⟨x, _, rfl⟩ := this
      rfl)]
    simp [intL]; omega
  simp only [h2, T.size, CR] at h1
  have h3 := congrArg (fun x => x[0]?) h1
  have hjs : j < cur.size := by omega
  simp [List.getElem?_take, List.getElem?_drop, hj, hjs] at h3
  simp [hjs, h3, hj, List.getD_eq_getElem?_getD]
theorem putRow_heap {w : World} {b : Nat} {cur : Array Value} {e : TypeId} {fz : Nat × Nat} (hb : w.heap[b]? = some (.cells cur e fz)) (d : Array Int) : (putRow (Value.int .i64) w b 0 d).heap[b]? = some (.cells (putCells (Value.int .i64) 0 d cur) e fz) := by
  simp [putRow, mapBlock, Array.getElem?_modify, hb, onCells]
theorem putRow_other {w : World} {b c : Nat} (h : c ≠ b) (d : Array Int) : (putRow (Value.int .i64) w b 0 d).heap[c]? = w.heap[c]? := by
  simp only [putRow, mapBlock, Array.getElem?_modify]
  rw [if_neg (fun e => h e.symm)]
theorem putCells_size (d : Array Int) (cur : Array Value) : (putCells (Value.int .i64) 0 d cur).size = cur.size := by simp [putCells]
theorem putCells_at (d : List Int) (cur : Array Value) (j : Nat) (hj : j < d.length) (hs : j < cur.size) : (putCells (Value.int .i64) 0 d.toArray cur)[j]? = some (.int .i64 (d.getD j 0)) := by
  simp [putCells, hs, hj, List.getD_eq_getElem?_getD]
theorem CRL_ints {X : Cx} {s : Nat} {p : List Nat} {cur : Array Value} {d : List Int} (hl : d.length ≤ cur.size) (h : ∀ j, j < d.length → cur[j]? = some (.int .i64 (d.getD j 0))) : CRL X s p 0 (intL d) (cur.toList.take d.length) := by
  refine CRL_of_cells _ 0 _ (by simp [intL]; omega) (fun t ht => ?_) (fun j t v hj hv => ?_)
  · simp only [intL, List.mem_map] at ht
    obtain ⟨x, _, rfl⟩ := ht
    rfl
  · have hjl : j < d.length := by have := (List.getElem?_eq_some_iff.1 hj).1; simpa [intL] using this
    rw [List.getElem?_take_of_lt hjl] at hv
    have hv2 : cur[j]? = some v := by simpa using hv
    rw [h j hjl] at hv2
    have ht2 : (intL d)[j]? = some (.int .i64 (d.getD j 0)) := by simp [intL, List.getD_eq_getElem?_getD, hjl]
    rw [ht2] at hj
    simp only [Option.some.injEq] at hj hv2
    subst hj; subst hv2
    simp only [CR]
theorem markable {W : World} {κ : Kap} {s : Nat} {p : List Nat} {l : List Int} {v : Value} (h : CR (argCx Try.prog W κ) s p (.sl true 2 (intL l)) [v]) :
    ∃ b cap cur, v = .slice (some ⟨b, 0, none⟩) l.length cap ∧ W.heap[b]? = some (.cells cur 2 (0, 0)) ∧ κ b = some (s, p, v) ∧ l.length ≤ cur.size ∧ Holds (Value.int .i64) W b 0 l.toArray ∧
      ∀ (W' : World) (κ' : Kap) (s' : Nat) (p' : List Nat) (d : List Int), d.length = l.length → W'.heap[b]? = some (.cells (putCells (Value.int .i64) 0 d.toArray cur) 2 (0, 0)) → κ' b = some (s', p', v) → CR (resCx Try.prog W' κ') s' p' (.sl true 2 (intL d)) [v] := by
  have hsz : Try.prog.cellsOf 2 = 1 := by kernel_rfl
  simp only [CR] at h
  obtain ⟨b, cap, cur, h1, h2, h3, h4, h5, h6, h7, h8⟩ := h
  have hlen : (intL l).length = l.length := by simp [intL]
  simp only [List.cons.injEq, and_true] at h1
  rw [hlen] at h1 h3 h4 h8
  have hcs : cur.size = cap := by rw [h6]; show cap * Try.prog.cellsOf 2 = cap; rw [hsz]; omega
  have h8' : CRL (argCx Try.prog W κ) s p 0 (intL l) (cur.toList.take l.length) := by
    have e : l.length * (argCx Try.prog W κ).sz 2 = l.length := by show l.length * Try.prog.cellsOf 2 = _; rw [hsz]; omega
    rw [e] at h8; exact h8
  refine ⟨b, cap, cur, h1, h2, by rw [h1]; exact h3, by omega, fun j hj => ?_, fun W' κ' s' p' d hd hW hk => ?_⟩
  · have hj' : j < l.length := by simpa using hj
    have hc := cells_at (by omega) h8' j hj'
    have h2' : W.heap[b]? = some (.cells cur 2 (0, 0)) := h2
    constructor
    · simp [World.cell?, h2', hc, hj', List.getD_eq_getElem?_getD]
    · simp [World.frozen?, h2']
  · simp only [CR]
    have hdl : (intL d).length = d.length := by simp [intL]
    refine ⟨b, cap, _, by rw [hdl, hd, h1], hW, by rw [hdl, hd, ← h1]; exact hk, by rw [hdl, hd]; exact h4, h5, ?_, fun t ht => ?_, ?_⟩
    · rw [putCells_size]; exact h6
    · simp only [intL, List.mem_map] at ht
      obtain ⟨x, _, rfl⟩ := ht
      exact hsz.symm
    · rw [hdl, show (resCx Try.prog W' κ').sz 2 = 1 from hsz, Nat.mul_one]
      exact CRL_ints (by rw [putCells_size]; omega) (fun j hj => putCells_at d cur j hj (by omega))
def mks (k : Int) (n : Nat) : List Int := (List.range n).map (fun (i : Nat) => k + (i : Int))
theorem mks_length (k : Int) (n : Nat) : (mks k n).length = n := by simp [mks]
theorem holds_alloc {w : World} {b : Nat} {d : Array Int} (hb : b < w.heap.size) (o : Obj) (h : Holds (Value.int .i64) w b 0 d) : Holds (Value.int .i64) (w.alloc o) b 0 d := fun j hj => by
  have hh : (w.alloc o).heap[b]? = w.heap[b]? := Below.heap_alloc w o b hb
  have := h j hj
  simpa only [World.cell?, World.frozen?, hh] using this
set_option maxHeartbeats 1000000 in
theorem mark_ser (m : Int) (l : List Int) (k : Int) (b cap : Nat) (w : World) (hb : b < w.heap.size) (hH : Holds (Value.int .i64) w b 0 l.toArray) (h1 : -1000000000000 ≤ k) (h2 : k ≤ 1000000000000) (h3 : l.length ≤ 1099511627776) :
    Calls Try.prog 11 #[.agg #[.int .i64 m, .slice (some ⟨b, 0, none⟩) l.length cap], .int .i64 k] w fun e w' => e = .returned (.int .i64 (k + l.length)) ∧ ∃ o, w' = putRow (Value.int .i64) (w.alloc o) b 0 (mkA k l l.length).toArray := by
  have hH1 := holds_alloc hb (.cells #[.int .i64 m, .slice (some ⟨b, 0, none⟩) l.length cap] 28) hH
  have H1 := Lib.hid hH1
  clear hH1 hH
  go_enter Try.func11, Try.ntmps11
  go_wp2_with (go_at_call 25; refine (mark_walk l k b cap _ H1.out h1 h2 h3).mono ?_; rintro e w' ⟨rfl, rfl⟩)
  go_ret
  exact ⟨rfl, _, rfl⟩
theorem io_markSeries (m : Int) (l : List Int) (k : Int) (h1 : -1000000000000 ≤ k) (h2 : k ≤ 1000000000000) (h3 : l.length ≤ 1099511627776) :
    AFn Try.prog (1000000 + 11) [.agg [.int .i64 m, .sl true 2 (intL l)], .int .i64 k] (.tup [.int .i64 (k + l.length), .agg [.int .i64 m, .sl true 2 (intL (mks k l.length))]]) := by
  refine (AFn_io (by decide)).2 ⟨⟨_, Try.func11, by rfl, by rfl⟩, _, _, _, _, _, _, rfl, rfl, by simp [T.refFree, T.refFreeL, intL_refFree], .inr ⟨_, _, rfl, rfl, fun j => ?_, fun j t hj hn => ?_⟩, fun w v κ hcol hinj hrf hVR => ?_⟩
  · match j with
    | 0 => rfl
    | 1 => rfl
    | j + 2 => simp [T.sizeL, T.size]
  · match j, hj with
    | 0, hj => simp at hj; subst hj; simp [T.isNode] at hn
    | 1, hj => exact ⟨_, rfl, rfl⟩
    | j + 2, hj => simp at hj
  · obtain ⟨cs, rfl, e2⟩ := hVR
    simp only [CR, CRL, T.size] at e2
    obtain ⟨e3, e4, e5⟩ := e2
    match cs, e3, e4, e5 with
    | [c0, c1], e3, e4, _ =>
      simp only [List.take_succ_cons, List.take_zero, List.cons.injEq, and_true] at e3
      subst e3
      simp only [List.drop_succ_cons, List.drop_zero, List.take_succ_cons, List.take_zero] at e4
      obtain ⟨b, cap, cur, rfl, hb, hk, hl, hH, hback⟩ := markable (l := l) (s := 0) (p := [] ++ [0 + 1]) (by simp only [CR]; exact e4)
      have hbs : b < w.heap.size := hcol b _ _ _ hk
      refine (mark_ser m l k b cap w hbs hH h1 h2 h3).mono fun e w' ⟨he, o, hw⟩ => ?_
      rw [mkA_full] at hw
      subst hw
      have hal : ∀ c, c < w.heap.size → (w.alloc o).heap[c]? = w.heap[c]? := fun c hc => Below.heap_alloc w o c hc
      refine ⟨he, rfl, rfl, rfl, by simp [putRow, mapBlock], fun c hc hn => ?_, ⟨[.int .i64 m, .slice (some ⟨b, 0, none⟩) l.length cap], rfl, ?_⟩⟩
      · rw [putRow_other (fun e => by rw [e, hk] at hn; cases hn), hal c hc]
      · have hx := hback (putRow (Value.int .i64) (w.alloc o) b 0 (mks k l.length).toArray) κ 0 ([] ++ [0 + 1]) (mks k l.length) (mks_length _ _) (putRow_heap (by rw [hal b hbs]; exact hb) _) hk
        simp only [CR, CRL, T.size, List.take_succ_cons, List.take_zero, List.drop_succ_cons, List.drop_zero]
        simp only [CR] at hx
        exact ⟨trivial, hx, trivial⟩
    | [], e3, _, _ => simp at e3
    | [c0], _, e4, _ => simp at e4
    | c0 :: c1 :: c2 :: cs, _, _, e5 => simp at e5

end Go.Proofs.Ytahnnangdepkbab
