/-
  The laws' marks: a list is written over in place.
-/
import Derived.Test.YtdnaecmcbkfpaaaGreatFin
import Derived.Sort.Row
import Derived.Lib.RowBridge
import Derived.WalkKit
import Derived.ProofKit
import Derived.Lib.Hide
namespace Go.Proofs.YtdnaecmcbkfpaaaGreat
open Go.RowKit
set_option linter.unusedSimpArgs false
set_option linter.unusedVariables false
set_option linter.unusedSectionVars false
set_option maxRecDepth 20000
-- The laws' marks: a list is written over in place.
open Go.Sort
/-- Marks up to j, then the elder numbers. -/
def mkA (k : Int) (l : List Int) (j : Nat) : List Int := (List.range j).map (fun (i : Nat) => k + (i : Int)) ++ l.drop j
theorem mkA_length (k : Int) (l : List Int) (j : Nat) (h : j ≤ l.length) : (mkA k l j).length = l.length := by simp [mkA]; omega
theorem mkA_zero (k : Int) (l : List Int) : mkA k l 0 = l := by simp [mkA]
theorem mkA_full (k : Int) (l : List Int) : mkA k l l.length = (List.range l.length).map (fun (i : Nat) => k + (i : Int)) := by simp [mkA]
theorem mkA_set (k : Int) (l : List Int) (j : Nat) (h : j < l.length) : (mkA k l j).set j (k + j) = mkA k l (j + 1) := by
  apply List.ext_getElem
  · simp [mkA]; omega
  · intro i h1 h2
    simp only [mkA, List.length_set, List.length_append, List.length_map, List.length_range, List.length_drop] at h1 h2
    rw [List.getElem_set]
    simp only [mkA, List.getElem_append, List.length_map, List.length_range, List.getElem_map, List.getElem_range, List.getElem_drop]
    split
    · rename_i e; subst e; rw [dif_pos (by omega)]
    · split <;> split <;> first | rfl | omega | (congr 1; omega)
theorem cells_at {cur : Array Value} {l : List Int} {X : Cx} {s : Nat} {p : List Nat} (hl : l.length ≤ cur.size) (h : CRL X s p 0 (intL l) (cur.toList.take l.length)) (j : Nat) (hj : j < l.length) : cur[j]? = some (.int .i64 (l.getD j 0)) := by
  have hg : (intL l)[j]? = some (.int .i64 (l.getD j 0)) := by simp [intL, List.getD_eq_getElem?_getD, hj]
  have h1 := CRL_at (intL l) j 0 _ _ hg h
  have h2 : T.sizeL ((intL l).take j) = j := by
    rw [sizeL_of_all (n := 1) (fun t ht => by
      have := List.mem_of_mem_take ht
      simp only [intL, List.mem_map] at this
      obtain ⟨x, _, rfl⟩ := this
      rfl)]
    simp [intL]; omega
  simp only [h2, T.size, CR] at h1
  have h3 := congrArg (fun x => x[0]?) h1
  have hjs : j < cur.size := by omega
  simp [List.getElem?_take, List.getElem?_drop, hj, hjs] at h3
  simp [hjs, h3, hj, List.getD_eq_getElem?_getD]
theorem putRow_heap {w : World} {b : Nat} {cur : Array Value} {e : TypeId} {fz : Nat × Nat} (hb : w.heap[b]? = some (.cells cur e fz)) (d : Array Int) : (putRow (Value.int .i64) w b 0 d).heap[b]? = some (.cells (putCells (Value.int .i64) 0 d cur) e fz) := by
  simp [putRow, mapBlock, Array.getElem?_modify, hb, onCells]
theorem putRow_other {w : World} {b c : Nat} (h : c ≠ b) (d : Array Int) : (putRow (Value.int .i64) w b 0 d).heap[c]? = w.heap[c]? := by
  simp only [putRow, mapBlock, Array.getElem?_modify]
  rw [if_neg (fun e => h e.symm)]
theorem putCells_size (d : Array Int) (cur : Array Value) : (putCells (Value.int .i64) 0 d cur).size = cur.size := by simp [putCells]
theorem putCells_at (d : List Int) (cur : Array Value) (j : Nat) (hj : j < d.length) (hs : j < cur.size) : (putCells (Value.int .i64) 0 d.toArray cur)[j]? = some (.int .i64 (d.getD j 0)) := by
  simp [putCells, hs, hj, List.getD_eq_getElem?_getD]
theorem CRL_ints {X : Cx} {s : Nat} {p : List Nat} {cur : Array Value} {d : List Int} (hl : d.length ≤ cur.size) (h : ∀ j, j < d.length → cur[j]? = some (.int .i64 (d.getD j 0))) : CRL X s p 0 (intL d) (cur.toList.take d.length) := by
  refine CRL_of_cells _ 0 _ (by simp [intL]; omega) (fun t ht => ?_) (fun j t v hj hv => ?_)
  · simp only [intL, List.mem_map] at ht
    obtain ⟨x, _, rfl⟩ := ht
    rfl
  · have hjl : j < d.length := by have := (List.getElem?_eq_some_iff.1 hj).1; simpa [intL] using this
    rw [List.getElem?_take_of_lt hjl] at hv
    have hv2 : cur[j]? = some v := by simpa using hv
    rw [h j hjl] at hv2
    have ht2 : (intL d)[j]? = some (.int .i64 (d.getD j 0)) := by simp [intL, List.getD_eq_getElem?_getD, hjl]
    rw [ht2] at hj
    simp only [Option.some.injEq] at hj hv2
    subst hj; subst hv2
    simp only [CR]
theorem markable {W : World} {κ : Kap} {s : Nat} {p : List Nat} {l : List Int} {v : Value} (h : CR (argCx Tryz.prog W κ) s p (.sl true 2 (intL l)) [v]) :
    ∃ b cap cur, v = .slice (some ⟨b, 0, none⟩) l.length cap ∧ W.heap[b]? = some (.cells cur 2 (0, 0)) ∧ κ b = some (s, p, v) ∧ l.length ≤ cur.size ∧ Holds (Value.int .i64) W b 0 l.toArray ∧
      ∀ (W' : World) (κ' : Kap) (s' : Nat) (p' : List Nat) (d : List Int), d.length = l.length → W'.heap[b]? = some (.cells (putCells (Value.int .i64) 0 d.toArray cur) 2 (0, 0)) → κ' b = some (s', p', v) → CR (resCx Tryz.prog W' κ') s' p' (.sl true 2 (intL d)) [v] := by
  have hsz : Tryz.prog.cellsOf 2 = 1 := by kernel_rfl
  simp only [CR] at h
  obtain ⟨b, cap, cur, h1, h2, h3, h4, h5, h6, h7, h8⟩ := h
  have hlen : (intL l).length = l.length := by simp [intL]
  simp only [List.cons.injEq, and_true] at h1
  rw [hlen] at h1 h3 h4 h8
  have hcs : cur.size = cap := by rw [h6]; show cap * Tryz.prog.cellsOf 2 = cap; rw [hsz]; omega
  have h8' : CRL (argCx Tryz.prog W κ) s p 0 (intL l) (cur.toList.take l.length) := by
    have e : l.length * (argCx Tryz.prog W κ).sz 2 = l.length := by show l.length * Tryz.prog.cellsOf 2 = _; rw [hsz]; omega
    rw [e] at h8; exact h8
  refine ⟨b, cap, cur, h1, h2, by rw [h1]; exact h3, by omega, fun j hj => ?_, fun W' κ' s' p' d hd hW hk => ?_⟩
  · have hj' : j < l.length := by simpa using hj
    have hc := cells_at (by omega) h8' j hj'
    have h2' : W.heap[b]? = some (.cells cur 2 (0, 0)) := h2
    constructor
    · simp [World.cell?, h2', hc, hj', List.getD_eq_getElem?_getD]
    · simp [World.frozen?, h2']
  · simp only [CR]
    have hdl : (intL d).length = d.length := by simp [intL]
    refine ⟨b, cap, _, by rw [hdl, hd, h1], hW, by rw [hdl, hd, ← h1]; exact hk, by rw [hdl, hd]; exact h4, h5, ?_, fun t ht => ?_, ?_⟩
    · rw [putCells_size]; exact h6
    · simp only [intL, List.mem_map] at ht
      obtain ⟨x, _, rfl⟩ := ht
      exact hsz.symm
    · rw [hdl, show (resCx Tryz.prog W' κ').sz 2 = 1 from hsz, Nat.mul_one]
      exact CRL_ints (by rw [putCells_size]; omega) (fun j hj => putCells_at d cur j hj (by omega))
def mks (k : Int) (n : Nat) : List Int := (List.range n).map (fun (i : Nat) => k + (i : Int))
theorem mks_length (k : Int) (n : Nat) : (mks k n).length = n := by simp [mks]
theorem holds_alloc {w : World} {b : Nat} {d : Array Int} (hb : b < w.heap.size) (o : Obj) (h : Holds (Value.int .i64) w b 0 d) : Holds (Value.int .i64) (w.alloc o) b 0 d := fun j hj => by
  have hh : (w.alloc o).heap[b]? = w.heap[b]? := Below.heap_alloc w o b hb
  have := h j hj
  simpa only [World.cell?, World.frozen?, hh] using this

end Go.Proofs.YtdnaecmcbkfpaaaGreat
