/-
  Arguments that are planes, read as trees.
-/
import Derived.Test.YtahnnangdepkbabFin
import Derived.Test.YtahnnangdepkbabTr
namespace Go.Proofs.Ytahnnangdepkbab
open Go.RowKit
set_option linter.unusedSimpArgs false
set_option linter.unusedVariables false
set_option linter.unusedSectionVars false
set_option maxRecDepth 20000
-- Arguments that are planes, read as trees.
open Go.ChangeShapes Go.WideShapes Go.Joins Go.Deep
theorem ar_irows {H : Type} {enc : TypeId × Value → H} {W : World} {t : TypeId} {fuel : Nat} {v : Value} {x : DataW H × List MemPlace} (ht : Try.prog.underlying t = some (.slice 26)) (he : Try.prog.underlying 26 = some (.slice 2)) (hq : Try.prog.underlying 2 = some (.int .i64)) (ce : Try.prog.cellsOf 26 = 1) (cq : Try.prog.cellsOf 2 = 1)
    (h : DataW.trod enc Try.prog W 0 (fun _ => true) true fuel t [v] = some x) : ∃ ll : List (List Int), ll.length ≤ 9223372036854775807 ∧ (∀ i, (ll.getD i []).length ≤ 9223372036854775807) ∧ ∀ s p, CR (argCx Try.prog W (fun _ => none)) s p (.sl false 26 (rowsF ll)) [v] := by
  have hmx : maxLen = 9223372036854775807 := by decide
  rcases open_int_rows ht he hq ce cq h with ⟨h1, _⟩ | ⟨a, len, cap, A, L, C, Z, h1, _, h2, h3, _, h5⟩
  · refine ⟨[], by simp, by simp, fun s p => ?_⟩
    rw [h1]
    simp only [CR]
    exact ⟨none, 0, rfl, Nat.le_refl _, Nat.zero_le _, by simp [rowsF], rfl, fun h => absurd rfl h⟩
  · have hrow : ∀ r, r < len → ((Z r).take (L r)).length = L r := fun r hr => by
      have := h5 r (by omega)
      rw [List.length_take]; omega
    have hgd : ∀ i, (((List.range len).map (fun r => (Z r).take (L r))).getD i []).length ≤ 9223372036854775807 := fun i => by
      by_cases hi : i < len
      · have := h5 i (by omega)
        simp [List.getD_eq_getElem?_getD, hi]; omega
      · simp [List.getD_eq_getElem?_getD, hi]
    refine ⟨(List.range len).map (fun r => (Z r).take (L r)), by simp; omega, hgd, fun s p => ?_⟩
    rw [h1]
    have hlen : (rowsF ((List.range len).map (fun r => (Z r).take (L r)))).length = len := by simp [rowsF_length]
    have hsz1 : ∀ t ∈ rowsF ((List.range len).map (fun r => (Z r).take (L r))), t.size = 1 := fun t ht => by
      simp only [rowsF, List.mem_map] at ht
      obtain ⟨y, _, rfl⟩ := ht
      rfl
    simp only [CR]
    refine ⟨some a, cap, by rw [hlen], by rw [hlen]; exact h2, h3, fun t ht => ?_, rowsF_pure _, fun hne => ?_⟩
    · rw [hsz1 t ht]; exact ce.symm
    · have hpos : 0 < len := by
        rcases Nat.eq_zero_or_pos len with h | h
        · exact absurd (List.eq_nil_of_length_eq_zero (by rw [hlen, h])) hne
        · exact h
      have h0 := (h5 0 (by omega)).1
      simp only [Addr.add, if_true] at h0
      obtain ⟨b, off, spot⟩ := a
      simp only [World.cell?] at h0
      cases hb : W.heap[b]? with
      | none => simp [hb] at h0
      | some ob =>
        cases ob with
        | cells cur e fz =>
          simp only [hb] at h0
          cases spot with
          | some x => simp at h0
          | none =>
            have hcell' : ∀ i, i < len → cur[off + i]? = some (.slice (A i) (L i) (C i)) := fun i hi => by
              have := (h5 i (by omega)).1
              rw [addr_add] at this
              simpa [World.cell?, hb] using this
            have hsz : off + len ≤ cur.size := by
              have := hcell' (len - 1) (by omega)
              have := (Array.getElem?_eq_some_iff.1 this).1
              omega
            refine ⟨b, off, rfl, ⟨(Array.getElem?_eq_some_iff.1 hb).1, rfl⟩, cur, e, fz, hb, ?_, ?_⟩
            · show off + (rowsF ((List.range len).map (fun r => (Z r).take (L r)))).length * Try.prog.cellsOf 26 ≤ cur.size
              rw [hlen, ce]; omega
            · show CRL _ s p 0 _ ((cur.toList.drop off).take ((rowsF ((List.range len).map (fun r => (Z r).take (L r)))).length * Try.prog.cellsOf 26))
              rw [hlen, ce, Nat.mul_one]
              refine CRL_of_cells _ 0 _ (by rw [hlen]; simp; omega) hsz1 (fun j t v hj hv => ?_)
              have hjl : j < len := by have := (List.getElem?_eq_some_iff.1 hj).1; omega
              have hv2 : cur[off + j]? = some v := by
                rw [List.getElem?_take_of_lt hjl, List.getElem?_drop] at hv
                simpa using hv
              rw [hcell' j hjl] at hv2
              have ht2 : t = (.sl false 2 (intL ((Z j).take (L j)))) := by
                have : (rowsF ((List.range len).map (fun r => (Z r).take (L r))))[j]? = some (.sl false 2 (intL ((Z j).take (L j)))) := by
                  simp [rowsF, hjl]
                rw [this] at hj
                simpa using hj.symm
              subst ht2
              simp only [Option.some.injEq] at hv2
              subst hv2
              obtain ⟨_, r1, r2, r3, r4, r5, r6⟩ := h5 j (by omega)
              cases hA : A j with
              | none =>
                have hC0 := r5 hA
                have hL0 : L j = 0 := by omega
                rw [hC0, hL0, List.take_zero]
                exact ar_nil rfl s _
              | some a' => exact ar_row cq r1 r2 (by omega) (fun i hi => by rw [r3] at hi; exact (r6 a' hA).2 i hi) s _
        | _ => simp [hb] at h0
theorem ar_plane {H : Type} {enc : TypeId × Value → H} {W : World} {t : TypeId} {f0 f1 : Field} {v : Value} {d : DataW H} {ps : List MemPlace} (hs : Try.prog.underlying t = some (.struct #[f0, f1])) (hone : oneCellFields Try.prog #[f0, f1] = true) (hC : Try.prog.cellsOf t = 2)
    (h0 : Try.prog.underlying f0.type = some (.int .i64)) (h1 : Try.prog.underlying f1.type = some (.slice 26)) (he : Try.prog.underlying 26 = some (.slice 2)) (hq : Try.prog.underlying 2 = some (.int .i64)) (ce : Try.prog.cellsOf 26 = 1) (cq : Try.prog.cellsOf 2 = 1)
    (hv : Value.okWide Try.prog W .any 0 t v) (h : DataW.Trod enc Try.prog W 0 (fun _ => true) true t v d ps) : ∃ (m : Int) (ll : List (List Int)), (ll.length ≤ 9223372036854775807 ∧ ∀ i, (ll.getD i []).length ≤ 9223372036854775807) ∧ (Lit.int .i64 m).wf = true ∧ Ar W (.agg [.int .i64 m, .sl false 26 (rowsF ll)]) v := by
  obtain ⟨v0, v1, y0, y1, n, rfl, _, _, g0, g1⟩ := open_agg2 hs hone hC hv h
  obtain ⟨m, rfl, hw⟩ := cell_int h0 g0
  obtain ⟨ll, k1, k2, k3⟩ := ar_irows h1 he hq ce cq g1
  refine ⟨m, ll, ⟨k1, k2⟩, hw, by simp [T.refFree, T.refFreeL, rowsF_refFree], fun j => ⟨[.int .i64 m, v1], rfl, ?_⟩⟩
  simp only [CR, CRL, T.size, List.nil_append, List.take_succ_cons, List.take_zero, List.drop_succ_cons, List.drop_zero]
  exact ⟨trivial, k3 j [0 + 1], trivial⟩
end Go.Proofs.Ytahnnangdepkbab
