/-
  The laws' marks on planes.
-/
import Derived.Test.YtahnnangdepkbabMr
import Derived.Test.YtahnnangdepkbabLp
namespace Go.Proofs.Ytahnnangdepkbab
open Go.RowKit
set_option linter.unusedSimpArgs false
set_option linter.unusedVariables false
set_option linter.unusedSectionVars false
set_option maxRecDepth 20000
-- The laws' marks on planes.
open Go.Sort
set_option maxHeartbeats 1000000 in
theorem mark_pl (m : Int) (ll : List (List Int)) (k : Int) (b0 cap0 : Nat) (b cp : Nat → Nat) (w : World) (hs0 : b0 < w.heap.size) (hsz : ∀ i, i < ll.length → b i < w.heap.size) (hcell : ∀ i, i < ll.length → ∀ w' : World, w'.heap[b0]? = w.heap[b0]? → w'.cell? ⟨b0, i, none⟩ = some (.slice (some ⟨b i, 0, none⟩) (ll.getD i []).length (cp i)))
    (hb0 : ∀ i, i < ll.length → b0 ≠ b i) (hne : ∀ i j, i < ll.length → j < ll.length → i ≠ j → b i ≠ b j) (hH : ∀ i, i < ll.length → Holds (Value.int .i64) w (b i) 0 (ll.getD i []).toArray)
    (h1 : 0 ≤ k) (h2 : k ≤ 1000000000) (h3 : total ll ≤ 1000000000) (h4 : ll.length ≤ 1000000000) :
    Calls Try.prog 10 #[.agg #[.int .i64 m, .slice (some ⟨b0, 0, none⟩) ll.length cap0], .int .i64 k] w fun e w' => e = .returned (.int .i64 (k + total ll)) ∧ ∃ o, w' = wrRows (w.alloc o) b k ll ll.length := by
  have M := mark_rows ll k b0 cap0 b cp (w.alloc (.cells #[.int .i64 m, .slice (some ⟨b0, 0, none⟩) ll.length cap0] 31)) (fun i hi w' hw => hcell i hi w' (hw.trans (Below.heap_alloc w _ b0 hs0))) hb0 hne (fun i hi => holds_alloc (hsz i hi) _ (hH i hi)) h1 h2 h3 h4
  have M1 := Lib.hid M
  clear M hH hcell hb0 hne hsz
  go_enter Try.func10, Try.ntmps10
  go_wp2_with (go_at_call 24; refine M1.out.mono ?_; rintro e w' ⟨rfl, rfl⟩)
  go_ret
  exact ⟨rfl, _, rfl⟩
theorem io_markPlane (m : Int) (ll : List (List Int)) (k : Int) (h1 : 0 ≤ k) (h2 : k ≤ 1000000000) (h3 : total ll ≤ 1000000000 ∧ ll.length ≤ 1000000000) :
    AFn Try.prog (1000000 + 10) [.agg [.int .i64 m, .sl true 26 (rowsO ll)], .int .i64 k] (.tup [.int .i64 (k + total ll), .agg [.int .i64 m, .sl true 26 (rowsO (mksR k ll))]]) := by
  refine (AFn_io (by decide)).2 ⟨⟨_, Try.func10, by rfl, by rfl⟩, _, _, _, _, _, _, rfl, rfl, by simp [T.refFree, T.refFreeL, rowsO_refFree], .inr ⟨_, _, rfl, rfl, fun j => ?_, fun j t hj hn => ?_⟩, fun w v κ hcol hinj hrf hVR => ?_⟩
  · match j with
    | 0 => rfl
    | 1 => rfl
    | j + 2 => simp [T.sizeL, T.size]
  · match j, hj with
    | 0, hj => simp at hj; subst hj; simp [T.isNode] at hn
    | 1, hj => exact ⟨_, rfl, rfl⟩
    | j + 2, hj => simp at hj
  · obtain ⟨cs, rfl, e2⟩ := hVR
    simp only [CR, CRL, T.size] at e2
    obtain ⟨e3, e4, e5⟩ := e2
    match cs, e3, e4, e5 with
    | [c0, c1], e3, e4, _ =>
      simp only [List.take_succ_cons, List.take_zero, List.cons.injEq, and_true] at e3
      subst e3
      simp only [List.drop_succ_cons, List.drop_zero, List.take_succ_cons, List.take_zero] at e4
      have hsz : Try.prog.cellsOf 26 = 1 := by kernel_rfl
      obtain ⟨b0, cap0, cur0, g1, g2, g3, g4, g5, g6, g7, g8⟩ := e4
      have hlen : (rowsO ll).length = ll.length := rowsO_length ll
      simp only [List.cons.injEq, and_true] at g1
      rw [hlen] at g1 g3 g4 g8
      have hX : (argCx Try.prog w κ).sz 26 = 1 := hsz
      rw [hX, Nat.mul_one] at g8 g6
      subst g1
      have g2' : w.heap[b0]? = some (.cells cur0 26 (0, 0)) := g2
      have hrow : ∀ i, ∃ x : Nat × Nat × Array Value, i < ll.length → cur0[i]? = some (.slice (some ⟨x.1, 0, none⟩) (ll.getD i []).length x.2.1) ∧ w.heap[x.1]? = some (.cells x.2.2 2 (0, 0)) ∧ κ x.1 = some (0, ([] ++ [0 + 1]) ++ [i], .slice (some ⟨x.1, 0, none⟩) (ll.getD i []).length x.2.1) ∧ Holds (Value.int .i64) w x.1 0 (ll.getD i []).toArray ∧
          ∀ (W' : World) (κ' : Kap) (s' : Nat) (p' : List Nat) (d : List Int), d.length = (ll.getD i []).length → W'.heap[x.1]? = some (.cells (putCells (Value.int .i64) 0 d.toArray x.2.2) 2 (0, 0)) → κ' x.1 = some (s', p', .slice (some ⟨x.1, 0, none⟩) (ll.getD i []).length x.2.1) → CR (resCx Try.prog W' κ') s' p' (.sl true 2 (intL d)) [.slice (some ⟨x.1, 0, none⟩) (ll.getD i []).length x.2.1] := by
        intro i
        by_cases hi : i < ll.length
        · obtain ⟨u, hu, hC⟩ := rowsO_cells g8 i hi
          obtain ⟨b, cap, cur, rfl, q2, q3, q4, q5, q6⟩ := markable hC
          refine ⟨(b, cap, cur), fun _ => ⟨?_, q2, q3, q5, q6⟩⟩
          rw [List.getElem?_take_of_lt hi] at hu
          simpa using hu
        · exact ⟨(0, 0, #[]), fun h => absurd h hi⟩
      obtain ⟨f, hf⟩ := Classical.skolem.1 hrow
      have hne : ∀ i j, i < ll.length → j < ll.length → i ≠ j → (f i).1 ≠ (f j).1 := fun i j hi hj hij e => by
        have a1 := (hf i hi).2.2.1
        have a2 := (hf j hj).2.2.1
        rw [e, a2] at a1
        simp at a1
        exact hij a1.1.symm
      have hb0 : ∀ i, i < ll.length → b0 ≠ (f i).1 := fun i hi e => by
        have a1 := (hf i hi).2.2.1
        have g3' : κ b0 = some (0, [] ++ [0 + 1], _) := g3
        rw [← e, g3'] at a1
        simp at a1
      have hbs0 : b0 < w.heap.size := hcol b0 _ _ _ g3
      have hbs : ∀ i, i < ll.length → (f i).1 < w.heap.size := fun i hi => hcol _ _ _ _ (hf i hi).2.2.1
      refine (mark_pl m ll k b0 cap0 (fun i => (f i).1) (fun i => (f i).2.1) w hbs0 hbs (fun i hi w' hw => ?_) hb0 hne (fun i hi => (hf i hi).2.2.2.1) h1 h2 h3.1 h3.2).mono fun e w' ⟨he, o, hw⟩ => ?_
      · have a1 := (hf i hi).1
        rw [← hw] at g2'
        simp [World.cell?, g2', a1]
      · subst hw
        have hal : ∀ c, c < w.heap.size → (w.alloc o).heap[c]? = w.heap[c]? := fun c hc => Below.heap_alloc w o c hc
        have hos := wrRows_os (w.alloc o) (fun i => (f i).1) k ll ll.length
        refine ⟨he, hos.1, hos.2.1, hos.2.2, by rw [wrRows_size]; simp, fun c hc hn => ?_, ⟨[.int .i64 m, .slice (some ⟨b0, 0, none⟩) ll.length cap0], rfl, ?_⟩⟩
        · rw [wrRows_other (w.alloc o) _ k ll c _ (fun j hj e => by
            have a1 := (hf j hj).2.2.1
            rw [← e, hn] at a1
            cases a1), hal c hc]
        · have hml := mksR_length k ll
          simp only [CR, CRL, T.size, List.take_succ_cons, List.take_zero, List.drop_succ_cons, List.drop_zero]
          refine ⟨trivial, ?_, trivial⟩
          have hlen2 : (rowsO (mksR k ll)).length = ll.length := by rw [rowsO_length, hml]
          rw [hlen2]
          refine ⟨b0, cap0, cur0, rfl, ?_, g3, g4, g5, g6.trans (by rw [show (resCx Try.prog _ κ).sz 26 = 1 from hsz, Nat.mul_one]), fun t ht => by rw [rowsO_size _ t ht]; exact hsz.symm, ?_⟩
          · show (wrRows (w.alloc o) (fun i => (f i).1) k ll ll.length).heap[b0]? = _
            rw [wrRows_other (w.alloc o) _ k ll b0 _ (fun j hj => hb0 j hj), hal b0 hbs0]; exact g2'
          · rw [show (resCx Try.prog (wrRows (w.alloc o) (fun i => (f i).1) k ll ll.length) κ).sz 26 = 1 from hsz, Nat.mul_one]
            refine CRL_of_cells _ 0 _ (by rw [hlen2]; simp; omega) (rowsO_size _) (fun j t v hj hv => ?_)
            have hjl : j < ll.length := by have := (List.getElem?_eq_some_iff.1 hj).1; omega
            obtain ⟨a1, a2, a3, a4, a5⟩ := hf j hjl
            rw [List.getElem?_take_of_lt hjl] at hv
            have hv2 : cur0[j]? = some v := by simpa using hv
            rw [a1] at hv2
            simp only [Option.some.injEq] at hv2
            subst hv2
            rw [rowsO_get _ j (by rw [hml]; exact hjl), mksR_getD ll k j hjl] at hj
            simp only [Option.some.injEq] at hj
            subst hj
            rw [Nat.zero_add j]
            exact a5 _ κ 0 (([] ++ [0 + 1]) ++ [j]) (mks (k + total (ll.take j)) (ll.getD j []).length) (mks_length _ _) (wrRows_at hne (cur := fun i => (f i).2.2) (fun i hi => (hal _ (hbs i hi)).trans (hf i hi).2.1) ll.length (Nat.le_refl _) j hjl) a3
    | [], e3, _, _ => simp at e3
    | [c0], _, e4, _ => simp [CR] at e4
    | c0 :: c1 :: c2 :: cs, _, _, e5 => simp at e5

end Go.Proofs.Ytahnnangdepkbab
