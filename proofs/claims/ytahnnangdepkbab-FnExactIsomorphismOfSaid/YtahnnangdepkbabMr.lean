/-
  The laws' marks on rows of rows.
-/
import Derived.Test.YtahnnangdepkbabLcc
import Derived.Test.YtahnnangdepkbabTr
import Derived.Test.YtahnnangdepkbabRz
namespace Go.Proofs.Ytahnnangdepkbab
open Go.RowKit
set_option linter.unusedSimpArgs false
set_option linter.unusedVariables false
set_option linter.unusedSectionVars false
set_option maxRecDepth 20000
-- The laws' marks on rows of rows.
open Go.Sort
def total : List (List Int) → Nat
  | [] => 0
  | l :: r => l.length + total r
def mksR : Int → List (List Int) → List (List Int)
  | _, [] => []
  | k, l :: r => mks k l.length :: mksR (k + l.length) r
theorem mksR_length (k : Int) (ll : List (List Int)) : (mksR k ll).length = ll.length := by
  induction ll generalizing k with
  | nil => rfl
  | cons l r ih => simp [mksR, ih]
theorem total_take_succ (ll : List (List Int)) (i : Nat) (h : i < ll.length) : total (ll.take (i + 1)) = total (ll.take i) + (ll.getD i []).length := by
  induction ll generalizing i with
  | nil => simp at h
  | cons l r ih =>
    cases i with
    | zero => simp [total]
    | succ i =>
      have := ih i (by simpa using h)
      simp only [List.take_succ_cons, total, this, List.getD_cons_succ]
      omega
theorem mksR_getD (ll : List (List Int)) (k : Int) (i : Nat) (h : i < ll.length) : (mksR k ll).getD i [] = mks (k + total (ll.take i)) (ll.getD i []).length := by
  induction ll generalizing i k with
  | nil => simp at h
  | cons l r ih =>
    cases i with
    | zero => simp [mksR, total]
    | succ i =>
      have := ih (k + l.length) i (by simpa using h)
      simp only [mksR, List.getD_cons_succ, this, List.take_succ_cons, total]
      congr 1
      omega
theorem total_take_le (ll : List (List Int)) (i : Nat) : total (ll.take i) ≤ total ll := by
  induction ll generalizing i with
  | nil => simp [total]
  | cons l r ih =>
    cases i with
    | zero => simp [total]
    | succ i => have := ih i; simp only [List.take_succ_cons, total]; omega
theorem total_at (ll : List (List Int)) (i : Nat) (h : i < ll.length) : (ll.getD i []).length ≤ total ll := by
  have h1 := total_take_succ ll i h
  have h2 := total_take_le ll (i + 1)
  omega
set_option maxHeartbeats 1000000 in
theorem c_laws_eqInt64SS (ll : List (List Int)) (h1 : total ll ≤ 1000000000 ∧ ll.length ≤ 1000000000) : AFn Try.prog 23 [.sl false 26 (rowsF ll), .sl false 26 (rowsF ll)] (.bool true) := by
  refine AFn.of' ttOk (by decide) Try.func23 Try.ntmps23 (by rw [Try.results23]) (by rfl) (by rfl) (by simp) (by decide) (by simp only [go_sem, Nat.reduceAdd, ↓reduceIte]; rfl) mixed (fun C hP hM hC => ?_)
  (repeat (first | ((with_reducible refine rgn_cons rfl (fun K hK => ?_)); simp only [go_sem, seval, ↓reduceIte, decide_true, decide_false]; (refine hK _ _ _ (by simp only [go_sem, Nat.reduceEqDiff, ↓reduceIte]; rfl) ?_); clear hK; clear K) | (with_reducible first | refine rgn_nil (by first | trivial | kernel_rfl) ?_ | refine AWP.seq ?_ | refine tX hC hP (by kernel_rfl) ?_ | refine aX hC hM hP (by kernel_rfl) ?_ | refine AWP.skip ?_ | refine AWP.label ?_ | refine AWP.exit ?_ | refine AWP.block ?_ | refine cTa ?_ | refine cFa ?_) | simp only [qS, Nat.reduceEqDiff, ↓reduceIte]))
  refine AWP.loop (fun i : Nat => [(5, ⟨0, .val (.int .i64 i)⟩), (0, ⟨0, .val (.sl false 26 (rowsF ll))⟩), (1, ⟨0, .val (.sl false 26 (rowsF ll))⟩)]) (fun i => i ≤ ll.length) (fun i => ll.length - i) 0 (Nat.zero_le _) (fun i => rfl) ?_ (fun i hi => ?_)
  · simp [Sub, lk]
  · (repeat (first | ((with_reducible refine rgn_cons rfl (fun K hK => ?_)); simp only [go_sem, seval, ↓reduceIte, decide_true, decide_false]; (refine hK _ _ _ (by simp only [go_sem, Nat.reduceEqDiff, ↓reduceIte]; rfl) ?_); clear hK; clear K) | (with_reducible first | refine rgn_nil (by first | trivial | kernel_rfl) ?_ | refine AWP.seq ?_ | refine tX hC hP (by kernel_rfl) ?_ | refine aX hC hM hP (by kernel_rfl) ?_ | refine AWP.skip ?_ | refine AWP.label ?_ | refine AWP.exit ?_ | refine AWP.block ?_ | refine cTa ?_ | refine cFa ?_) | simp only [qS, Nat.reduceEqDiff, ↓reduceIte]))
    refine AWP.cond (by decide) rfl (fun h => ?_) (fun h => ?_)
    · have hlt : i < ll.length := by simpa using h
      have hI : (i : Int) < (ll.length : Int) := by omega
      (repeat (first | ((with_reducible refine rgn_cons rfl (fun K hK => ?_)); simp only [go_sem, seval, ↓reduceIte, decide_true, decide_false, rowsF_getD ll i hlt, Int.toNat_natCast, Int.natCast_nonneg, hI, wid ((i : Int) + 1) (by omega) (by omega)]; (first | refine hK _ _ _ (by simp only [go_sem, Nat.reduceEqDiff, ↓reduceIte]; rfl) ?_ | refine ⟨_, c_laws_eqInt64S (ll.getD i []) (by have := total_at ll i hlt; omega), hK _ _ _ (by simp only [go_sem, Nat.reduceEqDiff, ↓reduceIte]; rfl) ?_⟩); clear hK; clear K) | (with_reducible first | refine rgn_nil (by first | trivial | kernel_rfl) ?_ | refine AWP.seq ?_ | refine tX hC hP (by kernel_rfl) ?_ | refine aX hC hM hP (by kernel_rfl) ?_ | refine AWP.skip ?_ | refine AWP.label ?_ | refine AWP.exit ?_ | refine AWP.block ?_ | refine cTa ?_ | refine cFa ?_) | simp only [qS, Nat.reduceEqDiff, ↓reduceIte]))
      exact ⟨i + 1, hlt, by omega, by simp [Sub, lk]⟩
    · (repeat (first | ((with_reducible refine rgn_cons rfl (fun K hK => ?_)); simp only [go_sem, seval, ↓reduceIte, decide_true, decide_false]; (refine hK _ _ _ (by simp only [go_sem, Nat.reduceEqDiff, ↓reduceIte]; rfl) ?_); clear hK; clear K) | (with_reducible first | refine rgn_nil (by first | trivial | kernel_rfl) ?_ | refine AWP.seq ?_ | refine tX hC hP (by kernel_rfl) ?_ | refine aX hC hM hP (by kernel_rfl) ?_ | refine AWP.skip ?_ | refine AWP.label ?_ | refine AWP.exit ?_ | refine AWP.block ?_ | refine cTa ?_ | refine cFa ?_) | simp only [qS, Nat.reduceEqDiff, ↓reduceIte]))
      (refine AWP.ret ?_; refine retOk1 (by simp only [go_sem, seval, ↓reduceIte, decide_true, decide_false]; rfl) ?_)
      rfl
/-- Rows written over, the first i of them. -/
def wrRows (w : World) (b : Nat → Nat) (k : Int) (ll : List (List Int)) : Nat → World
  | 0 => w
  | i + 1 => putRow (Value.int .i64) (wrRows w b k ll i) (b i) 0 (mkA (k + total (ll.take i)) (ll.getD i []) (ll.getD i []).length).toArray
theorem wrRows_other (w : World) (b : Nat → Nat) (k : Int) (ll : List (List Int)) (c : Nat) : ∀ i, (∀ j, j < i → c ≠ b j) → (wrRows w b k ll i).heap[c]? = w.heap[c]?
  | 0, _ => rfl
  | i + 1, h => by
    rw [wrRows, putRow_other (h i (by omega))]
    exact wrRows_other w b k ll c i (fun j hj => h j (by omega))
theorem wrRows_size (w : World) (b : Nat → Nat) (k : Int) (ll : List (List Int)) : ∀ i, (wrRows w b k ll i).heap.size = w.heap.size
  | 0 => rfl
  | i + 1 => by rw [wrRows]; simp [putRow, mapBlock, wrRows_size w b k ll i]
theorem wrRows_os (w : World) (b : Nat → Nat) (k : Int) (ll : List (List Int)) : ∀ i, (wrRows w b k ll i).os = w.os ∧ (wrRows w b k ll i).tape = w.tape ∧ (wrRows w b k ll i).output = w.output
  | 0 => ⟨rfl, rfl, rfl⟩
  | i + 1 => by
    have := wrRows_os w b k ll i
    rw [wrRows]
    exact this
theorem holds_heap {w w' : World} {b : Nat} {d : Array Int} (h : w'.heap[b]? = w.heap[b]?) (hH : Holds (Value.int .i64) w b 0 d) : Holds (Value.int .i64) w' b 0 d := fun j hj => by
  have := hH j hj
  simpa only [World.cell?, World.frozen?, h] using this
set_option maxHeartbeats 1000000 in
theorem mark_rows (ll : List (List Int)) (k : Int) (b0 cap0 : Nat) (b cp : Nat → Nat) (w : World) (hcell : ∀ i, i < ll.length → ∀ w' : World, w'.heap[b0]? = w.heap[b0]? → w'.cell? ⟨b0, i, none⟩ = some (.slice (some ⟨b i, 0, none⟩) (ll.getD i []).length (cp i)))
    (hb0 : ∀ i, i < ll.length → b0 ≠ b i) (hne : ∀ i j, i < ll.length → j < ll.length → i ≠ j → b i ≠ b j) (hH : ∀ i, i < ll.length → Holds (Value.int .i64) w (b i) 0 (ll.getD i []).toArray)
    (h1 : 0 ≤ k) (h2 : k ≤ 1000000000) (h3 : total ll ≤ 1000000000) (h4 : ll.length ≤ 1000000000) :
    Calls Try.prog 24 #[.slice (some ⟨b0, 0, none⟩) ll.length cap0, .int .i64 k] w fun e w' => e = .returned (.int .i64 (k + total ll)) ∧ w' = wrRows w b k ll ll.length := by
  go_enter Try.func24, Try.ntmps24
  go_wp2
  go_loopw [1, 5] (fun kk i wr => ∃ j : Nat, j ≤ ll.length ∧ i = .int .i64 j ∧ kk = .int .i64 (k + total (ll.take j)) ∧ wr = wrRows w b k ll j) (fun _ i _ => ll.length - (intOf i).toNat)
  case atStart => exact ⟨0, Nat.zero_le _, rfl, by simp [total], rfl⟩
  case round =>
    obtain ⟨j, hj, rfl, rfl, rfl⟩ := hrel
    by_cases hlt : j < ll.length
    · have hc := hcell j hlt (wrRows w b k ll j) (wrRows_other w b k ll b0 j (fun i hi => hb0 i (by omega)))
      have ht := total_take_succ ll j hlt
      have hle := total_take_le ll (j + 1)
      have hHj := holds_heap (wrRows_other w b k ll (b j) j (fun i hi => hne j i hlt (by omega) (by omega))) (hH j hlt)
      obtain ⟨W, hW⟩ : ∃ W, wrRows w b k ll j = W := ⟨_, rfl⟩
      obtain ⟨l, hl⟩ : ∃ l, ll.getD j [] = l := ⟨_, rfl⟩
      obtain ⟨K, hK⟩ : ∃ K : Int, k + total (ll.take j) = K := ⟨_, rfl⟩
      have hnext : wrRows w b k ll (j + 1) = putRow (Value.int .i64) W (b j) 0 (mkA K l l.length).toArray := by rw [wrRows, hW, hl, hK]
      rw [hW] at hc hHj ⊢
      rw [hl] at hc hHj ht
      rw [hK]
      have hK2 : k + total (ll.take (j + 1)) = K + l.length := by omega
      have hKb : 0 ≤ K ∧ K ≤ 2000000000 := by omega
      have hlb : l.length ≤ 1000000000 := by omega
      have HH := Lib.hid hHj
      have HN := Lib.hid hnext
      have HK := Lib.hid hK2
      have hKb1 := hKb.1
      have hKb2 := hKb.2
      clear hHj hnext hK2 hH hne hb0 hcell ht hle hK hl hW hKb
      go_wp2_with (go_at_call 25; refine (mark_walk l K (b j) (cp j) _ HH.out (by omega) (by omega) (by omega)).mono ?_; rintro e w' ⟨rfl, rfl⟩)
      refine ⟨⟨j + 1, hlt, by rw [show (j : Int) + 1 = ((j + 1 : Nat) : Int) by omega], by rw [HK.out], HN.out.symm⟩, ?_⟩
      simp [intOf]; omega
    · have e : j = ll.length := by omega
      subst e
      rw [List.take_of_length_le (Nat.le_refl _)]
      have hkb : 0 ≤ k + (total ll : Int) ∧ k + (total ll : Int) ≤ 2000000000 := by omega
      go_wp2
      go_ret
      exact ⟨rfl, rfl⟩
theorem wrRows_at {w : World} {b : Nat → Nat} {k : Int} {ll : List (List Int)} {cur : Nat → Array Value} {e : TypeId} {fz : Nat × Nat} (hne : ∀ i j, i < ll.length → j < ll.length → i ≠ j → b i ≠ b j) (hb : ∀ i, i < ll.length → w.heap[b i]? = some (.cells (cur i) e fz)) :
    ∀ n, n ≤ ll.length → ∀ i, i < n → (wrRows w b k ll n).heap[b i]? = some (.cells (putCells (Value.int .i64) 0 (mks (k + total (ll.take i)) (ll.getD i []).length).toArray (cur i)) e fz)
  | 0, _, i, hi => by omega
  | n + 1, hn, i, hi => by
    by_cases h : i = n
    · subst h
      rw [wrRows, mkA_full]
      exact putRow_heap (by rw [wrRows_other w b k ll (b i) i (fun j hj => hne i j (by omega) (by omega) (by omega))]; exact hb i (by omega)) _
    · rw [wrRows, putRow_other (hne i n (by omega) (by omega) h)]
      exact wrRows_at hne hb n (by omega) i (by omega)
theorem rowsO_cells {X : Cx} {s : Nat} {p : List Nat} {ll : List (List Int)} {cs : List Value} (h : CRL X s p 0 (rowsO ll) cs) (i : Nat) (hi : i < ll.length) : ∃ v, cs[i]? = some v ∧ CR X s (p ++ [i]) (.sl true 2 (intL (ll.getD i []))) [v] := by
  have h1 := CRL_at (rowsO ll) i 0 _ _ (rowsO_get ll i hi) h
  have h2 : T.sizeL ((rowsO ll).take i) = i := by
    rw [sizeL_of_all (fun t ht => rowsO_size ll t (List.mem_of_mem_take ht))]
    simp [rowsO_length]; omega
  have hl := CRL_len _ _ _ _ _ _ h
  rw [rowsO_sizeL] at hl
  simp only [h2, T.size, Nat.zero_add] at h1
  have hc : (cs.drop i).take 1 = [cs[i]'(by omega)] := by
    rw [List.drop_eq_getElem_cons (by omega)]; rfl
  rw [hc] at h1
  exact ⟨_, List.getElem?_eq_getElem (by omega), h1⟩
end Go.Proofs.Ytahnnangdepkbab
