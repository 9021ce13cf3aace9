/-
  The generic part, fifteenth text: slices made; a struct's literal; assignments; stores; lengths.
-/
import Derived.Test.YtjkhggbjkkobaaaMetaN
namespace Go.Proofs.Ytjkhggbjkkobaaa
open Go.RowKit

theorem CRL_of_cells {X : Cx} {s : Nat} {p : List Nat} : ∀ (l : List T) (i : Nat) (cs : List Value), l.length = cs.length → (∀ t ∈ l, t.size = 1) → (∀ j t v, l[j]? = some t → cs[j]? = some v → CR X s (p ++ [i + j]) t [v]) → CRL X s p i l cs
  | [], i, [], _, _, _ => by simp [CRL]
  | [], i, c :: cs, h, _, _ => by simp at h
  | t :: l, i, [], h, _, _ => by simp at h
  | t :: l, i, c :: cs, h, h1, h2 => by
    have ht := h1 t (by simp)
    simp only [CRL, ht]
    refine ⟨by simpa using h2 0 t c rfl rfl, ?_⟩
    refine CRL_of_cells l (i + 1) cs (by simpa using h) (fun t ht => h1 t (by simp [ht])) (fun j t v hj hv => ?_)
    rw [show i + 1 + j = i + (j + 1) by omega]
    exact h2 (j + 1) t v (by simpa using hj) (by simpa using hv)

section
variable {C : Ctx} {env : Env} {V : Nat → Value} {w : World} {κ : Kap} {a : Act} {AF : FuncId → List T → T → Prop} {U : List (Nat × Slot)} {R : List Nat} {n : Nat}
variable {tt : Tt} {P : Program}

theorem zc_one {z : T} (hp : z.plain = true) (hs : z.size = 1) (ha : z.isAgg = false) : ∃ v, z.zc = [v] ∧ mkv z z.zc = v ∧ v.cells = #[v] ∧ v.oneCell' = true := by
  cases z <;> try (simp_all [T.plain, T.zc, mkv, Value.cells, Value.oneCell', T.isAgg]; done)
  case str c => cases c <;> simp [T.zc, mkv, Value.cells, Value.oneCell', Con.val]

theorem op_makeSlice (hP : TtOk C.P tt) (hF : FR C n env a w) {t : TypeId} {sz by_ : Nat} {z : T} {e : TypeId} (hit : tyAt tt t = some ⟨sz, by_, z, .slice e⟩) {ie : Ty} (hie : tyAt tt e = some ie)
    {x y : Operand} {o : Oper} (ho : o.op = .makeSlice t x y) (hok : opOk n o = true)
    (h : (rdv x fun v => rdv y fun u => match v, u with
        | .int .i64 n, .int .i64 m => .need (n = m ∧ 0 ≤ n ∧ n ≤ 1099511627776 ∧ ie.bytes ≤ 64 ∧ ie.size = 1 ∧ ie.zero.isAgg = false) (finOwn o.dst (.sl true e (List.replicate n.toNat ie.zero)) [])
        | _, _ => .fail).sat AF env U R) {Q : Exit → Act → World → Prop} :
    o.wp C.P a w (fun a' w' => FR C n (U ++ env) a' w') Q := by
  obtain ⟨hd, hn, κ, V, hI, hV⟩ := hF
  obtain ⟨v, R', h1, hv⟩ := rdv_sat hI hV (opnd_ok hok (by simp [ho, Op.operands])) h
  obtain ⟨u, R'', h2, hu⟩ := rdv_sat hI hV (opnd_ok hok (by simp [ho, Op.operands])) h1
  cases v <;> try (simp [Rd.sat] at h2; done)
  rename_i kv m
  cases kv <;> try (simp [Rd.sat] at h2; done)
  cases u <;> try (simp [Rd.sat] at h2; done)
  rename_i ku m'
  cases ku <;> try (simp [Rd.sat] at h2; done)
  simp only [Rd.sat] at h2
  obtain ⟨⟨rfl, hm0, hm1, hb, hs1, hag⟩, h3⟩ := h2
  obtain ⟨d, hdst, rfl⟩ := finOwn_sat h3
  obtain ⟨_, hplain, hzs, _⟩ := hP e ie hie
  have hx := hv.int
  have hy := hu.int
  obtain ⟨ti, g1, g2, g3, g4⟩ := info_of hP hie
  have hz1 : ie.zero.size = 1 := by rw [hzs]; exact hs1
  obtain ⟨zv, z1, z2, z3, z4⟩ := zc_one hplain hz1 hag
  obtain ⟨N, rfl⟩ := Int.eq_ofNat_of_zero_le hm0
  have hrun := run_make_row' (P := C.P) t e zv ie.bytes (under_slice hP hit) (by rw [g1]; simp [g2, z2, g3, g4, hs1]) z3 .i64 .i64 N (by
    have : ie.bytes * N ≤ 64 * N := Nat.mul_le_mul_right _ hb
    omega) (by omega) w
  refine wp_value (v := .slice (some ⟨w.heap.size, 0, none⟩) N N) (w' := w.alloc (.cells (madeCells #[zv] N) e)) ?_ ?_
  · simp only [execOp, ho, hx, hy, Sem.run_bind, hrun, Result.andThen_ok, Sem.run_pure]
  · rw [hdst]
    have hlen : (madeCells #[zv] N).size = N := by simp [madeCells]
    have hget : ∀ j, j < N → (madeCells #[zv] N)[j]? = some zv := fun j hj => by
      simp [madeCells, hj, Nat.mod_one]
    refine new_FR hd hn hI hV (dst_lt hok d hdst) (.sl true e (List.replicate N ie.zero)) rfl ?_ _ _ (fun X' f1 f2 f3 f4 => ?_)
    · simp only [T.refFree]
      rw [refFreeL_iff]
      intro t ht
      rw [(List.mem_replicate.1 ht).2]
      exact (plain_facts _ hplain).2.1
    · have hszX : X'.sz e = 1 := by rw [f1, sz_of hP hie, hs1]
      simp only [CR, List.length_replicate]
      refine ⟨w.heap.size, N, madeCells #[zv] N, rfl, by rw [f2]; exact heap_alloc_new w _, f4, Nat.le_refl _, by unfold maxLen; omega, by rw [hlen, hszX, Nat.mul_one], fun t ht => by rw [(List.mem_replicate.1 ht).2, hszX]; exact hz1, ?_⟩
      rw [hszX, Nat.mul_one, List.take_of_length_le (by simp [hlen])]
      refine CRL_of_cells _ 0 _ (by simp [hlen]) (fun t ht => by rw [(List.mem_replicate.1 ht).2]; exact hz1) (fun j t v hj hv => ?_)
      have hj' : j < N := by
        have := (List.getElem?_eq_some_iff.1 hj).1; simpa using this
      have ht : t = ie.zero := (List.mem_replicate.1 (List.mem_of_getElem? hj)).2
      have hv' : v = zv := by
        rw [Array.getElem?_toList, hget j hj'] at hv; simpa using hv.symm
      subst ht; subst hv'
      have := CR_zc X' d ie.zero ([] ++ [0 + j]) hplain
      rw [z1] at this
      exact this

/-- An assignment of data. -/
theorem op_assign_val (hI : Inv C env V w κ) (hd : a.defers = []) (hn : a.tmps.size = n) (hV : ∀ t, t < 1000000 → V t = a.tmps.getD t undef) {x : Operand} {v : T} (hv : HV (cx C env w κ) v (a.eval x)) {o : Oper} (ho : o.op = .assign x) (hok : opOk n o = true)
    (h : (fin o.dst v).sat AF env U R) {Q : Exit → Act → World → Prop} : o.wp C.P a w (fun a' w' => FR C n (U ++ env) a' w') Q :=
  wp_value (v := a.eval x) (w' := w) (by simp [execOp, ho]) (fin_FR hd hn hI hV (dst_lt hok) hv h)

theorem op_assign (hF : FR C n env a w) {x : Operand} {o : Oper} (ho : o.op = .assign x) (hok : opOk n o = true)
    (h : (rdv x fun v => match v, o.dst with
    | .ref s k p, some d => if s = d then fin o.dst v else rdn s k p fun T0 n =>
        match p, T0 with
        | [], _ => .rd d fun sd => .done [(s, ⟨k, .val (.ref d (verOf sd + 1) [])⟩), (d, ⟨verOf sd + 1, .own n⟩)]
        | [_], .tup _ => .rd d fun sd => .done [(d, ⟨verOf sd + 1, .own n⟩), (s, ⟨k, .own (T.set .any p T0)⟩)]
        | _, _ => fin o.dst v
    | v, _ => fin o.dst v).sat AF env U R) {Q : Exit → Act → World → Prop} :
    o.wp C.P a w (fun a' w' => FR C n (U ++ env) a' w') Q := by
  obtain ⟨hd, hn, κ, V, hI, hV⟩ := hF
  obtain ⟨v, R', h1, hv⟩ := rdv_sat hI hV (opnd_ok hok (by simp [ho, Op.operands])) h
  have hrun : (execOp a.eval o).run C.P w = .ok (.value (a.eval x)) w := by simp [execOp, ho]
  have simple : (fin o.dst v).sat AF env U R' → o.wp C.P a w (fun a' w' => FR C n (U ++ env) a' w') Q := fun h2 => op_assign_val hI hd hn hV hv ho hok h2
  cases hdst : o.dst with
  | none =>
    rw [hdst] at h1 simple
    cases v <;> exact simple h1
  | some d =>
    rw [hdst] at h1 simple
    have hdn : d < n := dst_lt hok d hdst
    cases v <;> try (exact simple h1)
    case ref s k p =>
      simp only at h1
      split at h1
      · exact simple h1
      · rename_i hne
        obtain ⟨T0, nd, R'', hs, hg, hnd, h2⟩ := rdn_sat h1
        obtain ⟨s0, hc⟩ := hv.ref_cells
        obtain ⟨b, cap, cur, e1, e2, e3, e4⟩ := hI.ref_eq hs hg hnd hc
        have hr0 := refFree_get p T0 nd hg (hI.own s k T0 hs).1
        simp at e1
        obtain ⟨κ', hI', _⟩ := hI.moveNode hs hg hnd (d := d) (fun e => hne e.symm) nd [] [a.eval x] hr0 (fun b' cap' X' f1 f2 f3 f4 f5 => by
          have hb := hI.inj b' b s p _ _ f1 e4
          subst hb
          have : headOf nd b' cap' = headOf nd b' cap := by rw [f1] at e4; simpa using e4
          rw [this, ← e1] at f5
          exact f5)
        have hm : mkv nd [a.eval x] = a.eval x := by cases nd <;> simp_all [T.isNode, mkv]
        rw [hm] at hI'
        have hVd : ∀ t, t < 1000000 → upd V d (a.eval x) t = if t = d then a.eval x else a.tmps.getD t undef := fun t ht => by
          by_cases e : t = d
          · simp [e, upd]
          · rw [upd_other _ _ _ _ e, if_neg e]; exact hV t ht
        have hsimple : (fin (some d) (.ref s k p)).sat AF env U R'' → o.wp C.P a w (fun a' w' => FR C n (U ++ env) a' w') Q := fun h3 =>
          op_assign_val hI hd hn hV hv ho hok (by rw [hdst]; exact h3)
        cases p with
        | nil =>
          simp only [Rd.sat] at h2
          obtain ⟨R3, ⟨rfl, _⟩, _⟩ := h2
          refine wp_value hrun ?_
          rw [hdst]
          simp [T.get] at hg
          subst hg
          -- the source becomes a handle to what it gave up
          have hbnd := hI'.bind s k (.ref d (verOf (lk env d) + 1) []) (a.eval x) (by
            rw [lk_other _ _ _ _ hne, lk_same]; exact Nat.le_refl _) rfl d (by
              have hown := (hI'.own d _ _ (lk_same _ _ _)).2
              rw [upd_same] at hown
              obtain ⟨cs, g1, g2⟩ := hown
              refine ⟨cs, ?_, ?_⟩
              · rw [g1]; cases T0 <;> simp_all [T.isNode, mkv]
              · have := CR_borrow (X := cx C _ w κ') (s := d) (k := verOf (lk env d) + 1) ⟨_, lk_same _ _ _, Nat.le_refl _⟩ T0 [] cs d [] g2
                cases T0 with
                | sl o e l => cases o with
                  | true => exact this
                  | false => simp [T.isNode] at hnd
                | box e t =>
                  -- a variable's pointer: not a slice; the handle is the same cell
                  simp only [CR, T.borrow] at this ⊢
                  obtain ⟨v, h1, h2, h3⟩ := this
                  exact ⟨v, h1, h2, fun hn => by
                    obtain ⟨b, hd, hb, hv⟩ := h3 hn
                    simp only [CR] at g2
                    obtain ⟨b2, cur2, g3, g4, g5, _⟩ := g2
                    rw [g3] at h1
                    simp at h1
                    exact ⟨b2, by rw [← h1]; exact g5⟩⟩
                | _ => simp [T.isNode] at hnd)
          refine (own_FR (d := d) (v := a.eval x) hd hn hdn hbnd (fun t ht => ?_)).congr (fun t => ?_)
          · by_cases e : t = s
            · subst e
              rw [upd_same, if_neg hne]
              rw [← hV t ht]
              have := (hI.own t k T0 hs).2
              obtain ⟨cs, g1, g2⟩ := this
              obtain ⟨b2, cap2, cur2, f1, f2, f3, _⟩ := node_view hnd g2
              rw [g1, f1, e1]
              have hb := hI.inj b2 b t [] _ _ f3 e4
              subst hb
              have : headOf T0 b2 cap2 = headOf T0 b2 cap := by
                have f3' : κ b2 = some (t, [], headOf T0 b2 cap2) := f3
                rw [f3'] at e4; simpa using e4
              rw [this]
              cases T0 <;> simp_all [T.isNode, mkv]
            · rw [upd_other _ _ _ _ e]; exact hVd t ht
          · simp only [List.cons_append, List.nil_append, lk]
            by_cases e : s = t
            · simp [e]
            · simp only [e, if_false]
        | cons i p' =>
          cases p' with
          | cons i' p'' => simp only at h2; exact hsimple h2
          | nil =>
            cases T0 <;> try (simp only at h2; exact hsimple h2)
            case tup l =>
              simp only [Rd.sat] at h2
              obtain ⟨R3, ⟨rfl, _⟩, _⟩ := h2
              refine wp_value hrun ?_
              rw [hdst]
              exact own_FR hd hn hdn hI' hVd

end

end Go.Proofs.Ytjkhggbjkkobaaa
