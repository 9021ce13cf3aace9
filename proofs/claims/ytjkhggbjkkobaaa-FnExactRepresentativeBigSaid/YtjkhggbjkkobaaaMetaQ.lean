/-
  The generic part, seventeenth text: append.
-/
import Derived.Test.YtjkhggbjkkobaaaMetaP
namespace Go.Proofs.Ytjkhggbjkkobaaa
open Go.RowKit

theorem CRL_append {X : Cx} {s : Nat} {p : List Nat} : ∀ (l1 l2 : List T) (i : Nat) (c1 c2 : List Value), CRL X s p i l1 c1 → CRL X s p (i + l1.length) l2 c2 → CRL X s p i (l1 ++ l2) (c1 ++ c2)
  | [], l2, i, c1, c2, h1, h2 => by simp only [CRL] at h1; subst h1; simpa using h2
  | t :: l1, l2, i, c1, c2, h1, h2 => by
    simp only [CRL] at h1
    have hl := CR_len _ _ _ _ _ h1.1
    simp only [List.length_take] at hl
    simp only [List.cons_append, CRL]
    rw [List.take_append_of_le_length (by omega), List.drop_append_of_le_length (by omega)]
    exact ⟨h1.1, CRL_append l1 l2 (i + 1) _ c2 h1.2 (by rw [show i + 1 + l1.length = i + (t :: l1).length by simp; omega]; exact h2)⟩

theorem CRL_pureI {X X' : Cx} {s s' : Nat} (hsz : X'.sz = X.sz) (hF : ∀ b, X.F b → X'.F b ∧ X'.w.heap[b]? = X.w.heap[b]?) : ∀ (l : List T) (p p' : List Nat) (i i' : Nat) (cs : List Value), T.pureL l = true → CRL X s p i l cs → CRL X' s' p' i' l cs
  | [], _, _, _, _, _, _, h => by simpa only [CRL] using h
  | t :: l, p, p', i, i', cs, c, h => by
    simp only [CRL] at h ⊢
    simp only [T.pureL, Bool.and_eq_true] at c
    exact ⟨CR_pure X X' s s' hsz hF t _ _ _ c.1 h.1, CRL_pureI hsz hF l p p' (i + 1) (i' + 1) _ c.2 h.2⟩

theorem CRL_carryF {X X' : Cx} {s s' : Nat} (hsz : X'.sz = X.sz) (hF : ∀ b, X.F b → X'.F b ∧ X'.w.heap[b]? = X.w.heap[b]?)
    (hk : ∀ b j r v, X.kap b = some (s, j :: r, v) → X'.kap b = some (s', j :: r, v) ∧ X'.w.heap[b]? = X.w.heap[b]?) : ∀ (l : List T) (i : Nat) (cs : List Value), T.refFreeL l = true → CRL X s [] i l cs → CRL X' s' [] i l cs
  | [], _, _, _, h => by simpa only [CRL] using h
  | t :: l, i, cs, c, h => by
    simp only [CRL] at h ⊢
    simp only [T.refFreeL, Bool.and_eq_true] at c
    exact ⟨CR_carryF hsz hF (fun b q v hb => hk b i q v hb) c.1 h.1, CRL_carryF hsz hF hk l (i + 1) _ c.2 h.2⟩

section
variable {C : Ctx} {env : Env} {V : Nat → Value} {w : World} {κ : Kap} {a : Act} {AF : FuncId → List T → T → Prop} {U : List (Nat × Slot)} {R : List Nat} {n : Nat}
variable {tt : Tt} {P : Program}

/-- What a slice's elements are in memory. -/
theorem elemsE_sat (hI : Inv C env V w κ) {e : TypeId} {v : T} {u : Value} (hv : HV (cx C env w κ) v u) {c : List T → Rd} (h : (elemsE e v c).sat AF env U R) :
    ∃ l R' ad cap, u = .slice ad l.length cap ∧ (c l).sat AF env U R' ∧ (∀ t ∈ l, t.size = C.P.cellsOf e) ∧
      (l ≠ [] → ∃ b off s p cs, ad = some ⟨b, off, none⟩ ∧ cs.length = l.length * C.P.cellsOf e ∧ (∀ j x, cs[j]? = some x → w.cell? ⟨b, off + j, none⟩ = some x) ∧ CRL (cx C env w κ) s p 0 l cs) := by
  cases v <;> try (simp [elemsE, Rd.sat] at h; done)
  case nil =>
    obtain ⟨s0, cs, e1, e2⟩ := hv.cells
    simp only [CR] at e2
    subst e2
    exact ⟨[], R, none, 0, by simpa [mkv] using e1, h, by simp, fun h => absurd rfl h⟩
  case sl o e' l =>
    cases o with
    | true => simp [elemsE, Rd.sat] at h
    | false =>
      simp only [elemsE] at h
      split at h
      · rename_i he
        subst he
        obtain ⟨s0, cs, e1, e2⟩ := hv.cells
        simp only [CR] at e2
        obtain ⟨ad, cap, rfl, g1, g2, g3, g4, g5⟩ := e2
        refine ⟨l, R, ad, cap, by simpa [mkv] using e1, h, g3, fun hl => ?_⟩
        obtain ⟨b, off, rfl, hFb, cur, e'', fz, hb, hle, hC⟩ := g5 hl
        refine ⟨b, off, s0, [], _, rfl, by have := CRL_len _ _ _ _ _ _ hC; rw [this, sizeL_of_all g3]; rfl, fun j x hj => ?_, hC⟩
        rw [cell_of_row w b (off + j) cur e'' fz hb]
        rw [List.getElem?_take] at hj
        split at hj
        · rw [List.getElem?_drop] at hj; simpa using hj
        · cases hj
      · simp [Rd.sat] at h
  case ref s k p =>
    simp only [elemsE] at h
    obtain ⟨T0, nd, R', hs, hg, hnn, h1⟩ := rdn_sat h
    cases nd <;> try (simp [T.isNode] at hnn; done)
    case box => simp [Rd.sat] at h1
    case sl o' e' l =>
      cases o' with
      | false => simp [T.isNode] at hnn
      | true =>
        simp only at h1
        split at h1
        · rename_i he
          subst he
          obtain ⟨s0, hc⟩ := hv.ref_cells
          obtain ⟨b, cap, cur, e1, e2, e3, e4⟩ := hI.ref_eq hs hg hnn hc
          simp only [headOf, List.cons.injEq, and_true] at e1
          simp only [CR] at e2
          obtain ⟨b2, cap2, cur2, q1, q2, q3, q4, q5, q6, q7, q8⟩ := e2
          rw [e1] at q1
          simp at q1
          obtain ⟨rfl, rfl⟩ := q1
          refine ⟨l, R', _, cap, e1, h1, q7, fun hl => ⟨b, 0, s, p, _, rfl, by have := CRL_len _ _ _ _ _ _ q8; rw [this, sizeL_of_all q7]; rfl, fun j x hj => ?_, q8⟩⟩
          rw [Nat.zero_add, cell_of_row w b j cur2 e' (0, 0) q2]
          rw [List.getElem?_take] at hj
          split at hj
          · simpa using hj
          · cases hj
        · simp [Rd.sat] at h1

/-- The run of an append of nothing. -/
theorem run_append_none (hP : TtOk P tt) {t e : TypeId} {sz by_ : Nat} {z : T} (hit : tyAt tt t = some ⟨sz, by_, z, .slice e⟩) {ie : Ty} (hie : tyAt tt e = some ie) (ty : TypeId) (base ad : Option Addr) (len cap cap2 : Nat) (hle : len ≤ cap) :
    (Builtin.append_ #[t, t] ty #[.slice base len cap, .slice ad 0 cap2]).run P w = .ok (.slice base len cap) w := by
  have hu := under_slice hP hit
  simp only [Builtin.append_, List.getElem?_toArray, List.getElem?_cons_zero, List.getElem?_cons_succ, Sem.run_bind, run_underlying hu, Result.andThen_ok, run_sizeOf hP hie, Sem.run_pure, Builtin.lenOf]
  cases ad with
  | none =>
    cases base with
    | none => simp [Builtin.firstCells, hle]
    | some b => simp [Builtin.firstCells, storeCells, hle]
  | some ad =>
    cases base with
    | none => simp [Builtin.firstCells, loadCells, loadCellsFrom, hle]
    | some b => simp [Builtin.firstCells, loadCells, loadCellsFrom, storeCells, hle]

theorem op_append (hP : TtOk C.P tt) (hF : FR C n env a w) (hn1 : n ≤ 1000000) {t e : TypeId} {sz by_ : Nat} {z : T} (hit : tyAt tt t = some ⟨sz, by_, z, .slice e⟩) {ie : Ty} (hie : tyAt tt e = some ie) {x y : Operand} {i : Nat} {o : Oper}
    (ho : o.op = .call { callee := .builtin .append, args := #[x, y], argTypes := #[t, t] }) (hok : opOk n o = true)
    (h : (rdv x fun v => rdv y fun u => appendBase e (virt i) v fun l ups => elemsE e u fun l2 =>
          .need (0 < ie.size ∧ l.length + l2.length ≤ 1099511627776 ∧ (l.length + l2.length) * ie.bytes ≤ 140737488355328) <|
          (if T.pureL l2 && T.refFreeL l2 && l2.all T.plain then
            match ups with
            | [] => if l2.isEmpty then fin o.dst .nil else finOwn o.dst (.sl true e l2) []
            | _ => .rd (virt i) fun sv => finOwn o.dst (.sl true e (l ++ l2)) ((virt i, ⟨verOf sv + 1, .val .any⟩) :: ups)
          else .fail)).sat AF env U R) {Q : Exit → Act → World → Prop} :
    o.wp C.P a w (fun a' w' => FR C n (U ++ env) a' w') Q := by
  obtain ⟨hd, hn, κ, V, hI, hV⟩ := hF
  obtain ⟨v, R', h1, hv⟩ := rdv_sat hI hV (opnd_ok hok (by simp [ho, Op.operands, Call.operands])) h
  obtain ⟨u, R'', h2, hu⟩ := rdv_sat hI hV (opnd_ok hok (by simp [ho, Op.operands, Call.operands])) h1
  obtain ⟨ti, i1, i2, i3, i4⟩ := info_of hP hie
  have hsz : C.P.cellsOf e = ie.size := sz_of hP hie
  have hexec : ∀ (r : Value) (w' : World), (Builtin.append_ #[t, t] o.type #[a.eval x, a.eval y]).run C.P w = .ok r w' → (execOp a.eval o).run C.P w = .ok (.value r) w' := fun r w' hr => by
    simp [execOp, ho, Go.resolve, invoke, builtin, hr]
  have hzc := plain_facts ie.zero (hP e ie hie).2.1
  have hzsz : (mkv ie.zero ie.zero.zc).cells.size = ie.size := by
    rw [mkv_cells hzc.2.2.2 (oneCell_of_solid (X := cx C env w κ) (s := 0) ie.zero [] _ hzc.2.2.1 hzc.2.1 (CR_zc _ _ _ _ (hP e ie hie).2.1))]
    simpa [hzc.2.2.2] using (hP e ie hie).2.2.1
  cases v <;> try (simp [appendBase, Rd.sat] at h2; done)
  case nil =>
    simp only [appendBase] at h2
    obtain ⟨l2, R3, ad, cap, hy, h3, hall, hcells⟩ := elemsE_sat hI hu h2
    simp only [Rd.sat] at h3
    obtain ⟨⟨c1, c2, c3⟩, h4⟩ := h3
    obtain ⟨s0, cs, e1, e2⟩ := hv.cells
    simp only [CR] at e2
    subst e2
    simp only [mkv, List.headD] at e1
    split at h4
    · rename_i hpl
      simp only [Bool.and_eq_true] at hpl
      split at h4
      · rename_i hemp
        have : l2 = [] := by simpa using hemp
        subst this
        simp only [List.length_nil] at hy
        refine wp_value (hexec (.slice none 0 0) w ?_) (fin_FR hd hn hI hV (dst_lt hok) (HV.mk_nil _) h4)
        rw [e1, hy]
        exact run_append_none hP hit hie _ none ad 0 0 cap (Nat.le_refl _)
      · rename_i hemp
        have hne : l2 ≠ [] := by simpa using hemp
        obtain ⟨d, hdst, rfl⟩ := finOwn_sat h4
        obtain ⟨b, off, s, p, cs, rfl, hcl, hcc, hC⟩ := hcells hne
        simp only [List.length_nil, Nat.zero_add] at c2 c3
        have h1c := oneCellL_of_solid l2 p 0 cs (by
          have : ∀ (l : List T), l.all T.plain = true → T.solidL l = true := by
            intro l; induction l with
            | nil => simp [T.solidL]
            | cons t l ih => intro h; simp only [List.all_cons, Bool.and_eq_true] at h; simp [T.solidL, (plain_facts t h.1).2.2.1, ih h.2]
          exact this l2 hpl.2) hpl.1.2 hC
        obtain ⟨v', w', hr, hown, hgrow, hnil⟩ := run_append_own (P := C.P) w 0 t o.type e ti (mkv ie.zero ie.zero.zc) ie.size ie.bytes (under_slice hP hit) i1 i2 i3 i4 hzsz c1
          (.slice none 0 0) 0 [] (World.ownsRow_nil w 0 e ie.size) ⟨b, off, none⟩ l2.length cap cs (by rw [hcl, hsz]) (fun j x hj => by rw [addr_add]; exact hcc j x hj) h1c (by unfold maxLen; omega) (by simpa using c3) (Nat.zero_le _)
        simp only [Nat.zero_add, List.nil_append] at hown
        refine wp_value (hexec v' w' (by rw [e1, hy]; exact hr)) ?_
        obtain ⟨hxl, hrow⟩ := hown
        rcases hrow with ⟨hv0, hl0⟩ | ⟨g, cap', cur, rfl, _, hg, hcap, hmax, hcsz, htake⟩
        · exact absurd (List.eq_nil_of_length_eq_zero hl0) hne
        · -- a new block
          have hgs : w.heap.size ≤ g := by
            rcases Nat.lt_or_ge g w.heap.size with hlt | hge
            · exfalso
              have hrr := hr
              have hnew := run_append_nil (P := C.P) w t o.type e ti (mkv ie.zero ie.zero.zc) (under_slice hP hit) i1 i2 ⟨b, off, none⟩ l2.length cap cs (by rw [hcl, hsz, i3]) (fun j x hj => by rw [addr_add]; exact hcc j x hj)
                (by have := List.length_pos_iff.2 hne; omega) (by omega) (by rw [i4]; omega)
              rw [hnew] at hrr
              simp only [Result.ok.injEq, Value.slice.injEq, Option.some.injEq, Addr.mk.injEq] at hrr
              omega
            · exact hge
          have hglt : g < w'.heap.size := (Array.getElem?_eq_some_iff.1 hg).1
          rw [hdst]
          have hdn := dst_lt hok d hdst
          obtain ⟨κ', hI', _⟩ := hI.fresh [] d (.sl true e l2) [.slice (some ⟨g, 0, none⟩) l2.length cap'] w' (fun b => if b = g then some ([], .slice (some ⟨g, 0, none⟩) l2.length cap') else none)
            hgrow.os hgrow.tape hgrow.output hgrow.size (fun b hb => hgrow.block b (Nat.lt_of_lt_of_le hb.1 hI.size) (by simp [Value.ownBlock])) (fun b s p v hk _ _ => hgrow.block b (hI.col b s p v hk).1 (by simp [Value.ownBlock]))
            (fun b p v hb => by
              split at hb
              · rename_i e; subst e
                refine ⟨hglt, fun hF => by have := hF.1; have := hI.size; omega, fun s p v hk => by have := (hI.col _ _ _ _ hk).1; omega⟩
              · cases hb)
            (fun b b' p v v' hb hb' => by
              split at hb
              · split at hb'
                · rename_i e e'; rw [e, e']
                · cases hb'
              · cases hb) (by simpa [T.refFree] using hpl.1.2)
            (fun X' f1 f2 f3 f4 => by
              simp only [CR]
              refine ⟨g, cap', cur, rfl, by rw [f2]; exact hg, f4 g [] _ (by simp), hcap, hmax, by rw [f1, hsz]; exact hcsz, fun t ht => by rw [f1]; exact hall t ht, ?_⟩
              rw [f1, hsz, htake]
              exact CRL_pure (cx C env w κ) X' s d f1 (fun b hb => ⟨by rw [f3]; exact hb, by rw [f2]; exact hgrow.block b (Nat.lt_of_lt_of_le hb.1 hI.size) (by simp [Value.ownBlock])⟩) l2 p [] 0 cs hpl.1.1 hC)
          refine own_FR (v := .slice (some ⟨g, 0, none⟩) l2.length cap') hd hn hdn (by simpa [kill] using hI') (fun t ht => ?_)
          by_cases e : t = d
          · simp [e, upd, mkv]
          · rw [upd_other _ _ _ _ e, if_neg e]; exact hV t ht
    · simp [Rd.sat] at h4
  case ref s k p =>
    simp only [appendBase] at h2
    split at h2
    · simp [Rd.sat] at h2
    · rename_i hsv
      obtain ⟨T0, nd, R3, hs, hg, hnd, h3⟩ := rdn_sat h2
      cases nd <;> try (simp [T.isNode] at hnd; done)
      case box => simp [Rd.sat] at h3
      case sl oo e' l =>
        cases oo with
        | false => simp [T.isNode] at hnd
        | true =>
          simp only at h3
          split at h3
          · rename_i he
            subst he
            obtain ⟨l2, R4, ad, cap, hy, h4, hall, hcells⟩ := elemsE_sat hI hu h3
            simp only [Rd.sat] at h4
            obtain ⟨⟨c1, c2, c3⟩, h5⟩ := h4
            split at h5
            · rename_i hpl
              simp only [Bool.and_eq_true] at hpl
              simp only [Rd.sat] at h5
              obtain ⟨R5, h6, _⟩ := h5
              obtain ⟨d, hdst, rfl⟩ := finOwn_sat h6
              have hdn := dst_lt hok d hdst
              -- the base, taken out
              have hr0 := refFree_get p T0 _ hg (hI.own s k T0 hs).1
              obtain ⟨s0, hc⟩ := hv.ref_cells
              obtain ⟨b, cap1, cur, q1, q2, q3, q4⟩ := hI.ref_eq hs hg hnd hc
              simp at q1
              obtain ⟨κ1, hI1, hkeep⟩ := hI.moveNode hs hg hnd (d := virt i) (fun e => hsv e.symm) (.sl true e' l) [] [a.eval x] hr0 (fun b' cap' X' f1 f2 f3 f4 f5 => by
                have hb := hI.inj b' b s p _ _ f1 q4
                subst hb
                have : headOf (.sl true e' l) b' cap' = headOf (.sl true e' l) b' cap1 := by rw [f1] at q4; simpa using q4
                rw [this, ← q1] at f5
                exact f5)
              have hm : mkv (.sl true e' l) [a.eval x] = a.eval x := rfl
              rw [hm] at hI1
              obtain ⟨_, csb, m1, m2⟩ := hI1.own (virt i) _ _ (lk_same _ _ _)
              rw [upd_same] at m1
              simp only [CR] at m2
              obtain ⟨bb, capb, curb, rfl, n2, n3, n4, n5, n6, n7, n8⟩ := m2
              simp only [mkv, List.headD] at m1
              have hXsz : (cx C ((virt i, (⟨verOf (lk env (virt i)) + 1, .own (.sl true e' l)⟩ : Slot)) :: (s, ⟨k, .own (T.set .any p T0)⟩) :: env) w κ1).sz e' = ie.size := hsz
              rw [hXsz] at n6 n8 n7
              have hown0 : w.ownsRow 0 e' ie.size (a.eval x) l.length (curb.toList.take (l.length * ie.size)) := by
                refine ⟨?_, .inr ⟨bb, capb, curb, m1, Nat.zero_le _, n2, n4, n5, n6, rfl⟩⟩
                have := CRL_len _ _ _ _ _ _ n8
                rw [this, sizeL_of_all n7]
              have hbbF : ¬ C.F bb := (hI1.col bb _ _ _ n3).2
              -- whatever is appended: the run, and what the result owns
              have hrun : ∃ v' w' news, (Builtin.append_ #[t, t] o.type #[a.eval x, a.eval y]).run C.P w = .ok v' w' ∧ w'.ownsRow 0 e' ie.size v' (l.length + l2.length) (curb.toList.take (l.length * ie.size) ++ news) ∧
                  w.grownBy w' (some bb) ∧ (∃ s p, CRL (cx C env w κ) s p 0 l2 news) ∧ (∀ g a2 c2, v' = .slice (some ⟨g, 0, none⟩) a2 c2 → g = bb ∨ w.heap.size ≤ g) := by
                by_cases hne : l2 = []
                · subst hne
                  simp only [List.length_nil] at hy
                  refine ⟨a.eval x, w, [], ?_, by simpa using hown0, ⟨rfl, rfl, rfl, Nat.le_refl _, fun _ _ _ => rfl⟩, ⟨0, [], by simp [CRL]⟩, fun g a2 c2 hh => ?_⟩
                  · rw [m1, hy]
                    exact run_append_none hP hit hie _ _ ad l.length capb cap n4
                  · rw [m1] at hh; simp at hh; exact .inl hh.1.symm
                · obtain ⟨b2, off2, s2, p2, cs2, rfl, hcl, hcc, hC⟩ := hcells hne
                  have h1c := oneCellL_of_solid l2 p2 0 cs2 (by
                    have : ∀ (l : List T), l.all T.plain = true → T.solidL l = true := by
                      intro l; induction l with
                      | nil => simp [T.solidL]
                      | cons t l ih => intro h; simp only [List.all_cons, Bool.and_eq_true] at h; simp [T.solidL, (plain_facts t h.1).2.2.1, ih h.2]
                    exact this l2 hpl.2) hpl.1.2 hC
                  obtain ⟨v', w', hr, hown, hgrow, hnil⟩ := run_append_own (P := C.P) w 0 t o.type e' ti (mkv ie.zero ie.zero.zc) ie.size ie.bytes (under_slice hP hit) i1 i2 i3 i4 hzsz c1
                    (a.eval x) l.length _ hown0 ⟨b2, off2, none⟩ l2.length cap cs2 (by rw [hcl, hsz]) (fun j x hj => by rw [addr_add]; exact hcc j x hj) h1c (by unfold maxLen; omega) c3 (Nat.zero_le _)
                  have hob : (a.eval x).ownBlock = some bb := by rw [m1]; rfl
                  rw [hob] at hgrow
                  refine ⟨v', w', cs2, by rw [hy]; exact hr, hown, hgrow, ⟨s2, p2, hC⟩, fun g a2 c2 hh => ?_⟩
                  subst hh
                  by_cases hroom : l.length + l2.length ≤ capb
                  · left
                    have hr2 := run_append_room (P := C.P) w t o.type e' ti (under_slice hP hit) i1 bb l.length capb curb n2 ⟨b2, off2, none⟩ l2.length cap cs2 (by rw [hcl, hsz, i3]) (fun j x hj => by rw [addr_add]; exact hcc j x hj) h1c hroom (by
                      rw [i3, hcl, hsz, n6, ← Nat.add_mul]; exact Nat.mul_le_mul_right _ hroom)
                    rw [← m1] at hr2
                    rw [hr2] at hr
                    simp at hr
                    exact hr.1.1.symm
                  · right
                    have hr2 := run_append_grow (P := C.P) w t o.type e' ti (mkv ie.zero ie.zero.zc) (under_slice hP hit) i1 i2 ⟨bb, 0, none⟩ l.length capb _ (by rw [i3]; exact hown0.1) (fun j x hj => by
                        rw [addr_add, Nat.zero_add, cell_of_row w bb j curb e' (0, 0) n2]
                        rw [List.getElem?_take] at hj
                        split at hj
                        · simpa using hj
                        · cases hj) ⟨b2, off2, none⟩ l2.length cap cs2 (by rw [hcl, hsz, i3]) (fun j x hj => by rw [addr_add]; exact hcc j x hj) (by omega) (by omega) (growslice_fits (by omega) (by rw [i4]; exact c3))
                    rw [← m1] at hr2
                    rw [hr2] at hr
                    simp at hr
                    omega
              obtain ⟨v', w', news, hr, hown, hgrow, ⟨s2, p2, hC2⟩, hwhere⟩ := hrun
              refine wp_value (hexec v' w' hr) ?_
              rw [hdst]
              obtain ⟨hxl, hrow⟩ := hown
              rcases hrow with ⟨hv0, hl0⟩ | ⟨g, cap', curg, rfl, _, hgg, hcap, hmax, hcsz, htake⟩
              · -- nothing at all: only the base's own head could read so
                exfalso
                subst hv0
                have hl00 : l = [] ∧ l2 = [] := by
                  constructor
                  · exact List.eq_nil_of_length_eq_zero (by omega)
                  · exact List.eq_nil_of_length_eq_zero (by omega)
                obtain ⟨rfl, rfl⟩ := hl00
                simp only [List.length_nil] at hy
                have hr2 := run_append_none (w := w) hP hit hie o.type (some ⟨bb, 0, none⟩) ad 0 capb cap (Nat.zero_le _)
                rw [hy, m1] at hr
                simp only [List.length_nil] at hr
                rw [hr2] at hr
                simp at hr
              · have hgw := hwhere g _ _ rfl
                have hglt : g < w'.heap.size := (Array.getElem?_eq_some_iff.1 hgg).1
                have hdv : d ≠ virt i := fun e => by have h1 : d < n := hdn; rw [e] at h1; simp [virt] at h1; omega
                have hsame : ∀ b, b < w.heap.size → b ≠ bb → w'.heap[b]? = w.heap[b]? := fun b hb hne => hgrow.block b hb (by simpa using hne)
                obtain ⟨κ', hI', _⟩ := hI1.fresh [virt i] d (.sl true e' (l ++ l2)) [.slice (some ⟨g, 0, none⟩) (l.length + l2.length) cap'] w'
                  (fun b => if b = g then some ([], .slice (some ⟨g, 0, none⟩) (l.length + l2.length) cap') else match κ1 b with | some (u, j :: r, v) => if u = virt i then some (j :: r, v) else none | _ => none)
                  hgrow.os hgrow.tape hgrow.output hgrow.size (fun b hb => hsame b (Nat.lt_of_lt_of_le hb.1 hI.size) (fun e => hbbF (e ▸ hb)))
                  (fun b s p v hk hsn _ => hsame b (hI1.col b s p v hk).1 (fun e => by subst e; rw [show (cx C _ w κ1).kap b = κ1 b from rfl] at n3; rw [hk] at n3; simp at n3; exact hsn (by simp [n3.1])))
                  (fun b p v hb => by
                    split at hb
                    · rename_i e; subst e
                      rcases hgw with rfl | hge
                      · exact ⟨hglt, hbbF, fun s p v hk => by rw [show κ1 b = some (virt i, [], _) from n3] at hk; simp at hk; exact .inl (by simp [hk.1])⟩
                      · exact ⟨hglt, fun hF => by have := hF.1; have := hI.size; omega, fun s p v hk => by have := (hI1.col _ _ _ _ hk).1; omega⟩
                    · cases hk : κ1 b with
                      | none => simp [hk] at hb
                      | some y =>
                        obtain ⟨u', r, v1⟩ := y
                        cases r with
                        | nil => simp [hk] at hb
                        | cons j r =>
                          simp only [hk] at hb
                          split at hb
                          · rename_i e
                            have hcl := hI1.col b _ _ _ hk
                            refine ⟨Nat.lt_of_lt_of_le hcl.1 hgrow.size, hcl.2, fun s p v hk' => ?_⟩
                            simp only [Option.some.injEq, Prod.mk.injEq] at hk'
                            exact .inl (by simp [← hk'.1, e])
                          · cases hb)
                  (fun b b' p v v' hb hb' => by
                    split at hb
                    · split at hb'
                      · rename_i e e'; rw [e, e']
                      · simp at hb
                        cases hk : κ1 b' with
                        | none => simp [hk] at hb'
                        | some y =>
                          obtain ⟨u', r, v1⟩ := y
                          cases r with
                          | nil => simp [hk] at hb'
                          | cons j r =>
                            simp only [hk] at hb'
                            split at hb'
                            · simp at hb'; rw [hb.1] at hb'; simp at hb'
                            · cases hb'
                    · cases hk : κ1 b with
                      | none => simp [hk] at hb
                      | some y =>
                        obtain ⟨u', r, v1⟩ := y
                        cases r with
                        | nil => simp [hk] at hb
                        | cons j r =>
                          simp only [hk] at hb
                          split at hb
                          · split at hb'
                            · simp at hb hb'; rw [hb'.1] at hb; simp at hb
                            · cases hk' : κ1 b' with
                              | none => simp [hk'] at hb'
                              | some y' =>
                                obtain ⟨u'', r', v1'⟩ := y'
                                cases r' with
                                | nil => simp [hk'] at hb'
                                | cons j' r' =>
                                  simp only [hk'] at hb'
                                  split at hb'
                                  · rename_i e1 _ e2
                                    simp only [Option.some.injEq, Prod.mk.injEq] at hb hb'
                                    have e3 := hb.1.trans hb'.1.symm
                                    subst e1; subst e2
                                    rw [e3] at hk
                                    exact hI1.inj b b' _ _ _ _ hk hk'
                                  · cases hb'
                          · cases hb)
                  (by
                    simp only [T.refFree] at hr0 ⊢
                    rw [refFreeL_iff] at hr0 ⊢
                    intro t ht
                    rcases List.mem_append.1 ht with ht | ht
                    · exact hr0 t ht
                    · exact (refFreeL_iff l2).1 hpl.1.2 t ht)
                  (fun X' f1 f2 f3 f4 => by
                    simp only [CR, List.length_append]
                    refine ⟨g, cap', curg, rfl, by rw [f2]; exact hgg, f4 g [] _ (by simp), hcap, hmax, by rw [f1, hsz]; exact hcsz, fun t ht => ?_, ?_⟩
                    · rw [f1, hsz]
                      rcases List.mem_append.1 ht with ht | ht
                      · exact n7 t ht
                      · rw [hall t ht, hsz]
                    · rw [f1, hsz, htake]
                      have hFr : ∀ b, C.F b → X'.F b ∧ X'.w.heap[b]? = w.heap[b]? := fun b hb => ⟨by rw [f3]; exact hb, by rw [f2]; exact hsame b (Nat.lt_of_lt_of_le hb.1 hI.size) (fun e => hbbF (e ▸ hb))⟩
                      refine CRL_append l l2 0 _ _ ?_ (CRL_pureI (X := cx C env w κ) f1 hFr l2 p2 [] 0 _ news hpl.1.1 hC2)
                      have hagg := CRL_carryF (X := cx C ((virt i, (⟨verOf (lk env (virt i)) + 1, .own (.sl true e' l)⟩ : Slot)) :: (s, ⟨k, .own (T.set .any p T0)⟩) :: env) w κ1) (X' := X') (s := virt i) (s' := d) f1 hFr (fun b j r v hk => by
                          have hk' : κ1 b = some (virt i, j :: r, v) := hk
                          have hlt := (hI1.col b _ _ _ hk').1
                          have hbne : b ≠ bb := fun e => by subst e; rw [show κ1 b = some (virt i, [], _) from n3] at hk'; simp at hk'
                          have hbg : b ≠ g := fun e => by
                            rcases hgw with e2 | hge
                            · exact hbne (e.trans e2)
                            · omega
                          exact ⟨f4 b (j :: r) v (by rw [if_neg hbg]; simp [hk']), by rw [f2]; exact hsame b hlt hbne⟩) l 0 _ (by simpa [T.refFree] using hr0) n8
                      exact hagg)
                refine (own_FR (v := .slice (some ⟨g, 0, none⟩) (l.length + l2.length) cap') hd hn hdn hI' (fun t ht => ?_)).congr (fun t => ?_)
                · by_cases e : t = d
                  · simp [e, upd, mkv]
                  · rw [upd_other _ _ _ _ e, if_neg e, upd_other _ _ _ _ (by simp [virt]; omega)]; exact hV t ht
                · have hvd : verOf (lk ((virt i, (⟨verOf (lk env (virt i)) + 1, .own (.sl true e' l)⟩ : Slot)) :: (s, ⟨k, .own (T.set .any p T0)⟩) :: env) d) = verOf (lk env d) := by
                    rw [lk_other _ _ _ _ hdv]
                    by_cases e : d = s
                    · subst e; rw [lk_same, hs]; rfl
                    · rw [lk_other _ _ _ _ e]
                  rw [hvd]
                  simp only [kill, List.map_cons, List.map_nil, List.cons_append, List.nil_append, lk, if_true, verOf]
                  by_cases e1 : d = t
                  · simp [e1]
                  · simp only [e1, if_false]
                    by_cases e2 : virt i = t
                    · simp [e2]
                    · simp [e2]
            · simp [Rd.sat] at h5
          · simp [Rd.sat] at h3

end

end Go.Proofs.Ytjkhggbjkkobaaa
