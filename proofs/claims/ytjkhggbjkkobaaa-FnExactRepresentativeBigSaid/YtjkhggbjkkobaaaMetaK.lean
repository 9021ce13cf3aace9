/-
  The generic part, eleventh text: the operations that only read.
-/
import Derived.Test.YtjkhggbjkkobaaaMetaJ
namespace Go.Proofs.Ytjkhggbjkkobaaa
open Go.RowKit

mutual
theorem pure_noOwn : ∀ (t : T), t.pure = true → t.noOwn = true
  | .int .., _ => rfl
  | .bool .., _ => rfl
  | .str .., _ => rfl
  | .any, _ => rfl
  | .nil, _ => rfl
  | .sl true _ _, h => by simp [T.pure] at h
  | .sl false _ _, _ => rfl
  | .box .., h => by simp [T.pure] at h
  | .fptr _, _ => rfl
  | .agg l, h => by simpa [T.noOwn] using pureL_noOwn l (by simpa [T.pure] using h)
  | .tup l, h => by simpa [T.noOwn] using pureL_noOwn l (by simpa [T.pure] using h)
  | .fn _ l, h => by simpa [T.noOwn] using pureL_noOwn l (by simpa [T.pure] using h)
  | .ref .., h => by simp [T.pure] at h
  | .addr .., h => by simp [T.pure] at h
theorem pureL_noOwn : ∀ (l : List T), T.pureL l = true → T.noOwnL l = true
  | [], _ => rfl
  | t :: l, h => by
    simp only [T.pureL, Bool.and_eq_true] at h
    simp [T.noOwnL, pure_noOwn t h.1, pureL_noOwn l h.2]
end

section
variable {C : Ctx} {env : Env} {V : Nat → Value} {w : World} {κ : Kap} {a : Act} {AF : FuncId → List T → T → Prop} {U : List (Nat × Slot)} {R : List Nat} {n : Nat}
variable {tt : Tt} {P : Program}

theorem addr_add (b off j : Nat) : (⟨b, off, none⟩ : Addr).add j = ⟨b, off + j, none⟩ := by
  unfold Addr.add; split <;> simp_all

theorem under_struct (hP : TtOk P tt) {t : TypeId} {sz by_ : Nat} {z : T} {fs : List (TypeId × Nat × Nat)} (h : tyAt tt t = some ⟨sz, by_, z, .struct fs⟩) :
    ∃ fields, P.underlying t = some (.struct fields) ∧ fields.toList.map (fun f => (f.type, f.offset, P.cellsOf f.type)) = fs ∧ z.isAgg = true := by
  obtain ⟨_, _, _, h1, h2⟩ := hP t _ h
  cases hu : P.underlying t with
  | none => simp [hu] at h1
  | some d =>
    cases d with
    | struct fields => simp [hu] at h1; exact ⟨fields, rfl, h1, h2⟩
    | _ => simp [hu] at h1

theorem run_isAgg (hP : TtOk P tt) {t : TypeId} {i : Ty} (h : tyAt tt t = some i) (w : World) : (isAgg t).run P w = .ok i.zero.isAgg w := by
  obtain ⟨_, _, _, h1⟩ := hP t i h
  obtain ⟨sz, by_, z, k⟩ := i
  cases k with
  | plain =>
    obtain ⟨h1, h2⟩ := h1
    cases hu : P.underlying t with
    | none => simp [hu] at h1
    | some d =>
      simp only [h2]
      simp only [isAgg, Sem.run_bind, run_underlying hu, Result.andThen_ok]
      cases d <;> simp [hu] at h1 <;> rfl
  | bool =>
    obtain ⟨h1, h2⟩ := h1
    simp only [h2]
    simp only [isAgg, Sem.run_bind, run_underlying h1, Result.andThen_ok]
    rfl
  | int k =>
    obtain ⟨h1, h2⟩ := h1
    simp only [h2]
    simp only [isAgg, Sem.run_bind, run_underlying h1, Result.andThen_ok]
    rfl
  | slice e =>
    obtain ⟨h1, h2⟩ := h1
    simp only [h2]
    simp only [isAgg, Sem.run_bind, run_underlying h1, Result.andThen_ok]
    rfl
  | struct fs =>
    obtain ⟨fields, hu, _, h2⟩ := under_struct hP h
    simp only [h2]
    simp only [isAgg, Sem.run_bind, run_underlying hu, Result.andThen_ok]
    rfl

theorem run_sizeOf (hP : TtOk P tt) {t : TypeId} {i : Ty} (h : tyAt tt t = some i) (w : World) : (sizeOf t).run P w = .ok i.size w := by
  obtain ⟨ti, h1, _, h3, _⟩ := info_of hP h
  simp [sizeOf, typeInfo, h1, h3]

theorem size_of_not_agg {t : T} (h : t.isAgg = false) : t.size = 1 := by cases t <;> simp_all [T.isAgg, T.size]

theorem run_loadAt (hP : TtOk P tt) {t : TypeId} {it : Ty} (ht : tyAt tt t = some it) {b off : Nat} {cur : Array Value} {e : TypeId} {fz : Nat × Nat} (hb : w.heap[b]? = some (.cells cur e fz))
    (t0 : T) (hs : t0.size = it.size) (ha : t0.isAgg = it.zero.isAgg) (hle : off + t0.size ≤ cur.size) :
    (Instr.loadAt t (.pointer (some ⟨b, off, none⟩))).run P w = .ok (mkv t0 ((cur.toList.drop off).take t0.size)) w := by
  have hcell : ∀ j, w.cell? ⟨b, off + j, none⟩ = cur[off + j]? := fun j => cell_of_row w b (off + j) cur e fz hb
  simp only [Instr.loadAt, Instr.sureAddr, Sem.run_bind, Sem.run_pure, Result.andThen_ok, loadVar, run_isAgg hP ht]
  cases hag : it.zero.isAgg with
  | false =>
    rw [hag] at ha
    have h1 := size_of_not_agg ha
    have h0 := hcell 0
    simp only [Nat.add_zero] at h0
    rw [h1] at hle
    have hlt : off < cur.size := by omega
    simp only [Bool.false_eq_true, if_false]
    have hm : mkv t0 ((cur.toList.drop off).take t0.size) = cur[off] := by
      rw [h1]
      have : (cur.toList.drop off).take 1 = [cur[off]] := by
        rw [List.drop_eq_getElem_cons (by simpa using hlt)]; simp
      rw [this]
      cases t0 <;> simp_all [mkv, T.isAgg]
    rw [hm]
    have hc : w.cell? ⟨b, off, none⟩ = some cur[off] := by rw [h0]; simp [hlt]
    simp [hc]
  | true =>
    rw [hag] at ha
    simp only [if_true, Sem.run_bind, run_sizeOf hP ht, Result.andThen_ok]
    have hl := run_loadCells_list (P := P) w ⟨b, off, none⟩ ((cur.toList.drop off).take t0.size) (fun j v hj => by
      rw [addr_add, hcell j]
      rw [List.getElem?_take] at hj
      split at hj
      · rw [List.getElem?_drop] at hj; simpa using hj
      · cases hj)
    have hlen : ((cur.toList.drop off).take t0.size).length = it.size := by simp; omega
    rw [hlen] at hl
    rw [hl]
    simp only [Result.andThen_ok, Sem.run_pure]
    cases t0 <;> simp_all [mkv, T.isAgg]

theorem op_move (hF : FR C n env a w) {x : Operand} {o : Oper} (ho : o.op = .move x) (hok : opOk n o = true) (h : (rdv x (fin o.dst)).sat AF env U R) {Q : Exit → Act → World → Prop} :
    o.wp C.P a w (fun a' w' => FR C n (U ++ env) a' w') Q := by
  obtain ⟨hd, hn, κ, V, hI, hV⟩ := hF
  simp only [opOk, ho, Op.operands, Bool.and_eq_true] at hok
  obtain ⟨v, R', h1, hv⟩ := rdv_sat hI hV (by simpa using hok.2) h
  refine wp_value (v := a.eval x) (w' := w) ?_ (fin_FR hd hn hI hV (fun t ht => by have := hok.1; simp [ht] at this; exact this) hv h1)
  simp [execOp, ho]

theorem dst_lt {o : Oper} (hok : opOk n o = true) : ∀ t : Nat, o.dst = some t → t < n := fun t ht => by
  simp only [opOk, Bool.and_eq_true] at hok
  have := hok.1
  simp [ht] at this
  exact this

theorem opnd_ok {o : Oper} (hok : opOk n o = true) {x : Operand} (hx : x ∈ o.op.operands) : opndOk x = true := by
  simp only [opOk, Bool.and_eq_true, Array.all_eq_true_iff_forall_mem] at hok
  exact hok.2 x hx

theorem op_pick (hF : FR C n env a w) {x y z : Operand} {o : Oper} (ho : o.op = .pick x y z) (hok : opOk n o = true)
    (h : (rdv x fun | .bool t => if t then rdv y (fin o.dst) else rdv z (fin o.dst) | _ => .fail).sat AF env U R) {Q : Exit → Act → World → Prop} :
    o.wp C.P a w (fun a' w' => FR C n (U ++ env) a' w') Q := by
  obtain ⟨hd, hn, κ, V, hI, hV⟩ := hF
  obtain ⟨v, R', h1, hv⟩ := rdv_sat hI hV (opnd_ok hok (by simp [ho, Op.operands])) h
  cases v <;> try (simp [Rd.sat] at h1; done)
  rename_i t
  have hb := hv.bool
  cases t with
  | true =>
    simp only [if_true] at h1
    obtain ⟨u, R'', h2, hu⟩ := rdv_sat hI hV (opnd_ok hok (by simp [ho, Op.operands])) h1
    refine wp_value (v := a.eval y) (w' := w) ?_ (fin_FR hd hn hI hV (dst_lt hok) hu h2)
    simp [execOp, ho, hb, asBool]
  | false =>
    simp only [Bool.false_eq_true, if_false] at h1
    obtain ⟨u, R'', h2, hu⟩ := rdv_sat hI hV (opnd_ok hok (by simp [ho, Op.operands])) h1
    refine wp_value (v := a.eval z) (w' := w) ?_ (fin_FR hd hn hI hV (dst_lt hok) hu h2)
    simp [execOp, ho, hb, asBool]

theorem HV.addr_cells {X : Cx} {s k off : Nat} {p sub : List Nat} {v : Value} (h : HV X (.addr s k p off sub) v) : ∃ s0, CR X s0 [] (.addr s k p off sub) [v] := by
  obtain ⟨s0, cs, h1, h2⟩ := h.cells
  have := CR_len _ _ _ _ _ h2
  match cs, this with
  | [u], _ => simp [mkv] at h1; subst h1; exact ⟨s0, h2⟩

theorem HV.ref_cells {X : Cx} {s k : Nat} {p : List Nat} {v : Value} (h : HV X (.ref s k p) v) : ∃ s0, CR X s0 [] (.ref s k p) [v] := by
  obtain ⟨s0, cs, h1, h2⟩ := h.cells
  have := CR_len _ _ _ _ _ h2
  match cs, this with
  | [u], _ => simp [mkv] at h1; subst h1; exact ⟨s0, h2⟩

theorem op_load (hP : TtOk C.P tt) (hF : FR C n env a w) {t : TypeId} {it : Ty} (hit : tyAt tt t = some it) {x : Operand} {o : Oper} (ho : o.op = .load t x) (hok : opOk n o = true)
    (h : (rdv x fun
      | .addr s k p off sub => rdn s k p fun _ n => match n.part sub with
        | some t0 => .need (off = n.offN sub ∧ t0.size = it.size ∧ t0.isAgg = it.zero.isAgg) (fin o.dst (T.borrow s k (p ++ sub) t0))
        | none => .fail
      | .fptr t0 => .need (t0.size = it.size ∧ t0.isAgg = it.zero.isAgg) (fin o.dst t0)
      | _ => .fail).sat AF env U R) {Q : Exit → Act → World → Prop} :
    o.wp C.P a w (fun a' w' => FR C n (U ++ env) a' w') Q := by
  obtain ⟨hd, hn, κ, V, hI, hV⟩ := hF
  obtain ⟨v, R', h1, hv⟩ := rdv_sat hI hV (opnd_ok hok (by simp [ho, Op.operands])) h
  cases v <;> try (simp [Rd.sat] at h1; done)
  case addr s k p off sub =>
    obtain ⟨T0, nd, R'', hs, hg, hnn, h2⟩ := rdn_sat h1
    cases hp : nd.part sub with
    | none => simp [hp, Rd.sat] at h2
    | some t0 =>
      simp only [hp, Rd.sat] at h2
      obtain ⟨⟨ho1, ho2, ho3⟩, h3⟩ := h2
      obtain ⟨s0, hc⟩ := hv.addr_cells
      obtain ⟨b, cap, cur, e1, e2, e3, e4⟩ := hI.addr_eq hs hg hnn hc
      obtain ⟨b2, cap2, cur2, f1, f2, f3, f4, f5, _⟩ := node_part (X' := cx C env w κ) hnn hp e2
      have hb2 : b2 = b := hI.inj b2 b s p _ _ f3 e4
      subst hb2
      have hcur : cur2 = cur := by
        have : w.heap[b2]? = some (.cells cur2 nd.elem (0, 0)) := f2
        rw [e3] at this; simp at this; exact this.symm
      subst hcur
      subst ho1
      simp at e1
      refine wp_value (v := mkv t0 ((cur2.toList.drop (nd.offN sub)).take t0.size)) (w' := w) ?_
        (fin_FR hd hn hI hV (dst_lt hok) (HV.of_borrow ⟨_, hs, Nat.le_refl _⟩ f5) h3)
      simp [execOp, ho, e1, run_loadAt hP hit e3 t0 ho2 ho3 f4]
  case fptr t0 =>
    simp only [Rd.sat] at h1
    obtain ⟨⟨ho2, ho3⟩, h3⟩ := h1
    obtain ⟨s0, cs, e1, e2⟩ := hv.cells
    simp only [CR] at e2
    obtain ⟨b, off, cur, e, fz, rfl, hFb, hb, hle, hpure, hC⟩ := e2
    simp [mkv] at e1
    have hno : t0.noOwn = true := pure_noOwn t0 hpure
    refine wp_value (v := mkv t0 ((cur.toList.drop off).take t0.size)) (w' := w) ?_ (fin_FR hd hn hI hV (dst_lt hok) (HV.of_CR hno hC) h3)
    simp [execOp, ho, e1, run_loadAt (w := w) hP hit hb t0 ho2 ho3 hle]

theorem fields_at {fields : Array Field} {P : Program} {fs : List (TypeId × Nat × Nat)} {f : Nat} {x : TypeId × Nat × Nat} (h : fields.toList.map (fun f => (f.type, f.offset, P.cellsOf f.type)) = fs) (hf : fs[f]? = some x) :
    ∃ fd, fields[f]? = some fd ∧ fd.type = x.1 ∧ fd.offset = x.2.1 ∧ P.cellsOf fd.type = x.2.2 := by
  subst h
  rw [List.getElem?_map] at hf
  cases hx : fields.toList[f]? with
  | none => simp [hx] at hf
  | some fd =>
    simp [hx] at hf
    subst hf
    exact ⟨fd, by simpa using hx, rfl, rfl, rfl⟩

theorem run_sizeOf' {t : TypeId} (h : P.cellsOf t ≠ 0) (w : World) : (sizeOf t).run P w = .ok (P.cellsOf t) w := by
  unfold Program.cellsOf at h ⊢
  cases hi : P.info? t with
  | none => simp [hi] at h
  | some ti => simp [sizeOf, typeInfo, hi]

theorem op_fieldAddr (hP : TtOk C.P tt) (hF : FR C n env a w) {t : TypeId} {sz by_ : Nat} {z : T} {fs : List (TypeId × Nat × Nat)} (hit : tyAt tt t = some ⟨sz, by_, z, .struct fs⟩) {x : Operand} {f : Nat}
    {tf : TypeId} {offf szf : Nat} (hf : fs[f]? = some (tf, offf, szf)) {o : Oper} (ho : o.op = .fieldAddr t x f) (hok : opOk n o = true)
    (h : (Rd.need (szf ≠ 0) <| rdv x fun
        | .addr s k p off sub => rdn s k p fun _ _ => fin o.dst (.addr s k p (off + offf) (sub ++ [f]))
        | .fptr (.agg l) => match l[f]? with
          | some t0 => .need (T.sizeL (l.take f) = offf) (fin o.dst (.fptr t0))
          | none => .fail
        | _ => .fail).sat AF env U R) {Q : Exit → Act → World → Prop} :
    o.wp C.P a w (fun a' w' => FR C n (U ++ env) a' w') Q := by
  obtain ⟨hd, hn, κ, V, hI, hV⟩ := hF
  simp only [Rd.sat] at h
  obtain ⟨hsz, h⟩ := h
  obtain ⟨fields, hu, hfs, _⟩ := under_struct hP hit
  obtain ⟨fd, g1, g2, g3, g4⟩ := fields_at hfs hf
  have hrun : ∀ (b off : Nat), (Instr.fieldAt t (.pointer (some ⟨b, off, none⟩)) f).run C.P w = .ok (.pointer (some ⟨b, off + offf, none⟩)) w := fun b off => by
    have hs' : C.P.cellsOf fd.type ≠ 0 := by rw [g4]; exact hsz
    have hi0 : ¬ (C.P.cellsOf fd.type = 0) := hs'
    simp only [Instr.fieldAt, Sem.run_bind, run_underlying hu, Result.andThen_ok, g1, Instr.sureAddr, Sem.run_pure, fieldPlace, run_sizeOf' hs', hi0, if_false, addr_add, g3]
  obtain ⟨v, R', h1, hv⟩ := rdv_sat hI hV (opnd_ok hok (by simp [ho, Op.operands])) h
  cases v <;> try (simp [Rd.sat] at h1; done)
  case addr s k p off sub =>
    obtain ⟨T0, nd, R'', hs, hg, hnn, h2⟩ := rdn_sat h1
    obtain ⟨s0, hc⟩ := hv.addr_cells
    obtain ⟨b, cap, cur, e1, e2, e3, e4⟩ := hI.addr_eq hs hg hnn hc
    simp at e1
    refine wp_value (v := .pointer (some ⟨b, off + offf, none⟩)) (w' := w) (by simp [execOp, ho, e1, hrun]) (fin_FR hd hn hI hV (dst_lt hok) ⟨rfl, 0, [.pointer (some ⟨b, off + offf, none⟩)], rfl, ?_⟩ h2)
    simp only [CR]
    exact ⟨_, rfl, ⟨_, hs, Nat.le_refl _⟩, fun _ => ⟨b, _, e4, rfl⟩⟩
  case fptr t0 =>
    cases t0 <;> try (simp [Rd.sat] at h1; done)
    rename_i l
    cases hl : l[f]? with
    | none => simp [hl, Rd.sat] at h1
    | some t0 =>
      simp only [hl, Rd.sat] at h1
      obtain ⟨hoff, h3⟩ := h1
      obtain ⟨s0, cs, e1, e2⟩ := hv.cells
      simp only [CR] at e2
      obtain ⟨b, off, cur, e, fz, rfl, hFb, hb, hle, hpure, hC⟩ := e2
      simp [mkv] at e1
      have h4 := CRL_at l f 0 _ t0 hl hC
      have h5 := sizeL_take_le l f t0 hl
      simp only [T.size] at hle h4
      refine wp_value (v := .pointer (some ⟨b, off + offf, none⟩)) (w' := w) (by simp [execOp, ho, e1, hrun]) (fin_FR hd hn hI hV (dst_lt hok) ⟨rfl, 0, [.pointer (some ⟨b, off + offf, none⟩)], rfl, ?_⟩ h3)
      simp only [CR]
      have hp0 : t0.pure = true := by
        simp only [T.pure] at hpure
        exact (pureL_iff l).1 hpure t0 (List.mem_of_getElem? hl)
      refine ⟨b, off + offf, cur, e, fz, rfl, hFb, hb, by omega, hp0, ?_⟩
      rw [hoff] at h4 h5
      rw [List.drop_take, List.drop_drop, List.take_take, show min t0.size (T.sizeL l - offf) = t0.size by omega] at h4
      exact CR_pure _ (cx C env w κ) s0 0 rfl (fun _ h => ⟨h, rfl⟩) t0 _ [] _ hp0 h4

end

end Go.Proofs.Ytjkhggbjkkobaaa
