/-
  The generic part, fourteenth text: new blocks; stores; a variable that takes a tree.
-/
import Derived.Test.YtjkhggbjkkobaaaMetaM
import Derived.Deep.OwnRows
namespace Go.Proofs.Ytjkhggbjkkobaaa
open Go.RowKit

mutual
theorem plain_facts : ∀ (t : T), t.plain = true → t.pure = true ∧ t.refFree = true ∧ t.solid = true ∧ t.zc.length = t.size
  | .int .., _ => by simp [T.pure, T.refFree, T.solid, T.zc, T.size]
  | .bool .., _ => by simp [T.pure, T.refFree, T.solid, T.zc, T.size]
  | .str .., _ => by simp [T.pure, T.refFree, T.solid, T.zc, T.size]
  | .nil, _ => by simp [T.pure, T.refFree, T.solid, T.zc, T.size]
  | .agg l, h => by
    have := plainL_facts l (by simpa [T.plain] using h)
    simp [T.pure, T.refFree, T.solid, T.zc, T.size, this]
  | .any, h => by simp [T.plain] at h
  | .sl .., h => by simp [T.plain] at h
  | .box .., h => by simp [T.plain] at h
  | .fptr .., h => by simp [T.plain] at h
  | .tup .., h => by simp [T.plain] at h
  | .fn .., h => by simp [T.plain] at h
  | .ref .., h => by simp [T.plain] at h
  | .addr .., h => by simp [T.plain] at h
theorem plainL_facts : ∀ (l : List T), T.plainL l = true → T.pureL l = true ∧ T.refFreeL l = true ∧ T.solidL l = true ∧ (T.zcL l).length = T.sizeL l
  | [], _ => by simp [T.pureL, T.refFreeL, T.solidL, T.zcL, T.sizeL]
  | t :: l, h => by
    simp only [T.plainL, Bool.and_eq_true] at h
    have h1 := plain_facts t h.1
    have h2 := plainL_facts l h.2
    simp [T.pureL, T.refFreeL, T.solidL, T.zcL, T.sizeL, h1, h2]
end

mutual
theorem CR_zc (X : Cx) (s : Nat) : ∀ (t : T) (p : List Nat), t.plain = true → CR X s p t t.zc
  | .int .., _, _ => by simp [CR, T.zc]
  | .bool .., _, _ => by simp [CR, T.zc]
  | .str .., _, _ => by simp [CR, T.zc]
  | .nil, _, _ => by simp [CR, T.zc]
  | .agg l, p, h => by
    simp only [CR, T.zc]
    exact CRL_zc X s l p 0 (by simpa [T.plain] using h)
  | .any, _, h => by simp [T.plain] at h
  | .sl .., _, h => by simp [T.plain] at h
  | .box .., _, h => by simp [T.plain] at h
  | .fptr .., _, h => by simp [T.plain] at h
  | .tup .., _, h => by simp [T.plain] at h
  | .fn .., _, h => by simp [T.plain] at h
  | .ref .., _, h => by simp [T.plain] at h
  | .addr .., _, h => by simp [T.plain] at h
theorem CRL_zc (X : Cx) (s : Nat) : ∀ (l : List T) (p : List Nat) (i : Nat), T.plainL l = true → CRL X s p i l (T.zcL l)
  | [], _, _, _ => by simp [CRL, T.zcL]
  | t :: l, p, i, h => by
    simp only [T.plainL, Bool.and_eq_true] at h
    simp only [CRL, T.zcL]
    have hl := (plain_facts t h.1).2.2.2
    rw [List.take_append_of_le_length (by omega), List.take_of_length_le (by omega), List.drop_append_of_le_length (by omega), List.drop_of_length_le (by omega), List.nil_append]
    exact ⟨CR_zc X s t _ h.1, CRL_zc X s l p (i + 1) h.2⟩
end

theorem mkv_cells {t : T} {cs : List Value} (hl : cs.length = t.size) (h1 : ∀ v ∈ cs, v.oneCell' = true) : (mkv t cs).cells = cs.toArray := by
  cases t with
  | agg l => rfl
  | _ =>
    simp only [T.size] at hl
    match cs, hl with
    | [v], _ =>
      have := h1 v (by simp)
      cases v <;> simp_all [mkv, Value.cells, Value.oneCell']

section
variable {C : Ctx} {env : Env} {V : Nat → Value} {w : World} {κ : Kap} {a : Act} {AF : FuncId → List T → T → Prop} {U : List (Nat × Slot)} {R : List Nat} {n : Nat}
variable {tt : Tt} {P : Program}

/-- The world with one block more: nothing else turns. -/
theorem heap_push_old (w : World) (o : Obj) (b : Nat) (h : b < w.heap.size) : (w.alloc o).heap[b]? = w.heap[b]? := Below.heap_alloc w o b h

/-- A new block, the tree of a slot. -/
theorem new_FR (hd : a.defers = []) (hn : a.tmps.size = n) (hI : Inv C env V w κ) (hV : ∀ t, t < 1000000 → V t = a.tmps.getD t undef) {d : Nat} (hdn : d < n) (nd : T) (hnode : nd.isNode = true) (hr : nd.refFree = true) (o : Obj) (head : Value)
    (hx : ∀ X' : Cx, X'.sz = C.P.cellsOf → X'.w = w.alloc o → X'.F = C.F → X'.kap w.heap.size = some (d, [], head) → CR X' d [] nd [head]) :
    FR C n ((d, ⟨verOf (lk env d) + 1, .own nd⟩) :: env) (a.put (some d) head) (w.alloc o) := by
  have hC0 : C.w0.heap.size ≤ w.heap.size := hI.size
  obtain ⟨κ', hI', _⟩ := hI.fresh [] d nd [head] (w.alloc o) (fun b => if b = w.heap.size then some ([], head) else none) rfl rfl rfl (by simp)
    (fun b hb => heap_push_old w o b (Nat.lt_of_lt_of_le hb.1 hC0)) (fun b s p v hk _ _ => heap_push_old w o b (hI.col b s p v hk).1)
    (fun b p v hb => by
      split at hb
      · rename_i e; subst e
        refine ⟨by simp, fun hF => by have := hF.1; omega, fun s p v hk => ?_⟩
        have := (hI.col _ _ _ _ hk).1
        omega
      · cases hb)
    (fun b b' p v v' hb hb' => by
      split at hb
      · split at hb'
        · rename_i e e'; rw [e, e']
        · cases hb'
      · cases hb) hr
    (fun X' h1 h2 h3 h4 => hx X' h1 h2 h3 (h4 _ [] head (by simp)))
  have hm : mkv nd [head] = head := by cases nd <;> simp_all [T.isNode, mkv]
  rw [hm] at hI'
  refine own_FR hd hn hdn (by simpa [kill] using hI') (fun t ht => ?_)
  by_cases e : t = d
  · simp [e, upd]
  · rw [upd_other _ _ _ _ e, if_neg e]; exact hV t ht

theorem finOwn_sat {d : Option Nat} {x : T} {ups : List (Nat × Slot)} (h : (finOwn d x ups).sat AF env U R) : ∃ t, d = some t ∧ U = (t, ⟨verOf (lk env t) + 1, .own x⟩) :: ups := by
  cases d with
  | none => simp [finOwn, Rd.sat] at h
  | some d =>
    simp only [finOwn, Rd.sat] at h
    obtain ⟨R', ⟨rfl, _⟩, _⟩ := h
    exact ⟨d, rfl, rfl⟩

theorem run_newVar' (e : TypeId) (v : Value) (w : World) : (newVar e v).run P w = .ok ⟨w.heap.size, 0, none⟩ (w.alloc (.cells v.cells e)) := by
  simp only [newVar, newRow, Sem.run_bind, run_newObj, Result.andThen_ok, Sem.run_pure]
  rfl

theorem op_alloc (hP : TtOk C.P tt) (hF : FR C n env a w) {e : TypeId} {ie : Ty} (hie : tyAt tt e = some ie) {o : Oper} (ho : o.op = .alloc e) (hok : opOk n o = true)
    (h : (finOwn o.dst (.box e ie.zero) []).sat AF env U R) {Q : Exit → Act → World → Prop} :
    o.wp C.P a w (fun a' w' => FR C n (U ++ env) a' w') Q := by
  obtain ⟨hd, hn, κ, V, hI, hV⟩ := hF
  obtain ⟨d, hdst, rfl⟩ := finOwn_sat h
  obtain ⟨_, hplain, hzs, _⟩ := hP e ie hie
  obtain ⟨ti, g1, g2, g3, g4⟩ := info_of hP hie
  have hpf := plain_facts ie.zero hplain
  have hcells : (mkv ie.zero ie.zero.zc).cells = ie.zero.zc.toArray := mkv_cells hpf.2.2.2 (oneCell_of_solid (X := cx C env w κ) (s := 0) ie.zero [] _ hpf.2.2.1 hpf.2.1 (CR_zc _ _ _ _ hplain))
  refine wp_value (v := .pointer (some ⟨w.heap.size, 0, none⟩)) (w' := w.alloc (.cells ie.zero.zc.toArray e)) ?_ ?_
  · simp only [execOp, ho, Instr.alloc, Sem.run_bind, zeroValue, typeInfo, run_program, Result.andThen_ok, g1, g2, Sem.run_pure, run_newVar', hcells]
  · rw [hdst]
    refine new_FR hd hn hI hV (dst_lt hok d hdst) (.box e ie.zero) rfl (by simpa [T.refFree] using hpf.2.1) _ _ (fun X' h1 h2 h3 h4 => ?_)
    simp only [CR]
    refine ⟨w.heap.size, ie.zero.zc.toArray, rfl, by rw [h2]; exact heap_alloc_new w _, h4, ?_, by simpa using hpf.2.2.2, CR_zc X' d ie.zero _ hplain⟩
    rw [h1, sz_of hP hie, hzs]

theorem Inv.congr {env' : Env} (he : ∀ t, lk env' t = lk env t) (h : Inv C env V w κ) : Inv C env' V w κ := by
  have hcx : cx C env' w κ = cx C env w κ := by
    unfold cx
    have : lk env' = lk env := funext he
    simp only [this]
  refine ⟨h.os, h.tape, h.output, h.size, h.frozen, h.col, h.inj, fun t k x hx => ?_, fun t k x hx => ?_, fun t k hx => ?_⟩
  · rw [he] at hx; rw [hcx]; exact h.val t k x hx
  · rw [he] at hx; rw [hcx]; exact h.own t k x hx
  · rw [he] at hx; exact h.und t k hx

theorem FR.congr {env' : Env} (he : ∀ t, lk env' t = lk env t) (h : FR C n env a w) : FR C n env' a w :=
  ⟨h.defers, h.size, let ⟨κ, V, h1, h2⟩ := h.inv; ⟨κ, V, h1.congr he, h2⟩⟩

/-- A new block round a tree of another slot (which gives it up). -/
theorem box_FR (hP : TtOk C.P tt) (hd : a.defers = []) (hn : a.tmps.size = n) (hI : Inv C env V w κ) {d dv kv : Nat} (hV : ∀ t, t < 1000000 → t ≠ dv → V t = a.tmps.getD t undef) (hdv : 1000000 ≤ dv) (hdn : d < n) (hn1 : n ≤ 1000000) {x : T} {u : Value} (hl : lk env dv = some ⟨kv, .own x⟩) (hu : V dv = u)
    {e : TypeId} {ie : Ty} (hie : tyAt tt e = some ie) (hsz : x.size = ie.size) (hsolid : x.solid = true) :
    FR C n ((d, ⟨verOf (lk env d) + 1, .own (.box e x)⟩) :: kill [dv] env) (a.put (some d) (.pointer (some ⟨w.heap.size, 0, none⟩))) (w.alloc (.cells u.cells e)) := by
  obtain ⟨hr, cs, hcs, hC⟩ := hI.own dv kv x hl
  have hlen := CR_len _ _ _ _ _ hC
  have hcells : u.cells = cs.toArray := by rw [← hu, hcs]; exact mkv_cells hlen (oneCell_of_solid x [] cs hsolid hr hC)
  have hC0 : C.w0.heap.size ≤ w.heap.size := hI.size
  have hne : d ≠ dv := by omega
  obtain ⟨κ', hI', _⟩ := hI.fresh [dv] d (.box e x) [.pointer (some ⟨w.heap.size, 0, none⟩)] (w.alloc (.cells u.cells e))
    (fun b => if b = w.heap.size then some ([], .pointer (some ⟨w.heap.size, 0, none⟩)) else match κ b with | some (t, r, v) => if t = dv then some (0 :: r, v) else none | none => none) rfl rfl rfl (by simp)
    (fun b hb => heap_push_old w _ b (Nat.lt_of_lt_of_le hb.1 hC0)) (fun b s p v hk _ _ => heap_push_old w _ b (hI.col b s p v hk).1)
    (fun b p v hb => by
      split at hb
      · rename_i e; subst e
        refine ⟨by simp, fun hF => by have := hF.1; omega, fun s p v hk => ?_⟩
        have := (hI.col _ _ _ _ hk).1
        omega
      · cases hk : κ b with
        | none => simp [hk] at hb
        | some y =>
          obtain ⟨t, r, v'⟩ := y
          simp only [hk] at hb
          split at hb
          · rename_i e
            have hc := hI.col b _ _ _ hk
            refine ⟨by simp; omega, hc.2, fun s p v hk' => ?_⟩
            simp only [Option.some.injEq, Prod.mk.injEq] at hk'
            obtain ⟨rfl, _, _⟩ := hk'
            exact .inl (by simp [e])
          · cases hb)
    (fun b b' p v v' hb hb' => by
      split at hb
      · split at hb'
        · rename_i e e'; rw [e, e']
        · cases hk : κ b' with
          | none => simp [hk] at hb'
          | some y =>
            obtain ⟨t, r, v'⟩ := y
            simp only [hk] at hb'
            split at hb'
            · simp at hb hb'; rw [hb.1] at hb'; simp at hb'
            · cases hb'
      · cases hk : κ b with
        | none => simp [hk] at hb
        | some y =>
          obtain ⟨t, r, v1⟩ := y
          simp only [hk] at hb
          split at hb
          · split at hb'
            · simp at hb hb'; rw [hb'.1] at hb; simp at hb
            · cases hk' : κ b' with
              | none => simp [hk'] at hb'
              | some y' =>
                obtain ⟨t', r', v1'⟩ := y'
                simp only [hk'] at hb'
                split at hb'
                · rename_i e1 _ e2
                  simp only [Option.some.injEq, Prod.mk.injEq] at hb hb'
                  have : r = r' := by have := hb.1.trans hb'.1.symm; simpa using this
                  subst this; subst e1; subst e2
                  exact hI.inj b b' _ _ _ _ hk hk'
                · cases hb'
          · cases hb) (by simpa [T.refFree] using hr)
    (fun X' h1 h2 h3 h4 => by
      simp only [CR]
      refine ⟨w.heap.size, u.cells, rfl, by rw [h2]; exact heap_alloc_new w _, h4 _ [] _ (by simp), by rw [h1, sz_of hP hie, hsz], by rw [hcells]; simpa using hlen, ?_⟩
      rw [hcells]
      refine CR_carryF (X := cx C env w κ) (s := dv) (p := []) h1 (fun b hb => ⟨by rw [h3]; exact hb, by rw [h2]; exact heap_push_old w _ b (Nat.lt_of_lt_of_le hb.1 hC0)⟩) (fun b q v hk => ?_) hr hC
      have hk' : κ b = some (dv, q, v) := hk
      have hlt := (hI.col b _ _ _ hk').1
      exact ⟨h4 b (0 :: q) v (by rw [if_neg (by omega)]; simp [hk']), by rw [h2]; exact heap_push_old w _ b hlt⟩)
  refine own_FR hd hn hdn hI' (fun t ht => ?_)
  by_cases e : t = d
  · simp [e, upd, mkv]
  · rw [upd_other _ _ _ _ e, if_neg e]; exact hV t ht (by omega)

theorem op_box (hP : TtOk C.P tt) (hF : FR C n env a w) (hn1 : n ≤ 1000000) {e : TypeId} {ie : Ty} (hie : tyAt tt e = some ie) {x : Operand} {i : Nat} {o : Oper} (ho : o.op = .box e x) (hok : opOk n o = true)
    (h : (rdv x fun v => take (virt i) v fun v' ups => .need (v'.size = ie.size ∧ v'.solid = true) <| match ups with
      | [] => finOwn o.dst (.box e v') []
      | _ => .rd (virt i) fun sv => finOwn o.dst (.box e v') ((virt i, ⟨verOf sv + 1, .val .any⟩) :: ups)).sat AF env U R) {Q : Exit → Act → World → Prop} :
    o.wp C.P a w (fun a' w' => FR C n (U ++ env) a' w') Q := by
  obtain ⟨hd, hn, κ, V, hI, hV⟩ := hF
  obtain ⟨v, R', h1, hv⟩ := rdv_sat hI hV (opnd_ok hok (by simp [ho, Op.operands])) h
  have hrun : (execOp a.eval o).run C.P w = .ok (.value (.pointer (some ⟨w.heap.size, 0, none⟩))) (w.alloc (.cells (a.eval x).cells e)) := by
    simp only [execOp, ho, Instr.box, Sem.run_bind, run_newVar', Result.andThen_ok, Sem.run_pure]
  rcases take_sat hI hv h1 with ⟨hp, hr, h2⟩ | ⟨s, k, p, T0, nd, v', R'', hne, hs, hg, hnd, hrf, hag, hsz, h2, κ', hI', _⟩
  · simp only [Rd.sat] at h2
    obtain ⟨⟨hsz, hsolid⟩, h3⟩ := h2
    obtain ⟨d, hdst, rfl⟩ := finOwn_sat h3
    obtain ⟨s0, cs, e1, e2⟩ := hv.cells
    have hlen := CR_len _ _ _ _ _ e2
    have hcells : (a.eval x).cells = cs.toArray := by rw [e1]; exact mkv_cells hlen (oneCell_of_solid v [] cs hsolid hr e2)
    refine wp_value hrun ?_
    rw [hdst]
    refine new_FR hd hn hI hV (dst_lt hok d hdst) (.box e v) rfl (by simpa [T.refFree] using hr) _ _ (fun X' g1 g2 g3 g4 => ?_)
    simp only [CR]
    refine ⟨w.heap.size, (a.eval x).cells, rfl, by rw [g2]; exact heap_alloc_new w _, g4, by rw [g1, sz_of hP hie, hsz], by rw [hcells]; simpa using hlen, ?_⟩
    rw [hcells]
    exact CR_pure (cx C env w κ) X' s0 d g1 (fun b hb => ⟨by rw [g3]; exact hb, by rw [g2]; exact heap_push_old w _ b (Nat.lt_of_lt_of_le hb.1 hI.size)⟩) v [] [0] cs hp e2
  · simp only [Rd.sat] at h2
    obtain ⟨⟨hsz', hsolid⟩, R3, h3, _⟩ := h2
    obtain ⟨d, hdst, rfl⟩ := finOwn_sat h3
    have hdn := dst_lt hok d hdst
    have hvirt : (1000000 : Nat) ≤ virt i := by simp [virt]
    have hdv : d ≠ virt i := fun e => by have h1 : d < n := hdn; rw [e] at h1; exact absurd h1 (by omega)
    refine wp_value hrun ?_
    rw [hdst]
    have key := box_FR hP hd hn hI' (d := d) (dv := virt i) (fun t ht hne => by rw [upd_other _ _ _ _ hne]; exact hV t ht) hvirt hdn hn1 (lk_same _ _ _) (upd_same _ _ _) hie hsz' hsolid
    refine key.congr (fun t => ?_)
    have hvd : verOf (lk ((virt i, (⟨verOf (lk env (virt i)) + 1, .own v'⟩ : Slot)) :: (s, ⟨k, .own (T.set .any p T0)⟩) :: env) d) = verOf (lk env d) := by
      rw [lk_other _ _ _ _ hdv]
      by_cases e : d = s
      · subst e; rw [lk_same, hs]; rfl
      · rw [lk_other _ _ _ _ e]
    rw [hvd]
    simp only [kill, List.map_cons, List.map_nil, List.cons_append, List.nil_append, lk, verOf]
    by_cases e1 : d = t
    · simp [e1]
    · simp only [e1, if_false]
      by_cases e2 : virt i = t
      · simp [e2]
      · simp [e2]

end

end Go.Proofs.Ytjkhggbjkkobaaa
