/-
  The generic part, twenty-first text: every operation does what its reader says.
-/
import Derived.Test.YtjkhggbjkkobaaaMetaTz
namespace Go.Proofs.Ytjkhggbjkkobaaa
open Go.RowKit

section
variable {C : Ctx} {env : Env} {V : Nat → Value} {w : World} {κ : Kap} {a : Act} {U : List (Nat × Slot)} {R : List Nat} {n : Nat}
variable {tt : Tt} {P : Program}

theorem under_some (hP : TtOk P tt) {t : TypeId} {i : Ty} (h : tyAt tt t = some i) : P.underlying t ≠ none := by
  obtain ⟨_, _, _, h1⟩ := hP t i h
  obtain ⟨sz, by_, z, k⟩ := i
  intro hn
  cases k <;> simp [hn] at h1

theorem op_builtin (hP : TtOk C.P tt) (hF : FR C n env a w) (hn1 : n ≤ 1000000) {b : Builtin} {args : Array Operand} {ty : Array TypeId} {i : Nat} {o : Oper} (ho : o.op = .call { callee := .builtin b, args := args, argTypes := ty }) (hok : opOk n o = true)
    (h : (builtinRd tt o b args.toList ty.toList i).sat (AFn C.P) env U R) {Q : Exit → Act → World → Prop} : o.wp C.P a w (fun a' w' => FR C n (U ++ env) a' w') Q := by
  unfold builtinRd at h
  split at h
  · rename_i x t h1 h2
    split at h
    · rename_i sz by_ z e hit
      have ha : args = #[x] := by apply Array.ext'; simpa using h1
      have ht : ty[0]? = some t := by rw [← Array.getElem?_toList, h2]; rfl
      subst ha
      exact op_len hP hF hit ho ht hok h
    · simp [Rd.sat] at h
  · rename_i x y h1
    have ha : args = #[x, y] := by apply Array.ext'; simpa using h1
    subst ha
    exact op_max hF ho hok h
  · rename_i x y h1
    have ha : args = #[x, y] := by apply Array.ext'; simpa using h1
    subst ha
    exact op_min hF ho hok h
  · rename_i x y t t' h1 h2
    split at h
    · rename_i he
      subst he
      split at h
      · rename_i sz by_ z e hit
        split at h
        · rename_i ie hie
          have ha : args = #[x, y] := by apply Array.ext'; simpa using h1
          have ht : ty = #[t, t] := by apply Array.ext'; simpa using h2
          subst ha; subst ht
          exact op_append hP hF hn1 hit hie ho hok h
        · simp [Rd.sat] at h
      · simp [Rd.sat] at h
    · simp [Rd.sat] at h
  · simp [Rd.sat] at h

/-- ████ Every operation. -/
theorem op_sound (hP : TtOk C.P tt) (md : FuncId → List Bool) (hF : FR C n env a w) (hn1 : n ≤ 1000000) {i : Nat} {o : Oper} (hok : opOk n o = true)
    (h : (opRd tt md i o).sat (AFn C.P) env U R) {Q : Exit → Act → World → Prop} : o.wp C.P a w (fun a' w' => FR C n (U ++ env) a' w') Q := by
  unfold opRd at h
  split at h
  · rename_i x ho; exact op_move hF ho hok h
  · rename_i x ho; exact op_assign hF ho hok h
  · rename_i c x y ho; exact op_pick hF ho hok h
  · rename_i e ho
    split at h
    · rename_i ie hie; exact op_alloc hP hF hie ho hok h
    · simp [Rd.sat] at h
  · rename_i e x ho
    split at h
    · rename_i ie hie; exact op_box hP hF hn1 hie ho hok h
    · simp [Rd.sat] at h
  · rename_i t x ho
    split at h
    · rename_i it hit; exact op_load hP hF hit ho hok h
    · simp [Rd.sat] at h
  · rename_i t x y ho
    split at h
    · rename_i it hit hdst; exact op_store hP hF hit ho hdst hok h
    · simp [Rd.sat] at h
  · rename_i t x f ho
    split at h
    · rename_i sz by_ z fs hit
      split at h
      · rename_i tf offf szf hf; exact op_fieldAddr hP hF hit hf ho hok h
      · simp [Rd.sat] at h
    · simp [Rd.sat] at h
  · rename_i t x f ho
    split at h
    · rename_i sz by_ z fs hit
      split at h
      · rename_i tf offf szf hf
        split at h
        · rename_i itf hitf; exact op_field hP hF hit hf hitf ho hok h
        · simp [Rd.sat] at h
      · simp [Rd.sat] at h
    · simp [Rd.sat] at h
  · rename_i t x y ho
    split at h
    · rename_i sz by_ z e hit
      split at h
      · rename_i ie hie; exact op_indexAddr hP hF hit hie ho hok h
      · simp [Rd.sat] at h
    · simp [Rd.sat] at h
  · rename_i t x lo hi ho
    split at h
    · rename_i sz by_ z e hit
      split at h
      · rename_i ie hie; exact op_slice hP hF hit hie ho hok h
      · simp [Rd.sat] at h
    · simp [Rd.sat] at h
  · rename_i t x y ho
    split at h
    · rename_i sz by_ z e hit
      split at h
      · rename_i ie hie; exact op_makeSlice hP hF hit hie ho hok h
      · simp [Rd.sat] at h
    · simp [Rd.sat] at h
  · rename_i t m parts ho
    split at h
    · rename_i sz by_ z e hit
      split at h
      · rename_i ie hie
        split at h
        · rename_i hc; exact op_buildSlice hP hF hit hie ho hok hc.1 hc.2.1 hc.2.2.1 hc.2.2.2 h
        · simp [Rd.sat] at h
      · simp [Rd.sat] at h
    · simp [Rd.sat] at h
  · rename_i t parts ho
    split at h
    · rename_i sz by_ zs fs hit
      split at h
      · simp [Rd.sat] at h
      · rename_i hc; exact op_build hP hF hit ho hok (by revert hc; cases fs.all (fun x => x.2.2 != 0) <;> simp) h
    · simp [Rd.sat] at h
  · rename_i op t x y t' ho; exact op_binOp hP hF ho hok h
  · rename_i op t x ho; exact op_unOp hF ho hok h
  · rename_i s t x ho
    split at h
    · rename_i is his
      split at h
      · rename_i sz by_ z k hit; exact op_convert hP hF hit (under_some hP his) ho hok h
      · simp [Rd.sat] at h
    · simp [Rd.sat] at h
  · rename_i x j ho; exact op_extract hF ho hok h
  · rename_i f first caps ho
    split at h
    · rename_i hc; exact op_makeFunc hF ho hok hc h
    · simp [Rd.sat] at h
  · rename_i c ho
    obtain ⟨callee, args, ty⟩ := c
    simp only at h
    cases callee with
    | builtin b => exact op_builtin hP hF hn1 ho hok h
    | invoke r m => simp [Rd.sat] at h
    | value x =>
      simp only at h
      obtain ⟨hd, hn, κ, V, hI, hV⟩ := hF
      obtain ⟨v, R', h1, hv⟩ := rdv_sat hI hV (opnd_ok hok (by simp [ho, Op.operands, Call.operands])) h
      cases v <;> try (simp [Rd.sat] at h1; done)
      rename_i f caps
      simp only [callRd] at h1
      split at h1
      · simp [Rd.sat] at h1
      · rename_i d hdst
        split at h1
        · rename_i hf
          split at h1
          · split at h1
            · rename_i hargs
              obtain ⟨v1, R1, h2, _⟩ := rdv_sat hI hV (opnd_ok hok (by simp [ho, Op.operands, Call.operands]; right; rw [← Array.mem_toList_iff, hargs]; simp)) h1
              split at h2
              · rw [← hargs] at h2
                exact op_callA hf hd hn hI hV ho hok hdst hv h2
              · exact op_callIO hd hn hI hV ho hok hdst hv hargs h2
            · simp [Rd.sat] at h1
          · split at h1
            · split at h1
              · exact op_callB hf hd hn hI hV hn1 ho hok hdst hv h1
              · simp [Rd.sat] at h1
            · exact op_callA hf hd hn hI hV ho hok hdst hv h1
        · simp [Rd.sat] at h1
  · simp [Rd.sat] at h

end

end Go.Proofs.Ytjkhggbjkkobaaa
