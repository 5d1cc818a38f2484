/- WbP: a part of the proof. -/
import Derived.Test.YtokmmcflinnfiabWbO
set_option linter.unusedVariables false
set_option linter.unusedSimpArgs false
namespace Go.Wb
open Go

section own
variable {C : Ctx} {S S' : St} {o : Oper} {α : Type}

/-- x == nil, a slice's: what it yields hangs on more than the list. -/
theorem op_eqnil {T U E : TypeId} {k : Kd α} {l : List α} {p : Operand} (ho : o.op = .binOp .eql T p (.const (.slice none 0 0)) U) (hd : dok o C.N = true) (ht : Sl C.P T E k) (hp : Val C S p (rd (ksl k) l)) :
    OpT C o S (fun S' => ∃ b : Bool, (b = true → l = []) ∧ S' = S.put o.dst (rd kbool b)) :=
  OpT.value (by simp [ho]) fun O a w hh => by
    obtain ⟨A, c, h1, hlc, hc63, hcells⟩ := rd_sl (hp.of hh)
    refine ⟨.bool A.isNone, w, _, ?_, ⟨A.isNone, fun h => ?_, rfl⟩, O, hh.yield_same (dok_lt hd) bool_rd⟩
    · have h2 := run_equal_slice_nil (P := C.P) w T E A l.length c ht.u
      have hg : (eqGuard .eql T p (.const (.slice none 0 0)) (.slice A l.length c) (.slice none 0 0)).run C.P w = .ok () w := rfl
      have h3 : a.eval (.const (.slice none 0 0)) = .slice none 0 0 := rfl
      simp only [execOp, ho, h1, h3, Sem.run_bind, hg, Result.andThen_ok, binOp, h2, Sem.run_pure]
    · cases l with
      | nil => rfl
      | cons x l =>
        obtain ⟨b, off, cl, rfl, _⟩ := hcells (by simp)
        cases h

theorem cut_turn {O : Nat → Nat} {a : Act} {w : World} {i n c m g : Nat} {E : TypeId} {k : Kd α} {l : List α} (hh : HoldO C S O a w) (hd : dok o C.N = true) (hr : S.r i = Row (.slice (some ⟨g, 0, none⟩) n c) E k l) (hm : m ≤ l.length) :
    Hold C ((S.put o.dst (raw (.slice (some ⟨g, 0, none⟩) m c))).setr i (Row (.slice (some ⟨g, 0, none⟩) m c) E k (l.take m))) (a.put o.dst (.slice (some ⟨g, 0, none⟩) m c)) w := by
  have h3 := hh.res i
  rw [hr] at h3
  obtain ⟨cl, hown, hc, hmm⟩ := h3
  have t : Turns O i w (.slice (some ⟨g, 0, none⟩) n c) (.slice (some ⟨g, 0, none⟩) m c) w :=
    ⟨⟨rfl, rfl, rfl, Nat.le_refl _, fun _ _ _ => rfl⟩, hmm, .inl rfl, fun b hb => by
      have := hmm b hb
      exact (hh.own b (by rw [this]; exact Ro_pos i)).2⟩
  refine hold_turn hh t hd _ rfl (cl := cl.take (m * k.sz)) ?_ ((hc.take m hm).mono (t.ext (C := C)))
  rcases hown.2 with ⟨e, h0⟩ | ⟨g', cap, cur, e, hb, hg, hnc, hcm, hcs, htk⟩
  · cases e
  · obtain ⟨rfl, rfl, rfl⟩ : g = g' ∧ n = l.length ∧ c = cap := by
      injection e with e1 e2 e3
      injection e1 with e1
      injection e1 with e1
      exact ⟨e1, e2, e3⟩
    have hml : (l.take m).length = m := by simp; omega
    have hle : m * k.sz ≤ l.length * k.sz := Nat.mul_le_mul_right _ hm
    rw [hml]
    refine ⟨?_, .inr ⟨g, c, cur, rfl, hb, hg, by omega, hcm, hcs, ?_⟩⟩
    · rw [List.length_take, hc.len]; omega
    · rw [← htk, List.take_take, Nat.min_eq_left hle]
/-- v[:hi] of an own slice is own -/
theorem op_sliceo_h {T E E' : TypeId} {k k' : Kd α} {l s : List α} {v : Value} {hi : Int} {p r : Operand} {jk : IntKind} (i : Nat) (h : otake l hi = some s) (ho : o.op = .slice T p none (some r) none) (hd : dok o C.N = true) (ht : Sl C.P T E' k') (hp : Val C S p (raw v)) (hr : S.r i = Row v E k l) (hq : Val C S r (rd (kint jk) hi)) :
    OpT C o S (fun S' => ∃ v', S' = (S.put o.dst (raw v')).setr i (Row v' E k s)) :=
  OpT.value (by simp [ho]) fun O a w hh => by
    obtain ⟨h0, h1, rfl⟩ := otake_of h
    have h2 := raw_eq (hp.of hh)
    have h3 := (rd_int (hq.of hh)).1
    have h4 := hh.res i
    rw [hr] at h4
    obtain ⟨cl, hown, hc, hm⟩ := h4
    rcases hown.2 with ⟨rfl, hn⟩ | ⟨g, cap, cur, rfl, hb, hg, hnc, hcm, hcs, htk⟩
    · have hz : hi.toNat = 0 := by omega
      have hl0 : l = [] := List.eq_nil_of_length_eq_zero hn
      subst hl0
      refine ⟨.slice none 0 0, w, _, ?_, ⟨.slice none 0 0, rfl⟩, ?_⟩
      · have hbd : (Instr.sliceBounds true 0 0 none (some (.int jk hi)) none).run C.P w = .ok (0, hi.toNat, 0) w := by
          simp [Instr.sliceBounds, run_sliceBound _ _ _ _ _ (show 0 ≤ hi by omega) (show hi ≤ ((0 : Nat) : Int) by omega)]
        have := run_slice_gen (P := C.P) (w := w) ht none 0 0 0 hi.toNat 0 none (some (.int jk hi)) none hbd
        simp [execOp, ho, h2, h3, this, hz]
      · have := (hh.newnil i E k)
        have h5 : HoldO C (S.setr i (Row (.slice none 0 0) E k [])) O a w := this
        have h6 := h5.yield_same (d := o.dst) (A := raw (.slice none 0 0)) (v := .slice none 0 0) (dok_lt hd) rfl
        refine ⟨O, ?_⟩
        have e : (S.setr i (Row (.slice none 0 0) E k [])).put o.dst (raw (.slice none 0 0)) = (S.put o.dst (raw (.slice none 0 0))).setr i (Row (.slice none 0 0) E k (List.take hi.toNat [])) := by
          cases o.dst <;> simp [St.put, St.set, St.setr]
        rwa [e] at h6
    · refine ⟨.slice (some ⟨g, 0, none⟩) hi.toNat cap, w, _, ?_, ⟨_, rfl⟩, cut_turn hh hd hr h1⟩
      have hbd : (Instr.sliceBounds true l.length cap none (some (.int jk hi)) none).run C.P w = .ok (0, hi.toNat, cap) w := by
        simp [Instr.sliceBounds, run_sliceBound _ _ _ _ _ (show 0 ≤ hi by omega) (show hi ≤ (cap : Int) by omega)]
      have := run_slice_gen (P := C.P) (w := w) ht (some ⟨g, 0, none⟩) l.length cap 0 hi.toNat cap none (some (.int jk hi)) none hbd
      simp [execOp, ho, h2, h3, this, add_at]

/-- the rest of an own slice, from lo on: only a value -/
def subv (v : Value) (lo sz : Nat) : Asrt :=
  ⟨fun _ _ _ u => (∃ g n c, v = .slice (some ⟨g, 0, none⟩) n c ∧ ∃ A, u = .slice A (n - lo) (c - lo) ∧ (lo < n → A = some ⟨g, lo * sz, none⟩)) ∨ (v = .slice none 0 0 ∧ ∃ A c, u = .slice A 0 c), fun _ h => h⟩
instance (v : Value) (lo sz : Nat) : Dup (subv v lo sz) := ⟨fun h => h⟩
theorem op_sliceo_l {T E E' : TypeId} {k : Kd α} {l s : List α} {v : Value} {lo : Int} {p r : Operand} {jk : IntKind} (i : Nat) (h : odrop l lo = some s) (ho : o.op = .slice T p (some r) none none) (hd : dok o C.N = true) (ht : Sl C.P T E' k) (hp : Val C S p (raw v)) (hr : S.r i = Row v E k l) (hq : Val C S r (rd (kint jk) lo)) :
    OpE C o S (S.put o.dst (subv v lo.toNat k.sz)) :=
  OpE.plain (by simp [ho]) hd fun O a w hh => by
    obtain ⟨h0, h1, rfl⟩ := odrop_of h
    have h2 := raw_eq (hp.of hh)
    have h3 := (rd_int (hq.of hh)).1
    have h4 := hh.res i
    rw [hr] at h4
    obtain ⟨cl, hown, hc, hm⟩ := h4
    rcases hown.2 with ⟨rfl, hn⟩ | ⟨g, cap, cur, rfl, hb, hg, hnc, hcm, hcs, htk⟩
    · have hz : lo.toNat = 0 := by omega
      have hbd : (Instr.sliceBounds true 0 0 (some (.int jk lo)) none none).run C.P w = .ok (lo.toNat, 0, 0) w := by
        simp [Instr.sliceBounds, run_sliceBound _ _ _ _ _ h0 (show lo ≤ ((0 : Nat) : Int) by omega)]
      have := run_slice_gen (P := C.P) (w := w) ht none 0 0 lo.toNat 0 0 (some (.int jk lo)) none none hbd
      exact ⟨.slice none 0 0, by simp [execOp, ho, h2, h3, this, hz], .inr ⟨rfl, _, _, rfl⟩⟩
    · have hbd : (Instr.sliceBounds true l.length cap (some (.int jk lo)) none none).run C.P w = .ok (lo.toNat, l.length, cap) w := by
        simp [Instr.sliceBounds, run_sliceBound _ _ _ _ _ h0 (show lo ≤ (l.length : Int) by omega)]
      have := run_slice_gen (P := C.P) (w := w) ht (some ⟨g, 0, none⟩) l.length cap lo.toNat l.length cap (some (.int jk lo)) none none hbd
      refine ⟨_, by simp [execOp, ho, h2, h3, this]; rfl, .inl ⟨g, _, _, rfl, _, rfl, fun hlt => ?_⟩⟩
      rw [if_neg (by omega)]
      simp [add_at]

theorem cells_zero {w : World} {H : HS} {k : Kd α} {z : α} {zc : List Value} (hz : KZ k z zc) : ∀ n, Cells k w H (List.replicate n z) (List.replicate n zc).flatten := by
  intro n
  induction n with
  | zero => rfl
  | succ n ih => rw [List.replicate_succ, List.replicate_succ, List.flatten_cons]; exact ⟨_, _, rfl, hz w H, ih⟩

theorem op_clearo {T E : TypeId} {k : Kd α} {l : List α} {v : Value} {z : α} {lo : Nat} {p : Operand} (i : Nat) (ho : o.op = .call { callee := .builtin .clear, args := #[p], argTypes := #[T] }) (hd : o.dst = none) (ht : Sl C.P T E k) (hz : Zr C.P E k z) (hpos : Nat.blt 0 k.sz = true) (hp : Val C S p (subv v lo k.sz)) (hr : S.r i = Row v E k l) (hlo : lo ≤ l.length) :
    OpE C o S (S.setr i (Row v E k (l.take lo ++ List.replicate (l.length - lo) z))) :=
  OpE.value (by simp [ho]) fun O a w hh => by
    have h4 := hh.res i
    rw [hr] at h4
    obtain ⟨cl, hown, hc, hm⟩ := h4
    obtain ⟨hu, ti, hti, hs⟩ := ht.out
    have hpos' : 0 < k.sz := by simpa using hpos
    have hsame : l.length - lo = 0 → l.take lo ++ List.replicate (l.length - lo) z = l := fun e => by
      rw [e, List.replicate_zero, List.append_nil, List.take_of_length_le (by omega)]
    have nothing : l.length - lo = 0 → (∃ A c, a.eval p = .slice A 0 c) → ∃ v' w', (execOp a.eval o).run C.P w = .ok (.value v') w' ∧ Hold C (S.setr i (Row v E k (l.take lo ++ List.replicate (l.length - lo) z))) (a.put o.dst v') w' := by
      rintro e ⟨A, c, h1⟩
      refine ⟨.tuple #[], w, ?_, O, ?_⟩
      · cases A <;> simp [execOp, ho, resolve, invoke, builtin, Builtin.clear_, h1, run_underlying hu]
      · rw [hsame e, hd]
        have : S.setr i (Row v E k l) = S := by
          have : upd S.r i (Row v E k l) = S.r := by
            funext j
            by_cases e : j = i
            · subst e; rw [upd_same, hr]
            · rw [upd_other _ _ e]
          simp [St.setr, this]
        rw [this]; exact hh
    rcases hp.of hh with ⟨g, n, c, rfl, A, h1, hA⟩ | ⟨rfl, A, c, h1⟩
    · rcases hown.2 with ⟨e, h0⟩ | ⟨g', cap, cur, e, hb, hg, hnc, hcm, hcs, htk⟩
      · cases e
      obtain ⟨rfl, rfl, rfl⟩ : g = g' ∧ n = l.length ∧ c = cap := by
        injection e with e1 e2 e3
        injection e1 with e1
        injection e1 with e1
        exact ⟨e1, e2, e3⟩
      by_cases hn : l.length - lo = 0
      · exact nothing hn ⟨A, c - lo, by rw [h1, hn]⟩
      have hlt : lo < l.length := by omega
      rw [hA hlt] at h1
      obtain ⟨m, hm'⟩ : ∃ m, l.length - lo = m + 1 := ⟨l.length - lo - 1, by omega⟩
      obtain ⟨ti', zv, hti', hzv, hzc⟩ := hz.out
      obtain rfl : ti = ti' := by rw [hti] at hti'; exact Option.some.inj hti'
      have hzl : zv.cells.toList.length = k.sz := k.len (hzc w (hid C O))
      have hzs : zv.cells.size = k.sz := by simpa using hzl
      have hzcells : (Builtin.zeroCells zv.cells (l.length - lo)).toList = (List.replicate (l.length - lo) zv.cells.toList).flatten := madeCells_flatten _ (by omega) _
      have hlenz : (Builtin.zeroCells zv.cells (l.length - lo)).toList.length = (l.length - lo) * k.sz := by
        rw [hzcells]
        have := (cells_zero (w := w) (H := hid C O) hzc (l.length - lo)).len
        simpa using this
      have hcurl : cur.toList.length = c * k.sz := by simpa using hcs
      have hmul2 : l.length * k.sz ≤ c * k.sz := Nat.mul_le_mul_right _ hnc
      have hsum : lo * k.sz + (l.length - lo) * k.sz = l.length * k.sz := by rw [← Nat.add_mul]; congr 1; omega
      have h9 : w.heap[g]? = some (.cells cur.toList.toArray E (0, 0)) := by simpa using hg
      have hcz := cells_zero (w := w) (H := hid C O) hzc (l.length - lo)
      rw [← hzcells] at hcz
      have h5 := run_storeCells_at C.P g (lo * k.sz) E (Builtin.zeroCells zv.cells (l.length - lo)).toList 0 cur.toList.toArray w h9 (by simp only [List.size_toArray, Nat.add_zero]; omega) hcz.one
      simp only [Nat.add_zero, List.toList_toArray] at h5
      have e5 : (List.take (lo * k.sz) cur.toList ++ (Builtin.zeroCells zv.cells (l.length - lo)).toList ++ List.drop (lo * k.sz + (Builtin.zeroCells zv.cells (l.length - lo)).toList.length) cur.toList) = lay cur.toList (lo * k.sz) (Builtin.zeroCells zv.cells (l.length - lo)).toList := by simp [lay]
      rw [e5] at h5
      let w' := w.setRow g (lay cur.toList (lo * k.sz) (Builtin.zeroCells zv.cells (l.length - lo)).toList).toArray
      have t : Turns O i w (.slice (some ⟨g, 0, none⟩) l.length c) (.slice (some ⟨g, 0, none⟩) l.length c) w' :=
        ⟨⟨rfl, rfl, rfl, by simp [w'], fun b hb hne => setRow_other w g b _ (fun e => hne (by simp [Value.ownBlock, e]))⟩, hm, .inl rfl, fun b hb => by simp [Value.ownBlock] at hb; subst hb; simpa [w'] using (Array.getElem?_eq_some_iff.1 hg).1⟩
      have hext := t.ext (C := C)
      have hnew : Cells k w' (hid C (own' O i (.slice (some ⟨g, 0, none⟩) l.length c))) (l.take lo ++ List.replicate (l.length - lo) z) (cl.take (lo * k.sz) ++ (Builtin.zeroCells zv.cells (l.length - lo)).toList) :=
        ((hc.take lo hlo).mono hext).append (hcz.mono hext)
      have hll : (l.take lo ++ List.replicate (l.length - lo) z).length = l.length := by simp; omega
      refine ⟨.tuple #[], w', ?_, ?_⟩
      · simp only [execOp, ho, resolve, invoke, builtin, Builtin.clear_, Sem.run_bind, Sem.run_pure, Result.andThen_ok, List.map_toArray, List.map_cons, List.map_nil, h1, run_underlying hu]
        rw [hm']
        rw [hm'] at h5
        simp [run_underlying hu, zeroValue, typeInfo, hti, hzv, h5, w', hm']
      · rw [hd]
        have h7 := hold_turn (E := E) (S := S) (o := { dst := none, op := o.op, type := o.type, pos := o.pos, after := o.after, guard := o.guard }) (A := top) (l := l.take lo ++ List.replicate (l.length - lo) z) hh t rfl undef trivial ?_ hnew
        · exact h7
        · rw [hll]
          refine ⟨?_, .inr ⟨g, c, _, rfl, Nat.zero_le _, setRow_heap w g _ _ _ _ hg, hnc, hcm, ?_, ?_⟩⟩
          · rw [List.length_append, hlenz, List.length_take, hc.len]; omega
          · simp only [List.size_toArray]; rw [lay_length (by omega), hcurl]
          · simp only [List.toList_toArray]
            apply List.ext_getElem?
            intro j
            rw [List.getElem?_take, List.getElem?_append, List.length_take, hc.len, Nat.min_eq_left (by omega)]
            rw [lay_get (by omega), hlenz]
            by_cases hj : j < l.length * k.sz
            · rw [if_pos hj]
              by_cases hj2 : j < lo * k.sz
              · rw [if_pos hj2, if_pos hj2, List.getElem?_take, if_pos hj2, ← htk, List.getElem?_take, if_pos hj]
              · rw [if_neg hj2, if_neg hj2, if_pos (by omega)]
            · rw [if_neg hj, if_neg (by omega), List.getElem?_eq_none (by omega)]
    · have hn : l.length = 0 := by
        rcases hown.2 with ⟨e, h0⟩ | ⟨g', cap, cur, e, _⟩
        · exact h0
        · cases e
      exact nothing (by omega) ⟨A, c, h1⟩
end own
end Go.Wb
