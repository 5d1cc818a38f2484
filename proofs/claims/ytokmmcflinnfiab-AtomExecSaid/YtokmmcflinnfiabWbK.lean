/- WbK: a part of the proof. -/
import Derived.Test.YtokmmcflinnfiabWbJ
set_option linter.unusedVariables false
set_option linter.unusedSimpArgs false
namespace Go.Wb
open Go

section rows
variable {C : Ctx} {S S' : St} {o : Oper} {α β γ : Type}

/-! own slices: length, elements -/
theorem row_form {w : World} {E : TypeId} {k : Kd α} {l : List α} {v : Value} {cl : List Value} (ho : w.ownsRow 0 E k.sz v l.length cl) : ∃ A c, v = .slice A l.length c ∧ l.length ≤ 9223372036854775807 := by
  rcases ho.2 with ⟨rfl, h0⟩ | ⟨g, cap, cur, rfl, hb, hg, hnc, hcm, hcs, htk⟩
  · rw [h0]; exact ⟨none, 0, rfl, by omega⟩
  · exact ⟨_, cap, rfl, by simp only [maxLen] at hcm; omega⟩
theorem op_leno {T E E' : TypeId} {k k' : Kd α} {l : List α} {v : Value} {p : Operand} (i : Nat) (ho : o.op = .call { callee := .builtin .len, args := #[p], argTypes := #[T] }) (hd : dok o C.N = true) (ht : Sl C.P T E' k') (hp : Val C S p (raw v)) (hr : S.r i = Row v E k l) :
    OpE C o S (S.put o.dst (rd (kint .i64) (l.length : Int))) :=
  OpE.plain (by simp [ho]) hd fun O a w hh => by
    have h1 := raw_eq (hp.of hh)
    have h3 := hh.res i
    rw [hr] at h3
    obtain ⟨cl, hown, hc, hm⟩ := h3
    obtain ⟨A, c, rfl, hle⟩ := row_form hown
    refine ⟨.int .i64 l.length, ?_, int_rd ⟨by simp [IntKind.min, IntKind.signed, IntKind.bits]; try omega, by simp [IntKind.max, IntKind.signed, IntKind.bits]; omega⟩⟩
    simp [execOp, ho, resolve, invoke, builtin, Builtin.len_, h1, run_underlying ht.u, goInt]

/-- a pointer to a part of an own slice's element -/
def erp {α β : Type} {k : Kd α} {kf : Kd β} (v : Value) (i : Nat) (L : Lens k kf) : Asrt :=
  ⟨fun _ _ _ u => ∃ g n c, v = .slice (some ⟨g, 0, none⟩) n c ∧ u = .pointer (some ⟨g, i * k.sz + L.off, none⟩), fun _ h => h⟩
instance {α β : Type} {k : Kd α} {kf : Kd β} (v : Value) (i : Nat) (L : Lens k kf) : Dup (erp v i L) := ⟨fun h => h⟩

theorem row_at {w : World} {E : TypeId} {k : Kd α} {l : List α} {v : Value} {cl : List Value} (ho : w.ownsRow 0 E k.sz v l.length cl) (hp : 0 < l.length) : ∃ g cap cur, v = .slice (some ⟨g, 0, none⟩) l.length cap ∧ w.heap[g]? = some (.cells cur E (0, 0)) ∧ l.length ≤ cap ∧ cap ≤ maxLen ∧ cur.size = cap * k.sz ∧ cur.toList.take (l.length * k.sz) = cl := by
  rcases ho.2 with ⟨rfl, h0⟩ | ⟨g, cap, cur, rfl, hb, hg, hnc, hcm, hcs, htk⟩
  · omega
  · exact ⟨g, cap, cur, rfl, hg, hnc, hcm, hcs, htk⟩

theorem op_indexo {T E : TypeId} {k : Kd α} {l : List α} {v : Value} {n : Int} {p q : Operand} {ik : IntKind} (i : Nat) (ho : o.op = .indexAddr T p q) (hd : dok o C.N = true) (ht : Sl C.P T E k) (hp : Val C S p (raw v)) (hr : S.r i = Row v E k l) (hq : Val C S q (rd (kint ik) n)) (h0 : 0 ≤ n) (hi : n.toNat < l.length) :
    OpE C o S (S.put o.dst (erp v n.toNat (Lens.id k))) :=
  OpE.plain (by simp [ho]) hd fun O a w hh => by
    have h1 := raw_eq (hp.of hh)
    have h2 := (rd_int (hq.of hh)).1
    have h3 := hh.res i
    rw [hr] at h3
    obtain ⟨cl, hown, hc, hm⟩ := h3
    obtain ⟨g, cap, cur, rfl, hg, _⟩ := row_at hown (by omega)
    obtain ⟨hu, ti, hti, hs⟩ := ht.out
    have h4 : (0 : Int) ≤ n ∧ n < l.length := ⟨h0, by omega⟩
    exact ⟨.pointer (some ⟨g, n.toNat * k.sz, none⟩), by simp [execOp, ho, h1, h2, Instr.indexAt, asIntOf, run_underlying hu, Instr.sureAddr, h4, sizeOf, typeInfo, hti, hs, add_at], g, _, _, rfl, rfl⟩
theorem op_fieldo {T : TypeId} {n m : Nat} {k : Kd α} {kf : Kd β} {kg : Kd γ} {L : Lens k kf} (M : Lens kf kg) {v : Value} {p : Operand} (ho : o.op = .fieldAddr T p n) (hd : dok o C.N = true) (hf : Fl C.P T n M) (hp : Val C S p (erp v m L)) :
    OpE C o S (S.put o.dst (erp v m (L.comp M))) :=
  OpE.plain (by simp [ho]) hd fun O a w hh => by
    obtain ⟨g, c1, c2, hv, h1⟩ := hp.of hh
    exact ⟨.pointer (some ⟨g, m * k.sz + L.off + M.off, none⟩), by simp [execOp, ho, h1, run_field hf], g, c1, c2, hv, by simp [Lens.comp, Nat.add_assoc]⟩
theorem row_cells {w : World} {H : HS} {E : TypeId} {k : Kd α} {kf : Kd β} {L : Lens k kf} {l : List α} {g n c : Nat} {cl : List Value} (ho : w.ownsRow 0 E k.sz (.slice (some ⟨g, 0, none⟩) n c) l.length cl) (hc : Cells k w H l cl) (i : Nat) (hi : i < l.length) :
    ∃ cs, kf.C w H (L.get l[i]) cs ∧ At w g (i * k.sz + L.off) cs := by
  have h1 := L.okget (hc.get i hi)
  refine ⟨_, h1, fun j u hu => ?_⟩
  have h2 := ho.cells (g := g) rfl
  have h3 : cl[i * k.sz + L.off + j]? = some u := by
    rw [List.getElem?_take] at hu
    split at hu
    · rw [List.getElem?_drop, List.getElem?_take] at hu
      split at hu
      · rw [List.getElem?_drop] at hu
        rw [← hu, Nat.add_assoc]
      · cases hu
    · cases hu
  have := h2 _ _ h3
  rwa [add_at, Nat.zero_add] at this
theorem op_loado {T E : TypeId} {n : Nat} {k : Kd α} {kf : Kd β} {L : Lens k kf} {l : List α} {v : Value} {p : Operand} (i : Nat) (ho : o.op = .load T p) (hd : dok o C.N = true) (ht : Ty C.P T kf) (hp : Val C S p (erp v n L)) (hr : S.r i = Row v E k l) (hi : n < l.length) :
    OpE C o S (S.put o.dst (rd kf (L.get l[n]))) :=
  OpE.plain (by simp [ho]) hd fun O a w hh => by
    obtain ⟨g, c1, c2, rfl, h1⟩ := hp.of hh
    have h3 := hh.res i
    rw [hr] at h3
    obtain ⟨cl, hown, hc, hm⟩ := h3
    obtain ⟨cs, hcs, hat⟩ := row_cells (L := L) hown hc n hi
    exact ⟨_, by simp [execOp, ho, h1, Instr.loadAt, Instr.sureAddr, run_load_at ht hcs hat], cs, hcs, rfl⟩
theorem op_storeo {T E : TypeId} {n : Nat} {k : Kd α} {kf : Kd β} {L : Lens k kf} {l : List α} {y : β} {v : Value} {p q : Operand} (i : Nat) (ho : o.op = .store T p q) (hd : o.dst = none) (ht : Ty C.P T kf) (hp : Val C S p (erp v n L)) (hr : S.r i = Row v E k l) (hi : n < l.length) (hq : Val C S q (rd kf y)) :
    OpE C o S (S.setr i (Row v E k (l.set n (L.set l[n] y)))) :=
  OpE.skip (by simp [ho]) fun O a w hh => by
    obtain ⟨g, c1, c2, rfl, h1⟩ := hp.of hh
    obtain ⟨c, h4, h5⟩ := hq.of hh
    have h3 := hh.res i
    rw [hr] at h3
    obtain ⟨cl, hown, hc, hm⟩ := h3
    obtain ⟨g', cap, cur, e, hg, hnc, hcm, hcs, htk⟩ := row_at hown (by omega)
    obtain ⟨rfl, rfl, rfl⟩ : g = g' ∧ c1 = l.length ∧ c2 = cap := by
      injection e with e1 e2 e3
      injection e1 with e1
      injection e1 with e1
      exact ⟨e1, e2, e3⟩
    have hLf := L.fits
    have hc4 := kf.len h4
    have hmul : n * k.sz + k.sz ≤ l.length * k.sz := by rw [← Nat.succ_mul]; exact Nat.mul_le_mul_right _ hi
    have hmul2 : l.length * k.sz ≤ c2 * k.sz := Nat.mul_le_mul_right _ hnc
    have hcurl : cur.toList.length = c2 * k.sz := by simpa using hcs
    have hrun := run_store_at (P := C.P) (T := T) (off := n * k.sz + L.off) (cur := cur.toList) (by simpa using hg) ht h4 (by omega)
    have t : Turns O i w (.slice (some ⟨g, 0, none⟩) l.length c2) (.slice (some ⟨g, 0, none⟩) l.length c2) (w.setRow g (lay cur.toList (n * k.sz + L.off) c).toArray) :=
      ⟨⟨rfl, rfl, rfl, by simp, fun b hb hne => setRow_other w g b _ (fun e => hne (by simp [Value.ownBlock, e]))⟩, hm, .inl rfl, fun b hb => by simp [Value.ownBlock] at hb; subst hb; simpa using (Array.getElem?_eq_some_iff.1 hg).1⟩
    have hO : own' O i (.slice (some ⟨g, 0, none⟩) l.length c2) = O := by
      funext b
      unfold own'
      split
      · rename_i e; exact (hm b e).symm
      · rfl
    have hext := t.ext (C := C)
    have hc' := hc.mono hext
    have hnew : Cells k (w.setRow g (lay cur.toList (n * k.sz + L.off) c).toArray) (hid C (own' O i (.slice (some ⟨g, 0, none⟩) l.length c2))) (l.set n (L.set l[n] y)) (lay cl (n * k.sz + L.off) c) := by
      have h6 := hc'.set n hi (L.okset (hc'.get n hi) (kf.mono hext h4))
      rwa [lay_lay (by rw [hc.len]; omega) (by omega)] at h6
    refine ⟨_, by simp [execOp, ho, h1, h5, Instr.storeAt, Instr.sureAddr, hrun]; rfl, ?_⟩
    rw [hd]
    have h7 := hold_turn (E := E) (S := S) (o := { dst := none, op := o.op, type := o.type, pos := o.pos, after := o.after, guard := o.guard }) (A := top) (l := l.set n (L.set l[n] y)) (cl := lay cl (n * k.sz + L.off) c) hh t rfl undef trivial ?_ hnew
    · exact h7
    · refine ⟨?_, .inr ⟨g, c2, _, by simp, Nat.zero_le _, setRow_heap w g _ _ _ _ hg, by simpa using hnc, hcm, ?_, ?_⟩⟩
      · rw [lay_length (by rw [hc.len]; omega), hc.len]; simp
      · simp only [List.size_toArray]; rw [lay_length (by omega), hcurl]
      · rw [← htk]
        simp only [List.toList_toArray, List.length_set]
        apply List.ext_getElem?
        intro j
        rw [lay_get (by simp; omega)]
        rw [List.getElem?_take]
        by_cases hj : j < l.length * k.sz
        · rw [if_pos hj, lay_get (by omega), List.getElem?_take, if_pos hj]
        · rw [if_neg hj, if_neg (by omega), if_neg (by omega), List.getElem?_take, if_neg hj]
end rows
end Go.Wb
