/- WbI: a part of the proof. -/
import Derived.Test.YtokmmcflinnfiabWbH
import Derived.Maps.AppendAt
import Derived.Laws.Slices
set_option linter.unusedVariables false
set_option linter.unusedSimpArgs false
namespace Go.Wb
open Go

section rows
variable {C : Ctx} {S S' : St} {o : Oper} {α β : Type}

theorem raw_eq {v u : Value} {w : World} {H M : HS} (h : (raw v).R w H M u) : u = v := h

/-- What is owned by number i has grown, or turned, and nothing else. -/
structure Turns (O : Nat → Nat) (i : Nat) (w : World) (v v' : Value) (w' : World) : Prop where
  g : w.grownBy w' v.ownBlock
  m : ∀ b, v.ownBlock = some b → O b = Ro i
  n : v'.ownBlock = v.ownBlock ∨ v'.ownBlock = some w.heap.size
  l : ∀ b, v'.ownBlock = some b → b < w'.heap.size

def own' (O : Nat → Nat) (i : Nat) (v' : Value) : Nat → Nat := fun b => if v'.ownBlock = some b then Ro i else O b

theorem Turns.notin {O : Nat → Nat} {i : Nat} {w w' : World} {v v' : Value} (t : Turns O i w v v' w') {b : Nat} (hb : b < w.heap.size) (ho : O b ≠ Ro i) : v'.ownBlock ≠ some b ∧ some b ≠ v.ownBlock := by
  refine ⟨fun h => ?_, fun h => ho (t.m b h.symm)⟩
  rcases t.n with e | e
  · exact ho (t.m b (e.symm.trans h))
  · rw [e] at h; have := Option.some.inj h; omega
theorem Turns.goes {O : Nat → Nat} {a : Act} {i : Nat} {w w' : World} {v v' : Value} (hh : HoldO C S O a w) (t : Turns O i w v v' w') : Goes C (fun q => q = Ro i) O w (own' O i v') w' where
  os := t.g.os
  tape := t.g.tape
  output := t.g.output
  size := t.g.size
  same := fun b hb hq => by
    have := t.notin hb hq
    exact ⟨if_neg this.1, t.g.block b hb this.2⟩
  own := fun b h => by
    unfold own' at h
    split at h
    · rename_i e
      rcases t.n with e' | e'
      · left; rw [t.m b (e'.symm.trans e)]; exact Ro_pos i
      · right; rw [e'] at e; have := Option.some.inj e; omega
    · exact .inl h
  lt := fun b h => by
    unfold own' at h
    split at h
    · rename_i e; exact t.l b e
    · exact Nat.lt_of_lt_of_le (hh.own b h).2 t.g.size
  zero := fun h => Ro_pos i h.symm
theorem Turns.ext {O : Nat → Nat} {i : Nat} {w w' : World} {v v' : Value} (t : Turns O i w v v' w') : Ext w (hid C O) none_ w' (hid C (own' O i v')) none_ :=
  ⟨t.g.size, fun b hb hn => by
    have h0 : O b = 0 := Classical.byContradiction fun h => hn (.inr h)
    have := t.notin hb (by rw [h0]; exact fun h => Ro_pos i h.symm)
    refine ⟨?_, t.g.block b hb this.2⟩
    rintro (h | h)
    · exact hn (.inl h)
    · unfold own' at h; rw [if_neg this.1] at h; exact h h0, fun _ _ h => h.elim⟩

/-- The state behind a turn of what number i owns. -/
theorem hold_turn {O : Nat → Nat} {a : Act} {i : Nat} {w w' : World} {v v' : Value} {E : TypeId} {k : Kd α} {l : List α} {cl : List Value} {A : Asrt} (hh : HoldO C S O a w) (t : Turns O i w v v' w') (hd : dok o C.N = true) (u : Value) (hA : A.R w' (hid C (own' O i v')) none_ u)
    (ho : w'.ownsRow 0 E k.sz v' l.length cl) (hc : Cells k w' (hid C (own' O i v')) l cl) : Hold C ((S.put o.dst A).setr i (Row v' E k l)) (a.put o.dst u) w' := by
  refine ⟨own' O i v', hh.goes (t.goes hh) (put_defers ..) (by cases o.dst <;> rfl) (put_size ..) (fun s => ?_) (fun j => ?_)⟩
  · cases hdst : o.dst with
    | none => exact .inl ⟨rfl, So_ne_Ro s i, rfl⟩
    | some d =>
      by_cases e : s = d
      · subst e
        right
        have hlt : s < a.tmps.size := hh.n ▸ dok_lt hd s hdst
        rw [put_same hlt]
        simp only [St.put, St.set, St.setr, upd_same]
        exact A.mono Ext.any hA
      · exact .inl ⟨by simp only [St.put, St.set, St.setr]; exact upd_other _ _ e, So_ne_Ro s i, put_other e _⟩
  · by_cases e : j = i
    · subst e
      right
      simp only [St.setr, upd_same]
      exact ⟨cl, ho, hc, fun b hb => if_pos hb⟩
    · exact .inl ⟨by simp only [St.setr]; rw [upd_other _ _ e]; cases o.dst <;> rfl, fun h => e (Ro_inj h)⟩

/-- The type of what is appended: its size in bytes is small. -/
structure El {α : Type} (P : Program) (T E : TypeId) (k : Kd α) : Prop where
  u : P.underlying T = some (.slice E)
  sz : (P.info? E).map (·.size) = some k.sz
  by_ : (P.info? E).map (fun i => Nat.ble i.bytes 32768) = some true
  zr : (P.info? E).map (fun i => (i.zero.map fun z => z.cells.size)) = some (some k.sz)
  pos : Nat.blt 0 k.sz = true

/-- So many elements at most are in a list that grows. -/
def lim : Nat := 4294967296

theorem run_append_sl {P : Program} {w : World} {H : HS} {T E ty : TypeId} {k : Kd α} {l m : List α} {v u : Value} {cl : List Value} (he : El P T E k) (ho : w.ownsRow 0 E k.sz v l.length cl) (hu : SlC k w H m u) (hl : l.length + m.length ≤ lim) :
    ∃ v' w' ml, (Builtin.append_ #[T, T] ty #[v, u]).run P w = .ok v' w' ∧ w'.ownsRow 0 E k.sz v' (l.length + m.length) (cl ++ ml) ∧ (0 < m.length → Cells k w H m ml) ∧ (m = [] → ml = []) ∧ w.grownBy w' v.ownBlock ∧ (v'.ownBlock = v.ownBlock ∨ v'.ownBlock = some w.heap.size) := by
  obtain ⟨A, c, rfl, hmc, hc63, hcells⟩ := hu
  obtain ⟨i, hi, hs⟩ := Option.map_eq_some_iff.1 he.sz
  obtain ⟨i', hi', hby⟩ := Option.map_eq_some_iff.1 he.by_
  obtain rfl : i = i' := by rw [hi] at hi'; exact Option.some.inj hi'
  obtain ⟨i', hi', hz⟩ := Option.map_eq_some_iff.1 he.zr
  obtain rfl : i = i' := by rw [hi] at hi'; exact Option.some.inj hi'
  obtain ⟨z, hz1, hz2⟩ := Option.map_eq_some_iff.1 hz
  have hby' : i.bytes ≤ 32768 := Nat.le_of_ble_eq_true hby
  have hpos : 0 < k.sz := by have := he.pos; simpa using this
  by_cases h0 : m.length = 0
  · have hm0 : m = [] := List.eq_nil_of_length_eq_zero h0
    subst hm0
    have hrun : (Builtin.append_ #[T, T] ty #[v, .slice A ([] : List α).length c]).run P w = .ok v w := by
      rcases ho.2 with ⟨rfl, hn⟩ | ⟨g, cap, cur, rfl, _, _, hnc, _⟩
      · cases A <;> simp [Builtin.append_, run_underlying he.u, sizeOf, typeInfo, hi, Builtin.lenOf, Builtin.firstCells, loadCells, loadCellsFrom]
      · cases A <;> simp [Builtin.append_, run_underlying he.u, sizeOf, typeInfo, hi, Builtin.lenOf, Builtin.firstCells, hnc, storeCells, loadCells, loadCellsFrom]
    exact ⟨v, w, [], hrun, by simpa using ho, fun h => absurd h (by simp), fun _ => rfl, ⟨rfl, rfl, rfl, Nat.le_refl _, fun _ _ _ => rfl⟩, .inl rfl⟩
  · obtain ⟨b, off, ml, rfl, hb, hn, hc, hat⟩ := hcells (by omega)
    have hlen := hc.len
    obtain ⟨v', w', h1, h2, h3, _, h5⟩ := run_append_own_at (P := P) w 0 T ty E i z k.sz i.bytes he.u hi hz1 hs rfl hz2 hpos v l.length cl ho ⟨b, off, none⟩ m.length c ml hlen (fun j u hu => by rw [add_at]; exact hat j u hu) hc.one
      (by have : lim = 4294967296 := rfl; simp only [maxLen]; omega) (Nat.le_trans (Nat.mul_le_mul hl hby') (by decide)) (Nat.zero_le _)
    exact ⟨v', w', ml, h1, h2, fun _ => hc, fun e => by subst e; simp at h0, h3, h5⟩

/-- append to an own slice -/
theorem op_append {T E : TypeId} {k : Kd α} {l m : List α} {v : Value} {p q : Operand} (i : Nat) (ho : o.op = .call { callee := .builtin .append, args := #[p, q], argTypes := #[T, T] }) (hd : dok o C.N = true) (he : El C.P T E k) (hp : Val C S p (raw v)) (hr : S.r i = Row v E k l) (hq : Val C S q (rd (ksl k) m)) (hl : l.length + m.length ≤ lim) :
    OpT C o S (fun S' => ∃ v', S' = (S.put o.dst (raw v')).setr i (Row v' E k (l ++ m))) :=
  OpT.value (by simp [ho]) fun O a w hh => by
    have h1 := raw_eq (hp.of hh)
    have h2 := rd_sl (hq.of hh)
    have h3 := hh.res i
    rw [hr] at h3
    obtain ⟨cl, hown, hc, hm⟩ := h3
    obtain ⟨v', w', ml, h4, h5, h6, h7, h8, h9⟩ := run_append_sl (ty := o.type) he hown h2 hl
    have t : Turns O i w v v' w' := ⟨h8, hm, h9, fun b hb => (h5.lt b hb).2⟩
    have hc' := hc.mono (t.ext (C := C))
    refine ⟨v', w', _, ?_, ⟨v', rfl⟩, hold_turn hh t hd v' rfl (cl := cl ++ ml) (by rw [List.length_append]; exact h5) (hc'.append ?_)⟩
    · simp only [execOp, ho, resolve, invoke, builtin, Sem.run_bind, Sem.run_pure, Result.andThen_ok, List.map_toArray, List.map_cons, List.map_nil, h1, h4]
    · by_cases e : m.length = 0
      · have e' := List.eq_nil_of_length_eq_zero e
        subst e'
        rw [h7 rfl]; rfl
      · exact (h6 (by omega)).mono t.ext

/-- An own slice of nothing is at hand at any time. -/
theorem HoldO.newnil {O : Nat → Nat} {a : Act} {w : World} (hh : HoldO C S O a w) (i : Nat) (E : TypeId) (k : Kd α) : HoldO C (S.setr i (Row (.slice none 0 0) E k [])) O a w :=
  { hh with
    dfr := hh.dfr
    slot := hh.slot
    res := fun j => by
      by_cases e : j = i
      · subst e
        simp only [St.setr, upd_same]
        exact ⟨[], World.ownsRow_nil _ _ _ _, rfl, fun b h => by simp [Value.ownBlock] at h⟩
      · simp only [St.setr]; rw [upd_other _ _ e]; exact hh.res j }
theorem AOps.newnil {ops : Array Oper} {Q : Exit → St → Prop} {l : List Oper} (i : Nat) (E : TypeId) (k : Kd α) (h : AOps C ops Q l (S.setr i (Row (.slice none 0 0) E k []))) : AOps C ops Q l S :=
  fun a w ⟨O, hh⟩ => h a w ⟨O, hh.newnil i E k⟩
theorem AW.newnil {c : Code} {Q : Exit → St → Prop} (i : Nat) (E : TypeId) (k : Kd α) (h : AW C c Q (S.setr i (Row (.slice none 0 0) E k []))) : AW C c Q S :=
  fun a w ⟨O, hh⟩ => h a w ⟨O, hh.newnil i E k⟩

/-- What was owned is read from now on. -/
theorem row_sl {w : World} {H H' : HS} {E : TypeId} {k : Kd α} {l : List α} {v : Value} {cl : List Value} (ho : w.ownsRow 0 E k.sz v l.length cl) (hc : Cells k w H l cl) (hn : ∀ b, v.ownBlock = some b → ¬ H b) : SlC k w H l v := by
  rcases ho.2 with ⟨rfl, h0⟩ | ⟨g, cap, cur, rfl, hb, hg, hnc, hcm, hcs, htk⟩
  · have hl0 : l = [] := List.eq_nil_of_length_eq_zero h0
    subst hl0
    exact ⟨none, 0, rfl, by simp, by simp, fun h => absurd h (by simp)⟩
  · refine ⟨some ⟨g, 0, none⟩, cap, rfl, hnc, by simpa [maxLen] using hcm, fun _ => ⟨g, 0, cl, rfl, (Array.getElem?_eq_some_iff.1 hg).1, hn g rfl, hc, ?_⟩⟩
    have := ho.cells (g := g) rfl
    intro j u hu
    have := this j u hu
    rwa [add_at] at this

theorem Hold.freeze {a : Act} {w : World} {t i : Nat} {E : TypeId} {k : Kd α} {l : List α} {v : Value} (hX : C.X = none_) (hs : S.s t = raw v) (hr : S.r i = Row v E k l) (hh : Hold C S a w) : Hold C ((S.set t (rd (ksl k) l)).setr i emp) a w := by
  obtain ⟨O, hh⟩ := hh
  have h3 := hh.res i
  rw [hr] at h3
  obtain ⟨cl, hown, hc, hm⟩ := h3
  have h1 : a.tmps.getD t undef = v := raw_eq (by have := hh.slot t; rwa [hs] at this)
  let O' : Nat → Nat := fun b => if O b = Ro i then 0 else O b
  have hO : ∀ b, O' b ≠ 0 → O b ≠ 0 ∧ O' b = O b := fun b h => by
    by_cases e : O b = Ro i
    · exact absurd (if_pos e) h
    · exact ⟨fun e0 => h (by simp only [O']; rw [if_neg e, e0]), if_neg e⟩
  have hext : Ext w (hid C O) none_ w (hid C O') none_ := ⟨Nat.le_refl _, fun b _ hn => ⟨fun h => hn (h.imp id fun h => (hO b h).1), rfl⟩, fun _ _ h => h.elim⟩
  have go : Goes C (fun q => q = Ro i) O w O' w := ⟨rfl, rfl, rfl, Nat.le_refl _, fun b hb hq => ⟨if_neg hq, rfl⟩, fun b h => .inl (hO b h).1, fun b h => (hh.own b (hO b h).1).2, fun h => Ro_pos i h.symm⟩
  refine ⟨O', hh.goes go rfl rfl rfl (fun s => ?_) (fun j => ?_)⟩
  · by_cases e : s = t
    · subst e
      right
      simp only [St.set, St.setr, upd_same]
      rw [h1]
      refine sl_rd (row_sl (H' := none_) hown (hc.mono hext) fun b hb => ?_)
      rintro (h | h)
      · have h5 := hm b hb
        have h6 := (hh.own b (by rw [h5]; exact Ro_pos i)).1
        rw [hX] at h6
        have h7 := hh.h0 b h
        rcases h6 with h6 | h6
        · omega
        · exact h6
      · exact h (if_pos (hm b hb))
    · exact .inl ⟨by simp only [St.set, St.setr]; exact upd_other _ _ e, So_ne_Ro s i, rfl⟩
  · by_cases e : j = i
    · subst e
      right
      simp only [St.setr, upd_same]
      trivial
    · exact .inl ⟨by simp only [St.setr]; rw [upd_other _ _ e]; rfl, fun h => e (Ro_inj h)⟩
theorem AOps.freeze {ops : Array Oper} {Q : Exit → St → Prop} {c : List Oper} (t i : Nat) {E : TypeId} {k : Kd α} {l : List α} {v : Value} (hX : C.X = none_) (hs : S.s t = raw v) (hr : S.r i = Row v E k l) (h : AOps C ops Q c ((S.set t (rd (ksl k) l)).setr i emp)) : AOps C ops Q c S :=
  fun a w hh => h a w (hh.freeze hX hs hr)
theorem AW.freeze {Q : Exit → St → Prop} {c : Code} (t i : Nat) {E : TypeId} {k : Kd α} {l : List α} {v : Value} (hX : C.X = none_) (hs : S.s t = raw v) (hr : S.r i = Row v E k l) (h : AW C c Q ((S.set t (rd (ksl k) l)).setr i emp)) : AW C c Q S :=
  fun a w hh => h a w (hh.freeze hX hs hr)

end rows
end Go.Wb
