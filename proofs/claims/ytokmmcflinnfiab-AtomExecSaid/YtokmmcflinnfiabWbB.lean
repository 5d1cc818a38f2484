/- WbB: a part of the proof. -/
import Derived.Test.YtokmmcflinnfiabWbA
set_option linter.unusedVariables false
set_option linter.unusedSimpArgs false
namespace Go.Wb
open Go

/-! ### How a state goes on -/
section hold
variable {C : Ctx} {S S' : St} {O O' : Nat → Nat} {a a' : Act} {w w' : World}

theorem So_ne_Ro (t i : Nat) : So t ≠ Ro i := by unfold So Ro; omega
theorem So_inj {t u : Nat} (h : So t = So u) : t = u := by unfold So at h; omega
theorem Ro_inj {t u : Nat} (h : Ro t = Ro u) : t = u := by unfold Ro at h; omega
theorem So_pos (t : Nat) : So t ≠ 0 := by unfold So; omega
theorem Ro_pos (t : Nat) : Ro t ≠ 0 := by unfold Ro; omega

/-- The world went from w to w', what is owned from O to O'; only owners in τ are touched. -/
structure Goes (C : Ctx) (τ : Nat → Prop) (O : Nat → Nat) (w : World) (O' : Nat → Nat) (w' : World) : Prop where
  os : w'.os = w.os
  tape : w'.tape = w.tape
  output : w'.output = w.output
  size : w.heap.size ≤ w'.heap.size
  same : ∀ b, b < w.heap.size → ¬ τ (O b) → O' b = O b ∧ w'.heap[b]? = w.heap[b]?
  own : ∀ b, O' b ≠ 0 → O b ≠ 0 ∨ w.heap.size ≤ b
  lt : ∀ b, O' b ≠ 0 → b < w'.heap.size
  zero : ¬ τ 0

theorem Goes.refl (C : Ctx) (O : Nat → Nat) (w : World) (h : ∀ b, O b ≠ 0 → b < w.heap.size) : Goes C none_ O w O w :=
  ⟨rfl, rfl, rfl, Nat.le_refl _, fun _ _ _ => ⟨rfl, rfl⟩, fun _ h => .inl h, h, fun h => h⟩

theorem Goes.ext {τ : Nat → Prop} (g : Goes C τ O w O' w') {o : Nat} (ho : ¬ τ o) : Ext w (fun b => C.H0 b ∨ O b ≠ 0) (fun b => O b = o) w' (fun b => C.H0 b ∨ O' b ≠ 0) (fun b => O' b = o) :=
  ⟨g.size,
   fun b hb hn => by
     have h1 : O b = 0 := Classical.byContradiction fun h => hn (.inr h)
     have h2 := g.same b hb (by rw [h1]; exact g.zero)
     refine ⟨?_, h2.2⟩
     rintro (h | h)
     · exact hn (.inl h)
     · exact h (h2.1.trans h1),
   fun b hb hm => by
     subst hm
     have h2 := g.same b hb ho
     exact ⟨h2.1, h2.2⟩⟩

theorem HoldO.goes {τ : Nat → Prop} (h : HoldO C S O a w) (g : Goes C τ O w O' w') (hd : a'.defers = a.defers) (hd' : S'.d = S.d) (hn : a'.tmps.size = a.tmps.size)
    (hs : ∀ t, (S'.s t = S.s t ∧ ¬ τ (So t) ∧ a'.tmps.getD t undef = a.tmps.getD t undef) ∨ (S'.s t).R w' (fun b => C.H0 b ∨ O' b ≠ 0) (fun b => O' b = So t) (a'.tmps.getD t undef))
    (hr : ∀ i, (S'.r i = S.r i ∧ ¬ τ (Ro i)) ∨ (S'.r i).R w' (fun b => C.H0 b ∨ O' b ≠ 0) (fun b => O' b = Ro i)) : HoldO C S' O' a' w' where
  h0 := h.h0
  os := g.os.trans h.os
  tape := g.tape.trans h.tape
  output := g.output.trans h.output
  size := Nat.le_trans h.size g.size
  old := fun b hb hx => by
    have h1 : O b = 0 := Classical.byContradiction fun hO => by
      rcases (h.own b hO).1 with h2 | h2
      · omega
      · exact hx h2
    exact (g.same b (Nat.lt_of_lt_of_le hb h.size) (by rw [h1]; exact g.zero)).2.trans (h.old b hb hx)
  own := fun b hO => ⟨by
    rcases g.own b hO with h1 | h1
    · exact (h.own b h1).1
    · exact .inl (Nat.le_trans h.size h1), g.lt b hO⟩
  dfr := by rw [hd, hd']; exact h.dfr
  n := hn.trans h.n
  slot := fun t => by
    rcases hs t with ⟨h1, h2, h3⟩ | h1
    · rw [h1, h3]
      exact (S.s t).mono (g.ext h2) (h.slot t)
    · exact h1
  res := fun i => by
    rcases hr i with ⟨h1, h2⟩ | h1
    · rw [h1]
      exact (S.r i).mono (g.ext h2) (h.res i)
    · exact h1

theorem put_size (a : Act) (d : Option Nat) (v : Value) : (a.put d v).tmps.size = a.tmps.size := by cases d <;> simp [Act.put]
theorem put_defers (a : Act) (d : Option Nat) (v : Value) : (a.put d v).defers = a.defers := by cases d <;> simp [Act.put]
theorem put_none (a : Act) (v : Value) : a.put none v = a := rfl
theorem put_same {a : Act} {d : Nat} (h : d < a.tmps.size) (v : Value) : (a.put (some d) v).tmps.getD d undef = v := by simp [Act.put, h]
theorem put_other {a : Act} {d t : Nat} (h : t ≠ d) (v : Value) : (a.put (some d) v).tmps.getD t undef = a.tmps.getD t undef := by
  simp only [Act.put, Array.getD_eq_getD_getElem?, Array.getElem?_setIfInBounds]
  rw [if_neg (fun e => h e.symm)]

theorem Ext.any {w : World} {H M : HS} : Ext w H none_ w H M := ⟨Nat.le_refl _, fun _ _ h => ⟨h, rfl⟩, fun _ _ h => h.elim⟩

/-- An operation that leaves memory alone, or adds to it what no one owns, and yields a value. -/
theorem HoldO.yield {d : Option Nat} {A : Asrt} {v : Value} (h : HoldO C S O a w) (g : Goes C none_ O w O' w') (hd : ∀ t, d = some t → t < C.N)
    (hA : A.R w' (fun b => C.H0 b ∨ O' b ≠ 0) none_ v) : HoldO C (S.put d A) O' (a.put d v) w' := by
  refine h.goes g (put_defers ..) (by cases d <;> rfl) (put_size ..) (fun t => ?_) (fun i => .inl ⟨by cases d <;> rfl, fun h => h⟩)
  cases d with
  | none => exact .inl ⟨rfl, fun h => h, rfl⟩
  | some d =>
    by_cases e : t = d
    · subst e
      right
      have hlt : t < a.tmps.size := h.n ▸ hd t rfl
      rw [put_same hlt]
      simp only [St.put, St.set, upd_same]
      exact A.mono Ext.any hA
    · exact .inl ⟨by simp only [St.put, St.set]; exact upd_other _ _ e, fun h => h, put_other e _⟩

theorem HoldO.yield_same {d : Option Nat} {A : Asrt} {v : Value} (h : HoldO C S O a w) (hd : ∀ t, d = some t → t < C.N)
    (hA : A.R w (fun b => C.H0 b ∨ O b ≠ 0) none_ v) : HoldO C (S.put d A) O (a.put d v) w :=
  h.yield (Goes.refl C O w fun b hb => (h.own b hb).2) hd hA

/-- What is known may be forgotten. -/
theorem HoldO.weak (h : HoldO C S O a w) (hd : S'.d = S.d) (hs : ∀ t, S'.s t = S.s t ∨ S'.s t = top) (hr : ∀ i, S'.r i = S.r i ∨ S'.r i = emp) : HoldO C S' O a w :=
  { h with
    dfr := by rw [hd]; exact h.dfr
    slot := fun t => by
      rcases hs t with e | e
      · rw [e]; exact h.slot t
      · rw [e]; trivial
    res := fun i => by
      rcases hr i with e | e
      · rw [e]; exact h.res i
      · rw [e]; trivial }
end hold

/-! ### One operation -/
theorem Oper.uponIn_mono {F : Fence} {n : Nat} {P : Program} {o : Oper} {a : Act} {next next' : Act → World → Prop} {Q Q' : Exit → Act → World → Prop} (hn : ∀ a w, next a w → next' a w) (hQ : ∀ e a w, Q e a w → Q' e a w)
    (r : Result Next) (h : o.uponIn F n P a next Q r) : o.uponIn F n P a next' Q' r := by
  have hl : LetsOut Q → LetsOut Q' := fun ⟨a, w, h⟩ => ⟨a, w, hQ _ _ _ h⟩
  cases r with
  | halt x w => cases x <;> first | exact h.elim | exact hQ _ _ _ h
  | ok x w =>
    cases x with
    | value v => exact hn _ _ h
    | skip => exact hn _ _ h
    | defer d => exact hn _ _ h
    | row r l => exact ⟨h.1, h.2.mono fun v w' hR => hn _ _ hR⟩
    | enter f l =>
      refine ⟨h.1, h.2.mono fun e w' hR => ?_⟩
      cases e with
      | returned v => exact hn _ _ hR
      | panicked ch => exact hQ _ _ _ hR
      | outgrown => exact hl hR
    | round l f t a' b =>
      refine ⟨h.1, h.2.mono fun e w' hR => ?_⟩
      cases e with
      | returned v => exact hn _ _ hR
      | panicked ch => exact hQ _ _ _ hR
      | outgrown => exact hl hR
    | _ => exact h.elim

def OpT (C : Ctx) (o : Oper) (S : St) (K : St → Prop) : Prop :=
  ∀ a w, Hold C S a w → o.wpIn C.fen 0 C.P a w (fun a' w' => ∃ S', K S' ∧ Hold C S' a' w') (fun _ _ _ => False)

/-- One after the other, a region's operations. -/
def wpL (C : Ctx) (ops : Array Oper) (Q : Exit → Act → World → Prop) : List Oper → Act → World → Prop
  | [], a, w => Q .normal a w
  | o :: rest, a, w => if Region.wanted o (yielded ops a.tmps) then o.wpIn C.fen 0 C.P a w (wpL C ops Q rest) Q else wpL C ops Q rest (a.put o.dst undef) w

theorem wpOpsIn_of_wpL {C : Ctx} {ops : Array Oper} {Q : Exit → Act → World → Prop} : ∀ (l : List Oper) (idx : List Nat) (a : Act) (w : World), idx.map (fun i => ops[i]?) = l.map some → wpL C ops Q l a w →
    wpOpsIn C.fen 0 C.P ops Q idx a w
  | [], [], a, w, _, h => h
  | [], _ :: _, _, _, e, _ => by simp at e
  | _ :: _, [], _, _, e, _ => by simp at e
  | o :: l, i :: idx, a, w, e, h => by
    simp only [List.map_cons, List.cons.injEq] at e
    simp only [wpOpsIn, e.1]
    simp only [wpL] at h
    split
    · rename_i hw
      rw [if_pos hw] at h
      exact ⟨h.1, Oper.uponIn_mono (fun a w h => wpOpsIn_of_wpL l idx a w e.2 h) (fun _ _ _ h => h) _ h.2⟩
    · rename_i hw
      rw [if_neg hw] at h
      exact ⟨fun f _ => trivial, wpOpsIn_of_wpL l idx _ w e.2 h⟩

def AOps (C : Ctx) (ops : Array Oper) (Q : Exit → St → Prop) (l : List Oper) (S : St) : Prop :=
  ∀ a w, Hold C S a w → wpL C ops (fun e a w => ∃ S', Q e S' ∧ Hold C S' a w) l a w

section ops
variable {C : Ctx} {ops : Array Oper} {Q : Exit → St → Prop} {S : St}

theorem range_map (ops : Array Oper) : (List.range ops.size).map (fun i => ops[i]?) = ops.toList.map some := by
  apply List.ext_getElem
  · simp
  · intro i h1 h2
    simp at h1
    simp [h1]

theorem AW.region {id : Nat} (h : AOps C ops Q ops.toList S) : AW C (.region id ops false) Q S :=
  fun a w hh => wpIn_region (wpOpsIn_of_wpL _ _ a w (range_map ops) (h a w hh))

theorem AOps.nil (h : Q .normal S) : AOps C ops Q [] S := fun a w hh => ⟨S, h, hh⟩

theorem wanted_none {o : Oper} {y : Nat → Option Bool} (h : o.guard = none) : Region.wanted o y = true := by simp [Region.wanted, h]

theorem AOps.consT {o : Oper} {l : List Oper} {K : St → Prop} (hg : o.guard = none) (h : OpT C o S K) (hK : ∀ S', K S' → AOps C ops Q l S') : AOps C ops Q (o :: l) S := by
  intro a w hh
  simp only [wpL, wanted_none hg, if_true]
  exact ⟨(h a w hh).1, Oper.uponIn_mono (fun a' w' ⟨S', h1, h2⟩ => hK S' h1 a' w' h2) (fun _ _ _ h => h.elim) _ (h a w hh).2⟩

/-- One operation from one state to another. -/
def OpE (C : Ctx) (o : Oper) (S S' : St) : Prop := OpT C o S (fun T => T = S')
theorem AOps.cons {o : Oper} {l : List Oper} {S' : St} (h : OpE C o S S') (hg : o.guard = none) (hK : AOps C ops Q l S') : AOps C ops Q (o :: l) S :=
  AOps.consT hg h fun _ e => e ▸ hK

theorem AW.weak {c : Code} {S' : St} (hd : S'.d = S.d) (hs : ∀ t, S'.s t = S.s t ∨ S'.s t = top) (hr : ∀ i, S'.r i = S.r i ∨ S'.r i = emp) (h : AW C c Q S') : AW C c Q S :=
  fun a w ⟨O, hh⟩ => h a w ⟨O, hh.weak hd hs hr⟩
end ops
end Go.Wb
