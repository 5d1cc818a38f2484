/- WbF: a part of the proof. -/
import Derived.Test.YtokmmcflinnfiabWbE
import Derived.RangeFuncRecord
set_option linter.unusedVariables false
set_option linter.unusedSimpArgs false
namespace Go.Wb
open Go

/-! ### Contracts -/
structure Fin (w : World) (X : HS) (w' : World) (X' : HS) : Prop where
  os : w'.os = w.os
  tape : w'.tape = w.tape
  output : w'.output = w.output
  size : w.heap.size ≤ w'.heap.size
  same : ∀ b, b < w.heap.size → ¬ X b → w'.heap[b]? = w.heap[b]?
  own : ∀ b, X' b → (X b ∨ w.heap.size ≤ b) ∧ b < w'.heap.size

def Args (w : World) (H : HS) : List Asrt → List Value → Prop
  | [], [] => True
  | A :: As, v :: vs => A.R w H none_ v ∧ Args w H As vs
  | _, _ => False

def join (H X : HS) : HS := fun b => H b ∨ X b

/-- What a function does: with arguments and owned memory like these it comes back with a result and owned memory like those. -/
def Con (P : Program) (f : FuncId) (As : List Asrt) (R : Res) {ζ : Type} (B : ζ → Asrt) (R' : ζ → Res) : Prop :=
  ∀ w H X vs, (∀ b, H b → b < w.heap.size) → (∀ b, X b → H b ∧ b < w.heap.size) → Args w H As vs → R.R w H X → Calls P f vs.toArray w (fun e w' => ∃ v z X', e = .returned v ∧ Fin w X w' X' ∧ (B z).R w' (join H X') none_ v ∧ (R' z).R w' (join H X') X')

/-- A function that only makes a value. -/
def PCon (P : Program) (f : FuncId) (As : List Asrt) (B : Asrt) : Prop :=
  ∀ w H vs, (∀ b, H b → b < w.heap.size) → Args w H As vs → Calls P f vs.toArray w (fun e w' => ∃ v, e = .returned v ∧ Fin w none_ w' none_ ∧ B.R w' H none_ v)

theorem callsIn_fen {ro : Option Nat} {n : Nat} {P : Program} {f : FuncId} {args : Array Value} {w : World} {R : Ending → World → Prop} (h : Calls P f args w R) : CallsIn { Fence.wide with round := ro } n P f args w R :=
  ⟨trivial, fun cs _ => let ⟨e, w', fr, r, s, x⟩ := h cs; ⟨e, w', fr, r, comesIn_wide.2 s, x⟩⟩

def Vals (C : Ctx) (S : St) : List Operand → List Asrt → Prop
  | [], [] => True
  | x :: xs, A :: As => Val C S x A ∧ Vals C S xs As
  | _, _ => False

theorem Vals.args {C : Ctx} {S : St} {O : Nat → Nat} {a : Act} {w : World} (hh : HoldO C S O a w) : ∀ {xs : List Operand} {As : List Asrt}, Vals C S xs As → Args w (hid C O) As (xs.map a.eval)
  | [], [], _ => trivial
  | _ :: _, _ :: _, ⟨h1, h2⟩ => ⟨h1.of hh, Vals.args hh h2⟩
  | [], _ :: _, h => h.elim
  | _ :: _, [], h => h.elim

/-- A function that is entered when it is called. -/
def Ent (P : Program) (f : FuncId) : Prop := ∀ args w, (callFunc f args).run P w = .ok (.enter f args) w

theorem Ent.mk {P : Program} {f : FuncId} {fn : Func} (hf : P.funcs[f]? = some fn) (hb : fn.body.isSome = true) (hn : (fn.name == "runtime.NumGoroutine") = false) : Ent P f := fun args w => by
  have hnone : fn.body.isNone = false := by cases h : fn.body <;> simp_all
  unfold callFunc
  simp only [Sem.run_bind, run_program, Result.andThen_ok, hf, hn, hnone, Bool.false_eq_true, if_false, Sem.run_pure]

section calls
variable {C : Ctx} {S S' : St} {o : Oper}

theorem HoldO.hid_lt {O : Nat → Nat} {a : Act} {w : World} (hh : HoldO C S O a w) : ∀ b, hid C O b → b < w.heap.size := fun b h => h.elim (fun h => Nat.lt_of_lt_of_le (hh.h0 b h) hh.size) (fun h => (hh.own b h).2)

theorem Args.mono {w w' : World} {H H' : HS} (e : Ext w H none_ w' H' none_) : ∀ {As : List Asrt} {vs : List Value}, Args w H As vs → Args w' H' As vs
  | [], [], _ => trivial
  | A :: _, _ :: _, ⟨h1, h2⟩ => ⟨A.mono e h1, Args.mono e h2⟩
  | [], _ :: _, h => h.elim
  | _ :: _, [], h => h.elim

theorem op_call {f : FuncId} {xs : List Operand} {ts : Array TypeId} {As : List Asrt} {B : Asrt} (hc : PCon C.P f As B) (he : Ent C.P f) (ho : o.op = .call { callee := .value (.func f), args := xs.toArray, argTypes := ts }) (hd : dok o C.N = true) (hv : Vals C S xs As) :
    OpE C o S (S.put o.dst B) := by
  rintro a w ⟨O, hh⟩
  refine ⟨fun _ _ => trivial, ?_⟩
  have hrun : (execOp a.eval o).run C.P w = .ok (.enter f (xs.map a.eval).toArray) w := by
    simp only [execOp, ho, resolve, Act.eval, Deferred.ofValue, Sem.run_bind, Sem.run_pure, Result.andThen_ok, invoke]
    simpa using he _ w
  rw [Oper.semAt_eq _ _ _ (by simp [ho]), hrun]
  refine ⟨fun h => by simp [Ctx.fen, Fence.wide] at h, callsIn_fen ?_⟩
  refine (hc w (hid C O) _ hh.hid_lt (hv.args hh)).mono ?_
  rintro e w' ⟨v, rfl, hf, hB⟩
  refine ⟨_, rfl, O, hh.yield ⟨hf.os, hf.tape, hf.output, hf.size, fun b hb _ => ⟨rfl, hf.same b hb (fun h => h)⟩, fun b h => .inl h, fun b h => Nat.lt_of_lt_of_le (hh.own b h).2 hf.size, fun h => h⟩ (dok_lt hd) hB⟩

theorem op_callR {f : FuncId} {xs : List Operand} {ts : Array TypeId} {As : List Asrt} {R : Res} {ζ : Type} {B : ζ → Asrt} {R' : ζ → Res} (i : Nat) (hc : Con C.P f As R B R') (he : Ent C.P f) (ho : o.op = .call { callee := .value (.func f), args := xs.toArray, argTypes := ts }) (hd : dok o C.N = true) (hv : Vals C S xs As)
    (hr : S.r i = R) : OpT C o S (fun S' => ∃ z, S' = (S.put o.dst (B z)).setr i (R' z)) := by
  rintro a w ⟨O, hh⟩
  refine ⟨fun _ _ => trivial, ?_⟩
  have hrun : (execOp a.eval o).run C.P w = .ok (.enter f (xs.map a.eval).toArray) w := by
    simp only [execOp, ho, resolve, Act.eval, Deferred.ofValue, Sem.run_bind, Sem.run_pure, Result.andThen_ok, invoke]
    simpa using he _ w
  rw [Oper.semAt_eq _ _ _ (by simp [ho]), hrun]
  refine ⟨fun h => by simp [Ctx.fen, Fence.wide] at h, callsIn_fen ?_⟩
  have hres := hh.res i
  rw [hr] at hres
  refine (hc w (hid C O) (fun b => O b = Ro i) _ hh.hid_lt (fun b hb => ⟨.inr (by rw [hb]; exact Ro_pos i), (hh.own b (by rw [hb]; exact Ro_pos i)).2⟩) (hv.args hh) hres).mono ?_
  rintro e w' ⟨v, z, X', rfl, hf, hB, hR⟩
  classical
  let O' : Nat → Nat := fun b => if X' b then Ro i else O b
  have hO : ∀ b, X' b → O' b = Ro i := fun b h => if_pos h
  have hO2 : ∀ b, ¬ X' b → O' b = O b := fun b h => if_neg h
  have hj : Ext w' (join (hid C O) X') none_ w' (hid C O') none_ := by
    refine ⟨Nat.le_refl _, fun b _ hn => ⟨?_, rfl⟩, fun _ _ h => h.elim⟩
    rintro (h | h)
    · exact hn (.inl (.inl h))
    · by_cases hx : X' b
      · exact hn (.inr hx)
      · rw [hO2 b hx] at h; exact hn (.inl (.inr h))
  have go : Goes C (fun q => q = Ro i) O w O' w' := by
    refine ⟨hf.os, hf.tape, hf.output, hf.size, fun b hb hq => ?_, fun b h => ?_, fun b h => ?_, fun h => Ro_pos i h.symm⟩
    · have hnx : ¬ X' b := fun hx => by
        rcases (hf.own b hx).1 with h1 | h1
        · exact hq h1
        · omega
      exact ⟨hO2 b hnx, hf.same b hb hq⟩
    · by_cases hx : X' b
      · rcases (hf.own b hx).1 with h1 | h1
        · left; rw [h1]; exact Ro_pos i
        · exact .inr h1
      · rw [hO2 b hx] at h; exact .inl h
    · by_cases hx : X' b
      · exact (hf.own b hx).2
      · rw [hO2 b hx] at h; exact Nat.lt_of_lt_of_le (hh.own b h).2 hf.size
  refine ⟨_, ⟨z, rfl⟩, O', hh.goes go (put_defers ..) (by cases o.dst <;> rfl) (put_size ..) (fun t => ?_) (fun j => ?_)⟩
  · cases hdst : o.dst with
    | none => exact .inl ⟨rfl, So_ne_Ro t i, rfl⟩
    | some d =>
      by_cases e : t = d
      · subst e
        right
        have hlt : t < a.tmps.size := hh.n ▸ dok_lt hd t hdst
        rw [put_same hlt]
        simp only [St.put, St.set, St.setr, upd_same]
        exact (B z).mono Ext.any ((B z).mono hj hB)
      · exact .inl ⟨by simp only [St.put, St.set, St.setr]; exact upd_other _ _ e, So_ne_Ro t i, put_other e _⟩
  · by_cases e : j = i
    · subst e
      right
      simp only [St.setr, upd_same]
      exact (R' z).mono ⟨hj.size, hj.vis, fun b _ hx => ⟨hO b hx, rfl⟩⟩ hR
    · exact .inl ⟨by simp only [St.setr]; rw [upd_other _ _ e]; cases o.dst <;> rfl, fun h => e (Ro_inj h)⟩

/-- What is owned by the one who got it may be read by all from then on. -/
theorem PCon.of_row {α : Type} {P : Program} {f : FuncId} {As : List Asrt} {E : TypeId} {k : Kd α} {l : List α} (h : Con P f As emp (fun v : Value => raw v) (fun v => Row v E k l)) : PCon P f As (rd (ksl k) l) := by
  intro w H vs hH hA
  refine (h w H none_ vs hH (fun _ h => h.elim) hA trivial).mono ?_
  rintro e w' ⟨v, z, X', rfl, hf, hB, cl, ho, hc, hm⟩
  have hv : v = z := hB
  subst hv
  refine ⟨v, rfl, ⟨hf.os, hf.tape, hf.output, hf.size, hf.same, fun b h => h.elim⟩, sl_rd ?_⟩
  rcases ho.2 with ⟨rfl, h0⟩ | ⟨g, cap, cur, rfl, hb, hg, hn, hcm, hcs, htk⟩
  · have hl0 : l = [] := List.eq_nil_of_length_eq_zero h0
    subst hl0
    exact ⟨none, 0, rfl, by simp, by simp, fun h => absurd h (by simp)⟩
  · refine ⟨some ⟨g, 0, none⟩, cap, rfl, hn, by simpa [maxLen] using hcm, fun _ => ⟨g, 0, cl, rfl, (Array.getElem?_eq_some_iff.1 hg).1, ?_, hc.mono ⟨Nat.le_refl _, fun b _ hj => ⟨fun hh => hj (.inl hh), rfl⟩, fun _ _ h => h.elim⟩, ?_⟩⟩
    · intro hH'
      have hx := hm g rfl
      rcases (hf.own g hx).1 with h1 | h1
      · exact h1.elim
      · have := hH g hH'; omega
    · have := ho.cells (g := g) rfl
      intro j u hu
      have := this j u hu
      rwa [add_at] at this

/-! ### A function out of its body -/
def St.init (As : List Asrt) (R : Res) : St := ⟨fun t => (As[t]?).getD top, fun i => match i with | 0 => R | _ => emp, []⟩

/-- What is handed back. -/
def RetOK (C : Ctx) (fn : Func) (S : St) {ζ : Type} (B : ζ → Asrt) (R' : ζ → Res) : Prop :=
  S.d = [] ∧ ∀ O a w, HoldO C S O a w → ∃ v z, ∃ X' : HS, (results fn a.tmps).run C.P w = .ok v w ∧ (∀ b, X' b → O b ≠ 0) ∧ (B z).R w (join C.H0 X') none_ v ∧ (R' z).R w (join C.H0 X') X'

/-- A loop's block of deferred calls is an owned thing. -/
def Dfr (D : Nat) : Res := ⟨fun w _ M => M D ∧ w.heap[D]? = some (.deferred (some [])), fun h ⟨h1, h2⟩ => let ⟨a, b⟩ := h.own D (Array.getElem?_eq_some_iff.1 h2).1 h1; ⟨a, b.trans h2⟩⟩

/-- The loops' marks are taken down, then it is handed back. -/
def RetD (C : Ctx) (fn : Func) {ζ : Type} (B : ζ → Asrt) (R' : ζ → Res) : List Nat → St → Prop
  | [], S => RetOK C fn S B R'
  | D :: ds, S => S.d = D :: ds ∧ ∃ i, S.r i = Dfr D ∧ RetD C fn B R' ds ⟨S.s, upd S.r i emp, ds⟩

def endQ (C : Ctx) (fn : Func) {ζ : Type} (B : ζ → Asrt) (R' : ζ → Res) : Exit → St → Prop
  | .normal, S => RetD C fn B R' S.d S
  | .ret, S => RetD C fn B R' S.d S
  | _, _ => False

theorem Hold.take {a : Act} {w : World} {D : Nat} {ds : List Nat} {i : Nat} (hd : S.d = D :: ds) (hr : S.r i = Dfr D) (hh : Hold C S a w) :
    (Instr.takeDeferred D).run C.P w = .ok [] (w.putObj D (.deferred none)) ∧ Hold C ⟨S.s, upd S.r i emp, ds⟩ { a with defers := marks ds } (w.putObj D (.deferred none)) := by
  obtain ⟨O, hh⟩ := hh
  have h1 := hh.res i
  rw [hr] at h1
  obtain ⟨hm, hD⟩ := h1
  have hOD : O D = Ro i := hm
  refine ⟨run_takeDeferred hD, O, ?_⟩
  have go : Goes C (fun q => q = Ro i) O w O (w.putObj D (.deferred none)) :=
    ⟨rfl, rfl, rfl, by simp, fun b hb hq => ⟨rfl, World.putObj_heap_other (fun e => hq (e ▸ hOD))⟩, fun b h => .inl h, fun b h => by have := (hh.own b h).2; simpa using this, fun h => Ro_pos i h.symm⟩
  have h2 := hh.goes (S' := ⟨S.s, upd S.r i emp, S.d⟩) (a' := a) go rfl rfl rfl (fun t => .inl ⟨rfl, So_ne_Ro t i, rfl⟩) (fun j => by
    by_cases e : j = i
    · subst e; right
      show (upd S.r j emp j).R _ _ _
      rw [upd_same]; trivial
    · exact .inl ⟨upd_other _ _ e, fun h => e (Ro_inj h)⟩)
  exact { h2 with dfr := rfl, n := h2.n, slot := h2.slot, res := h2.res }
end calls

theorem body_calls {P : Program} {f : FuncId} {fn : Func} {c : Code} {N : Nat} {As : List Asrt} {R : Res} {ζ : Type} {B : ζ → Asrt} {R' : ζ → Res} (hf : P.funcs[f]? = some fn) (hb : fn.body = some c) (hN : fn.ntmps = N) (hA : Nat.ble As.length N = true)
    {w : World} {H X : HS} {vs : List Value} (hH : ∀ b, H b → b < w.heap.size) (hX : ∀ b, X b → H b ∧ b < w.heap.size) (hargs : Args w H As vs) (hR : R.R w H X) (h : AW ⟨P, none, N, w, H, X⟩ c (endQ ⟨P, none, N, w, H, X⟩ fn B R') (St.init As R)) :
    Calls P f vs.toArray w (fun e w' => ∃ v z X', e = .returned v ∧ Fin w X w' X' ∧ (B z).R w' (join H X') none_ v ∧ (R' z).R w' (join H X') X') := by
  classical
  have hlen : ∀ {As : List Asrt} {vs : List Value}, Args w H As vs → vs.length = As.length := by
    intro As
    induction As with
    | nil => intro vs h; cases vs with | nil => rfl | cons => exact h.elim
    | cons A As ih => intro vs h; cases vs with | nil => exact h.elim | cons v vs => simp [ih h.2]
  refine callsIn_wide.1 (callsIn_of_wp_marks (F := Fence.wide) (n := 0) hf hb trivial ?_)
  let O : Nat → Nat := fun b => if X b then Ro 0 else 0
  have hext : Ext w H none_ w (fun b => H b ∨ O b ≠ 0) none_ := by
    refine ⟨Nat.le_refl _, fun b _ hn => ⟨?_, rfl⟩, fun _ _ h => h.elim⟩
    rintro (h | h)
    · exact hn h
    · by_cases hx : X b
      · exact hn (hX b hx).1
      · exact h (if_neg hx)
  have hold : HoldO ⟨P, none, N, w, H, X⟩ (St.init As R) O { tmps := vs.toArray ++ Array.replicate (fn.ntmps - vs.toArray.size) undef, defers := [] } w := by
    refine ⟨hH, rfl, rfl, rfl, Nat.le_refl _, fun _ _ _ => rfl, fun b hb => ?_, rfl, ?_, fun t => ?_, fun i => ?_⟩
    · by_cases hx : X b
      · exact ⟨.inr hx, (hX b hx).2⟩
      · exact absurd (if_neg hx) hb
    · have := hlen hargs
      have := Nat.le_of_ble_eq_true hA
      simp; omega
    · have key : ∀ (As : List Asrt) (vs : List Value) (t : Nat) (v : Value), Args w H As vs → As[t]? ≠ none → ((As[t]?).getD top).R w H none_ (vs.getD t v) := by
        intro As
        induction As with
        | nil => intro vs t v h hne; simp at hne
        | cons A As ih =>
          intro vs t v h hne
          cases vs with
          | nil => exact h.elim
          | cons u vs =>
            cases t with
            | zero => exact h.1
            | succ t => simpa using ih vs t v h.2 (by simpa using hne)
      show ((As[t]?).getD top).R w _ _ _
      cases hq : As[t]? with
      | none => trivial
      | some A =>
        have hlt : t < As.length := (List.getElem?_eq_some_iff.1 hq).1
        have h1 := key As vs t undef hargs (by simp [hq])
        rw [hq] at h1
        have e : (vs.toArray ++ Array.replicate (fn.ntmps - vs.toArray.size) undef).getD t undef = vs.getD t undef := by
          have hl := hlen hargs
          have hlt' : t < vs.length := by omega
          simp [Array.getD_eq_getD_getElem?, Array.getElem?_append, hlt', List.getD_eq_getElem?_getD]
        rw [e]
        exact A.mono Ext.any (A.mono hext h1)
    · show (match i with | 0 => R | _ => emp : Res).R _ _ _
      cases i with
      | zero => exact R.mono ⟨Nat.le_refl _, hext.vis, fun b _ hx => ⟨if_pos hx, rfl⟩⟩ hR
      | succ i => trivial
  refine wpIn_mono (h _ w ⟨O, hold⟩) ?_
  rintro e a' w' ⟨S', hQ, O', hh'⟩
  have fin : ∀ (ds : List Nat) (S' : St) (a' : Act) (w' : World), S'.d = ds → Hold ⟨P, none, N, w, H, X⟩ S' a' w' → RetD ⟨P, none, N, w, H, X⟩ fn B R' ds S' →
      LeavesInM Fence.wide 0 P fn a'.tmps (fun e w' => ∃ v z X', e = .returned v ∧ Fin w X w' X' ∧ (B z).R w' (join H X') none_ v ∧ (R' z).R w' (join H X') X') (marks ds) .returning w' := by
    intro ds
    induction ds with
    | nil =>
      rintro S' a' w' hd' ⟨O', hh'⟩ ⟨hd, hr⟩
      obtain ⟨v, z, X', h1, h2, h3, h4⟩ := hr O' a' w' hh'
      refine ⟨v, h1, v, z, X', rfl, ⟨hh'.os, hh'.tape, hh'.output, hh'.size, hh'.old, fun b hb => ?_⟩, h3, h4⟩
      have := hh'.own b (h2 b hb)
      exact ⟨this.1.symm, this.2⟩
    | cons D ds ih =>
      rintro S' a' w' hd' hh' ⟨hd, i, hr, hrest⟩
      obtain ⟨h1, h2⟩ := hh'.take hd hr
      exact ⟨by simp, .inl ⟨D, _, rfl, h1, ih _ { a' with defers := marks ds } _ rfl h2 hrest⟩⟩
  have fin' : RetD ⟨P, none, N, w, H, X⟩ fn B R' S'.d S' → LeavesInM Fence.wide 0 P fn a'.tmps (fun e w' => ∃ v z X', e = .returned v ∧ Fin w X w' X' ∧ (B z).R w' (join H X') none_ v ∧ (R' z).R w' (join H X') X') a'.defers .returning w' := fun h => by
    have h5 := fin S'.d S' a' w' rfl ⟨O', hh'⟩ h
    rw [hh'.dfr]; exact h5
  cases e with
  | normal => exact fin' hQ
  | ret => exact fin' hQ
  | exit id => exact hQ.elim
  | goto l => exact hQ.elim
  | panic ch => exact hQ.elim
  | outgrown => exact hQ.elim

theorem Con.intro {P : Program} {f : FuncId} {fn : Func} {c : Code} {N : Nat} {As : List Asrt} {R : Res} {ζ : Type} {B : ζ → Asrt} {R' : ζ → Res} (hf : P.funcs[f]? = some fn) (hb : fn.body = some c) (hN : fn.ntmps = N) (hA : Nat.ble As.length N = true)
    (h : ∀ w H X, AW ⟨P, none, N, w, H, X⟩ c (endQ ⟨P, none, N, w, H, X⟩ fn B R') (St.init As R)) : Con P f As R B R' :=
  fun w H X _ hH hX hargs hR => body_calls hf hb hN hA hH hX hargs hR (h w H X)
/-- A function that is given nothing to change. -/
theorem Con.intro0 {P : Program} {f : FuncId} {fn : Func} {c : Code} {N : Nat} {As : List Asrt} {ζ : Type} {B : ζ → Asrt} {R' : ζ → Res} (hf : P.funcs[f]? = some fn) (hb : fn.body = some c) (hN : fn.ntmps = N) (hA : Nat.ble As.length N = true)
    (h : ∀ w H, AW ⟨P, none, N, w, H, none_⟩ c (endQ ⟨P, none, N, w, H, none_⟩ fn B R') (St.init As emp)) : Con P f As emp B R' := by
  intro w H X vs hH hX hA' _
  refine (body_calls hf hb hN hA hH (fun _ h => h.elim) hA' trivial (h w H)).mono ?_
  rintro e w' ⟨v, z, X', rfl, hf, hB, hR⟩
  exact ⟨v, z, X', rfl, ⟨hf.os, hf.tape, hf.output, hf.size, fun b hb _ => hf.same b hb (fun h => h), fun b hb => ⟨(hf.own b hb).1.elim (fun h => h.elim) .inr, (hf.own b hb).2⟩⟩, hB, hR⟩
end Go.Wb
