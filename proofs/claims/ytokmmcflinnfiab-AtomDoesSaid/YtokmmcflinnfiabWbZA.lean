/- WbZA: a part of the proof. -/
import Derived.Test.YtokmmcflinnfiabWbW
set_option linter.unusedVariables false
set_option linter.unusedSimpArgs false
namespace Go.Wb
open Go

/-! ### Function values with any results -/
def GA0 {β : Type} (B : β → Asrt) (F : Option β) : List Asrt → Asrt → Prop := fun As B' => ∃ y, F = some y ∧ As = [] ∧ B' = B y
def GA1 {α β : Type} (kx : Kd α) (B : β → Asrt) (F : α → Option β) : List Asrt → Asrt → Prop := fun As B' => ∃ x y, F x = some y ∧ As = [rd kx x] ∧ B' = B y
def GA2 {α γ β : Type} (kx : Kd α) (kz : Kd γ) (B : β → Asrt) (F : α → γ → Option β) : List Asrt → Asrt → Prop := fun As B' => ∃ x z y, F x z = some y ∧ As = [rd kx x, rd kz z] ∧ B' = B y
def fa0 {β : Type} (P : Program) (B : β → Asrt) (F : Option β) : Asrt := fn0 P (GA0 B F)
def fa1 {α β : Type} (P : Program) (kx : Kd α) (B : β → Asrt) (F : α → Option β) : Asrt := fn0 P (GA1 kx B F)
def fa2 {α γ β : Type} (P : Program) (kx : Kd α) (kz : Kd γ) (B : β → Asrt) (F : α → γ → Option β) : Asrt := fn0 P (GA2 kx kz B F)
instance {β : Type} (P : Program) (B : β → Asrt) (F : Option β) : Dup (fa0 P B F) := ⟨fun h => h⟩
instance {α β : Type} (P : Program) (kx : Kd α) (B : β → Asrt) (F : α → Option β) : Dup (fa1 P kx B F) := ⟨fun h => h⟩
instance {α γ β : Type} (P : Program) (kx : Kd α) (kz : Kd γ) (B : β → Asrt) (F : α → γ → Option β) : Dup (fa2 P kx kz B F) := ⟨fun h => h⟩
/-- A function's value that turns what is owned, and yields nothing. -/
def GU {α σ : Type} (enc : α → List Asrt) (F : σ → α → Option σ) (L : σ → Res) : List Asrt → Res → Asrt → Res → Prop :=
  fun As R B R' => ∃ s x s', F s x = some s' ∧ As = enc x ∧ R = L s ∧ B = top ∧ R' = L s'
def stA {α σ : Type} (P : Program) (k : Kd α) (F : σ → α → Option σ) (L : σ → Res) : Asrt := fnR P (GU (fun x => [rd k x]) F L)
instance {α σ : Type} (P : Program) (k : Kd α) (F : σ → α → Option σ) (L : σ → Res) : Dup (stA P k F L) := ⟨fun h => h⟩

section fas
variable {C : Ctx} {S S' : St} {o : Oper} {α β γ σ : Type}
theorem op_fa0 {f : FuncId} {fs cs : List Operand} {FAs CAs : List Asrt} {B : β → Asrt} (F : Option β) (ho : o.op = .makeFunc (.func f) fs.toArray cs.toArray) (hd : dok o C.N = true) (he : Ent C.P f) (hf : Vals C S fs FAs) (hc : Vals C S cs CAs) (hG : ∀ y, F = some y → PCon C.P f (FAs ++ CAs) (B y)) :
    OpE C o S (S.put o.dst (fa0 C.P B F)) :=
  op_func ho hd he hf hc (by rintro _ _ ⟨y, h, rfl, rfl⟩; simpa using hG y h)
theorem op_fa1 {f : FuncId} {fs cs : List Operand} {FAs CAs : List Asrt} {kx : Kd α} {B : β → Asrt} (F : α → Option β) (ho : o.op = .makeFunc (.func f) fs.toArray cs.toArray) (hd : dok o C.N = true) (he : Ent C.P f) (hf : Vals C S fs FAs) (hc : Vals C S cs CAs) (hG : ∀ x y, F x = some y → PCon C.P f (FAs ++ rd kx x :: CAs) (B y)) :
    OpE C o S (S.put o.dst (fa1 C.P kx B F)) :=
  op_func ho hd he hf hc (by rintro _ _ ⟨x, y, h, rfl, rfl⟩; simpa using hG x y h)
theorem op_fa2 {f : FuncId} {fs cs : List Operand} {FAs CAs : List Asrt} {kx : Kd α} {kz : Kd γ} {B : β → Asrt} (F : α → γ → Option β) (ho : o.op = .makeFunc (.func f) fs.toArray cs.toArray) (hd : dok o C.N = true) (he : Ent C.P f) (hf : Vals C S fs FAs) (hc : Vals C S cs CAs) (hG : ∀ x z y, F x z = some y → PCon C.P f (FAs ++ rd kx x :: rd kz z :: CAs) (B y)) :
    OpE C o S (S.put o.dst (fa2 C.P kx kz B F)) :=
  op_func ho hd he hf hc (by rintro _ _ ⟨x, z, y, h, rfl, rfl⟩; simpa using hG x z y h)
theorem vfa1 {f : FuncId} {kx : Kd α} {B : β → Asrt} {F : α → Option β} (he : Ent C.P f) (hG : ∀ x y, F x = some y → PCon C.P f [rd kx x] (B y)) : Val C S (.func f) (fa1 C.P kx B F) :=
  vfn he (by rintro _ _ ⟨x, y, h, rfl, rfl⟩; exact hG x y h)
theorem vfa2 {f : FuncId} {kx : Kd α} {kz : Kd γ} {B : β → Asrt} {F : α → γ → Option β} (he : Ent C.P f) (hG : ∀ x z y, F x z = some y → PCon C.P f [rd kx x, rd kz z] (B y)) : Val C S (.func f) (fa2 C.P kx kz B F) :=
  vfn he (by rintro _ _ ⟨x, z, y, h, rfl, rfl⟩; exact hG x z y h)
theorem op_calla0 {x : Operand} {ts : Array TypeId} {B : β → Asrt} {F : Option β} {b : β} (hF : F = some b) (ho : o.op = .call { callee := .value x, args := #[], argTypes := ts }) (hd : dok o C.N = true) (hx : Val C S x (fa0 C.P B F)) :
    OpE C o S (S.put o.dst (B b)) :=
  op_callv (xs := []) ho hd hx ⟨b, hF, rfl, rfl⟩ trivial
theorem op_calla1 {x p : Operand} {ts : Array TypeId} {kx : Kd α} {B : β → Asrt} {F : α → Option β} {a : α} {b : β} (hF : F a = some b) (ho : o.op = .call { callee := .value x, args := #[p], argTypes := ts }) (hd : dok o C.N = true) (hx : Val C S x (fa1 C.P kx B F)) (hp : Val C S p (rd kx a)) :
    OpE C o S (S.put o.dst (B b)) :=
  op_callv (xs := [p]) ho hd hx ⟨a, b, hF, rfl, rfl⟩ ⟨hp, trivial⟩
theorem op_calla2 {x p q : Operand} {ts : Array TypeId} {kx : Kd α} {kz : Kd γ} {B : β → Asrt} {F : α → γ → Option β} {a : α} {c : γ} {b : β} (hF : F a c = some b) (ho : o.op = .call { callee := .value x, args := #[p, q], argTypes := ts }) (hd : dok o C.N = true) (hx : Val C S x (fa2 C.P kx kz B F)) (hp : Val C S p (rd kx a)) (hq : Val C S q (rd kz c)) :
    OpE C o S (S.put o.dst (B b)) :=
  op_callv (xs := [p, q]) ho hd hx ⟨a, c, b, hF, rfl, rfl⟩ ⟨hp, hq, trivial⟩
/-- a function's value that turns what is owned is made -/
theorem op_st {f : FuncId} {fs cs : List Operand} {FAs CAs : List Asrt} {k : Kd α} (F : σ → α → Option σ) (L : σ → Res) (ho : o.op = .makeFunc (.func f) fs.toArray cs.toArray) (hd : dok o C.N = true) (he : Ent C.P f) (hf : Vals C S fs FAs) (hc : Vals C S cs CAs)
    (hG : ∀ s x s', F s x = some s' → Con C.P f (FAs ++ rd k x :: CAs) (L s) (fun _ : Unit => top) (fun _ => L s')) :
    OpE C o S (S.put o.dst (stA C.P k F L)) :=
  op_funcR ho hd he hf hc (by rintro _ _ _ _ ⟨s, x, s', h, rfl, rfl, rfl, rfl⟩; simpa using hG s x s' h)
/-- and called -/
theorem op_callst {x p : Operand} {ts : Array TypeId} {k : Kd α} {F : σ → α → Option σ} {L : σ → Res} {s s' : σ} {a : α} (i : Nat) (hF : F s a = some s') (ho : o.op = .call { callee := .value x, args := #[p], argTypes := ts }) (hd : dok o C.N = true) (hx : Val C S x (stA C.P k F L)) (hp : Val C S p (rd k a)) (hr : S.r i = L s) :
    OpE C o S ((S.put o.dst top).setr i (L s')) :=
  op_callvR (xs := [p]) i ho hd hx ⟨s, a, s', hF, rfl, rfl, rfl, rfl⟩ ⟨hp, trivial⟩ hr
end fas

/-! ### Handed back beside what is owned -/
section ret
variable {C : Ctx} {S : St} {fn : Func}
theorem res_back {O : Nat → Nat} {a : Act} {w : World} {i : Nat} {R : Res} (hh : HoldO C S O a w) (hr : S.r i = R) : R.R w (join C.H0 (fun b => O b = Ro i)) (fun b => O b = Ro i) := by
  have h2 := hh.res i
  rw [hr] at h2
  refine R.mono ⟨Nat.le_refl _, fun b _ hn => ⟨?_, rfl⟩, fun b _ hb => ⟨hb, rfl⟩⟩ h2
  rintro (h | h)
  · exact hn (.inl h)
  · exact hn (.inr (by rw [h]; exact Ro_pos i))
theorem ret1Y {r : ResultVar} {A : Asrt} {R : Res} (i : Nat) (hf : fn.results = #[r]) (hd : S.d = []) (h : Out C S r A) (hr : S.r i = R) : RetOK C fn S (fun _ : Unit => A) (fun _ => R) :=
  ⟨hd, fun O a w hh => by
    obtain ⟨v, h1, h2⟩ := h O a w hh
    refine ⟨v, (), fun b => O b = Ro i, ?_, fun b hb => by rw [hb]; exact Ro_pos i, pview (M := none_) (M' := none_) A h2 _ (fun b hb => by rw [hb]; exact Ro_pos i), res_back hh hr⟩
    have e : results fn a.tmps = (do let vs ← fn.results.mapM (resF a.tmps); pure (if h : vs.size = 1 then vs[0] else .tuple vs)) := rfl
    rw [e, hf]
    simp [h1]⟩
theorem ret2Y {r r' : ResultVar} {A B : Asrt} {R : Res} (i : Nat) (hf : fn.results = #[r, r']) (hd : S.d = []) (h : Out C S r A) (h' : Out C S r' B) (hr : S.r i = R) : RetOK C fn S (fun _ : Unit => tup2 A B) (fun _ => R) :=
  ⟨hd, fun O a w hh => by
    obtain ⟨v, h1, h2⟩ := h O a w hh
    obtain ⟨u, h3, h4⟩ := h' O a w hh
    have hX : ∀ b, (fun b => O b = Ro i) b → O b ≠ 0 := fun b hb => by rw [hb]; exact Ro_pos i
    refine ⟨.tuple #[v, u], (), fun b => O b = Ro i, ?_, hX, ⟨v, u, rfl, pview (M := none_) (M' := none_) A h2 _ hX, pview (M := none_) (M' := none_) B h4 _ hX⟩, res_back hh hr⟩
    have e : results fn a.tmps = (do let vs ← fn.results.mapM (resF a.tmps); pure (if h : vs.size = 1 then vs[0] else .tuple vs)) := rfl
    rw [e, hf]
    simp [h1, h3]⟩
theorem ret3 {r r' r'' : ResultVar} {A B D : Asrt} (hf : fn.results = #[r, r', r'']) (hd : S.d = []) (h : Out C S r A) (h' : Out C S r' B) (h'' : Out C S r'' D) : RetOK C fn S (fun _ : Unit => tup3 A B D) (fun _ => emp) :=
  ⟨hd, fun O a w hh => by
    obtain ⟨v, h1, h2⟩ := h O a w hh
    obtain ⟨u, h3, h4⟩ := h' O a w hh
    obtain ⟨t, h5, h6⟩ := h'' O a w hh
    have hX : ∀ b, none_ b → O b ≠ 0 := fun _ h => h.elim
    refine ⟨.tuple #[v, u, t], (), none_, ?_, hX, ⟨v, u, t, rfl, pview (M := none_) (M' := none_) A h2 _ hX, pview (M := none_) (M' := none_) B h4 _ hX, pview (M := none_) (M' := none_) D h6 _ hX⟩, trivial⟩
    have e : results fn a.tmps = (do let vs ← fn.results.mapM (resF a.tmps); pure (if h : vs.size = 1 then vs[0] else .tuple vs)) := rfl
    rw [e, hf]
    simp [h1, h3, h5]⟩
end ret

/-! ### Steps before and behind -/
section steps
variable {C : Ctx} {S S' S'' : St} {o : Oper} {α : Type}
theorem OpE.post (h : OpE C o S S') (k : ∀ a w, Hold C S' a w → Hold C S'' a w) : OpE C o S S'' := by
  intro a w hh
  have h1 := h a w hh
  refine ⟨h1.1, Oper.uponIn_mono (fun a' w' hx => ?_) (fun _ _ _ h => h) _ h1.2⟩
  obtain ⟨T, rfl, h2⟩ := hx
  exact ⟨_, rfl, k _ _ h2⟩
theorem OpE.pre {ι : Type} {T : ι → St} (k : ∀ a w, Hold C S a w → ∃ i, Hold C (T i) a w) (h : ∀ i, OpE C o (T i) S') : OpE C o S S' := fun a w hh => by
  obtain ⟨i, hi⟩ := k a w hh
  exact h i a w hi
theorem Hold.weak' {a : Act} {w : World} (h : Hold C S a w) (hd : S'.d = S.d) (hs : ∀ t, S'.s t = S.s t ∨ S'.s t = top) (hr : ∀ i, S'.r i = S.r i ∨ S'.r i = emp) : Hold C S' a w := by
  obtain ⟨O, hh⟩ := h
  exact ⟨O, hh.weak hd hs hr⟩
/-- A slot's own slice becomes a resource. -/
theorem Hold.unpackR {a : Act} {w : World} {t i : Nat} {E : TypeId} {k : Kd α} {l : List α} (hs : S.s t = ownR E k l) (hr : S.r i = emp) (hh : Hold C S a w) : ∃ v, Hold C ((S.set t (raw v)).setr i (Row v E k l)) a w := by
  obtain ⟨O, hh⟩ := hh
  obtain ⟨O1, hh1, hne, hso⟩ := hh.drop hr
  have h1 := hh1.slot t
  rw [hs] at h1
  obtain ⟨cl, ho, hc, hm⟩ := h1
  exact ⟨a.tmps.getD t undef, hold_pass hh1 (fun O' _ => rfl) (fun O' hiff hp => ⟨cl, ho, hc.mono ⟨Nat.le_refl _, fun b _ hn => ⟨fun h => hn (h.imp id (hiff b).1), rfl⟩, fun _ _ h => h.elim⟩, fun b hb => hp b (hm b hb)⟩) hne⟩
theorem put_upd (S : St) (d : Option Nat) (A : Asrt) (t : Nat) : (S.put d A).s t = match d with | some d => upd S.s d A t | none => S.s t := by cases d <;> rfl
theorem vtS {t u i : Nat} {A B : Asrt} {R : Res} [Dup A] (hne : Nat.beq u t = false) (h : S.s u = A) : Val C ((S.set t B).setr i R) (.tmp u) A :=
  vt (by
    have e : u ≠ t := fun e => by rw [e] at hne; simp at hne
    simp only [St.set, St.setr]
    rw [upd_other _ _ e]; exact h)
/-- what a slot owns is appended to: another slot owns it then -/
theorem op_appendS {T E : TypeId} {k : Kd α} {l m r : List α} {t : Nat} {q : Operand} {d : Nat} (i : Nat) (hl : appd l m = some r) (ho : o.op = .call { callee := .builtin .append, args := #[.tmp t, q], argTypes := #[T, T] }) (hdst : o.dst = some d) (hd : dok o C.N = true) (he : El C.P T E k) (hs : S.s t = ownR E k l) (hr : S.r i = emp) (hq : ∀ v, Val C ((S.set t (raw v)).setr i (Row v E k l)) q (rd (ksl k) m)) :
    OpE C o S ((S.set t top).put o.dst (ownR E k r)) := by
  refine OpE.pre (T := fun v => (S.set t (raw v)).setr i (Row v E k l)) (fun a w hh => hh.unpackR hs hr) fun v => ?_
  refine (op_appendO (v := v) i hl ho hdst hd he (vt (by simp [St.set, St.setr, upd_same])) (by simp [St.setr, upd_same]) (hq v)).post fun a w hh => ?_
  refine hh.weak' (S' := (S.set t top).put o.dst (ownR E k r)) ?_ (fun u => ?_) (fun j => ?_)
  · rw [hdst]; rfl
  · rw [hdst]
    simp only [St.put, St.set, St.setr]
    by_cases e : u = d
    · subst e; rw [upd_same, upd_same]; exact .inl rfl
    · rw [upd_other _ _ e, upd_other _ _ e]
      by_cases e' : u = t
      · subst e'; rw [upd_same]; exact .inr rfl
      · rw [upd_other _ _ e', upd_other _ _ e']; exact .inl rfl
  · rw [hdst]
    simp only [St.put, St.set, St.setr]
    by_cases e : j = i
    · subst e; rw [upd_same, hr]; exact .inl rfl
    · rw [upd_other _ _ e, upd_other _ _ e]; exact .inl rfl
/-- a slot's own slice is read from now on -/
theorem Hold.freezeS {a : Act} {w : World} {t i : Nat} {E : TypeId} {k : Kd α} {l : List α} (hX : C.X = none_) (hs : S.s t = ownR E k l) (hr : S.r i = emp) (hh : Hold C S a w) : Hold C (S.set t (rd (ksl k) l)) a w := by
  obtain ⟨v, h1⟩ := hh.unpackR hs hr
  have h2 := h1.freeze (t := t) (i := i) (v := v) (E := E) (k := k) (l := l) hX (by simp [St.set, St.setr, upd_same]) (by simp [St.setr, upd_same])
  refine h2.weak' (S' := S.set t (rd (ksl k) l)) rfl (fun u => .inl ?_) (fun j => .inl ?_)
  · simp only [St.set, St.setr]
    by_cases e : u = t
    · subst e; rw [upd_same, upd_same]
    · rw [upd_other _ _ e, upd_other _ _ e, upd_other _ _ e]
  · simp only [St.set, St.setr]
    by_cases e : j = i
    · subst e; rw [upd_same, hr]
    · rw [upd_other _ _ e, upd_other _ _ e]
/-- what a slot owns is appended to, and read from then on -/
theorem op_appendF {T E : TypeId} {k : Kd α} {l m r : List α} {t : Nat} {q : Operand} {d : Nat} (i : Nat) (hX : C.X = none_) (hl : appd l m = some r) (ho : o.op = .call { callee := .builtin .append, args := #[.tmp t, q], argTypes := #[T, T] }) (hdst : o.dst = some d) (hd : dok o C.N = true) (he : El C.P T E k) (hs : S.s t = ownR E k l) (hr : S.r i = emp) (hq : ∀ v, Val C ((S.set t (raw v)).setr i (Row v E k l)) q (rd (ksl k) m)) :
    OpE C o S ((S.set t top).put o.dst (rd (ksl k) r)) := by
  refine (op_appendS i hl ho hdst hd he hs hr hq).post fun a w hh => ?_
  have h2 := hh.freezeS (t := d) (i := i) (E := E) (k := k) (l := r) hX (by rw [hdst]; simp [St.put, St.set, upd_same]) (by rw [hdst]; exact hr)
  refine h2.weak' (S' := (S.set t top).put o.dst (rd (ksl k) r)) (by rw [hdst]; rfl) (fun u => .inl ?_) (fun j => .inl (by rw [hdst]; rfl))
  rw [hdst]
  simp only [St.put, St.set]
  by_cases e : u = d
  · subst e; rw [upd_same, upd_same]
  · rw [upd_other _ _ e, upd_other _ _ e, upd_other _ _ e]
end steps
end Go.Wb
