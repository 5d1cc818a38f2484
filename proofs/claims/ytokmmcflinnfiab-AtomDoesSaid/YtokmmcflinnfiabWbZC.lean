/- WbZC: a part of the proof. -/
import Derived.Test.YtokmmcflinnfiabWbZB
set_option linter.unusedVariables false
set_option linter.unusedSimpArgs false
namespace Go.Wb
open Go

/-! ### Three and four results -/
def tup4 (A B D F : Asrt) : Asrt := ⟨fun w H M v => ∃ x y z u, v = .tuple #[x, y, z, u] ∧ A.R w H none_ x ∧ B.R w H none_ y ∧ D.R w H none_ z ∧ F.R w H none_ u, fun h ⟨x, y, z, u, e, hx, hy, hz, hu⟩ => ⟨x, y, z, u, e, A.mono h.pure_ hx, B.mono h.pure_ hy, D.mono h.pure_ hz, F.mono h.pure_ hu⟩⟩
instance (A B D F : Asrt) : Dup (tup4 A B D F) := ⟨fun h => h⟩
section tups
variable {C : Ctx} {S : St} {o : Oper} {A B D F : Asrt} {p : Operand} {fn : Func}
theorem op_ext3_0 (ho : o.op = .extract p 0) (hd : dok o C.N = true) (hp : Val C S p (tup3 A B D)) : OpE C o S (S.put o.dst A) :=
  OpE.plain (by simp [ho]) hd fun O a w hh => by
    obtain ⟨x, y, z, h1, hx, hy, hz⟩ := hp.of hh
    exact ⟨x, by simp [execOp, ho, h1, Instr.extract], hx⟩
theorem op_ext3_1 (ho : o.op = .extract p 1) (hd : dok o C.N = true) (hp : Val C S p (tup3 A B D)) : OpE C o S (S.put o.dst B) :=
  OpE.plain (by simp [ho]) hd fun O a w hh => by
    obtain ⟨x, y, z, h1, hx, hy, hz⟩ := hp.of hh
    exact ⟨y, by simp [execOp, ho, h1, Instr.extract], hy⟩
theorem op_ext3_2 (ho : o.op = .extract p 2) (hd : dok o C.N = true) (hp : Val C S p (tup3 A B D)) : OpE C o S (S.put o.dst D) :=
  OpE.plain (by simp [ho]) hd fun O a w hh => by
    obtain ⟨x, y, z, h1, hx, hy, hz⟩ := hp.of hh
    exact ⟨z, by simp [execOp, ho, h1, Instr.extract], hz⟩
theorem op_ext4_0 (ho : o.op = .extract p 0) (hd : dok o C.N = true) (hp : Val C S p (tup4 A B D F)) : OpE C o S (S.put o.dst A) :=
  OpE.plain (by simp [ho]) hd fun O a w hh => by
    obtain ⟨x, y, z, u, h1, hx, hy, hz, hu⟩ := hp.of hh
    exact ⟨x, by simp [execOp, ho, h1, Instr.extract], hx⟩
theorem op_ext4_1 (ho : o.op = .extract p 1) (hd : dok o C.N = true) (hp : Val C S p (tup4 A B D F)) : OpE C o S (S.put o.dst B) :=
  OpE.plain (by simp [ho]) hd fun O a w hh => by
    obtain ⟨x, y, z, u, h1, hx, hy, hz, hu⟩ := hp.of hh
    exact ⟨y, by simp [execOp, ho, h1, Instr.extract], hy⟩
theorem op_ext4_2 (ho : o.op = .extract p 2) (hd : dok o C.N = true) (hp : Val C S p (tup4 A B D F)) : OpE C o S (S.put o.dst D) :=
  OpE.plain (by simp [ho]) hd fun O a w hh => by
    obtain ⟨x, y, z, u, h1, hx, hy, hz, hu⟩ := hp.of hh
    exact ⟨z, by simp [execOp, ho, h1, Instr.extract], hz⟩
theorem op_ext4_3 (ho : o.op = .extract p 3) (hd : dok o C.N = true) (hp : Val C S p (tup4 A B D F)) : OpE C o S (S.put o.dst F) :=
  OpE.plain (by simp [ho]) hd fun O a w hh => by
    obtain ⟨x, y, z, u, h1, hx, hy, hz, hu⟩ := hp.of hh
    exact ⟨u, by simp [execOp, ho, h1, Instr.extract], hu⟩
theorem ret4 {r r' r'' r3 : ResultVar} (hf : fn.results = #[r, r', r'', r3]) (hd : S.d = []) (h : Out C S r A) (h' : Out C S r' B) (h'' : Out C S r'' D) (h3 : Out C S r3 F) : RetOK C fn S (fun _ : Unit => tup4 A B D F) (fun _ => emp) :=
  ⟨hd, fun O a w hh => by
    obtain ⟨v, h1, h2⟩ := h O a w hh
    obtain ⟨u, h4, h5⟩ := h' O a w hh
    obtain ⟨t, h6, h7⟩ := h'' O a w hh
    obtain ⟨s, h8, h9⟩ := h3 O a w hh
    have hX : ∀ b, none_ b → O b ≠ 0 := fun _ h => h.elim
    refine ⟨.tuple #[v, u, t, s], (), none_, ?_, hX, ⟨v, u, t, s, rfl, pview (M := none_) (M' := none_) A h2 _ hX, pview (M := none_) (M' := none_) B h5 _ hX, pview (M := none_) (M' := none_) D h7 _ hX, pview (M := none_) (M' := none_) F h9 _ hX⟩, trivial⟩
    have e : results fn a.tmps = (do let vs ← fn.results.mapM (resF a.tmps); pure (if h : vs.size = 1 then vs[0] else .tuple vs)) := rfl
    rw [e, hf]
    simp [h1, h4, h6, h8]⟩
end tups
end Go.Wb
namespace Go.Wb
open Go
/-! ### An own slice goes from slot to slot -/
section moveO
variable {C : Ctx} {S S' : St} {o : Oper} {α : Type}
theorem Hold.packR {a : Act} {w : World} {d i : Nat} {v : Value} {E : TypeId} {k : Kd α} {l : List α} (hs : S.s d = raw v) (hr : S.r i = Row v E k l) (hh : Hold C S a w) : Hold C ((S.set d (ownR E k l)).setr i emp) a w := by
  obtain ⟨O, hh⟩ := hh
  have h1 : a.tmps.getD d undef = v := raw_eq (by have := hh.slot d; rwa [hs] at this)
  have h2 := hh.res i
  rw [hr] at h2
  obtain ⟨cl, ho, hc, hm⟩ := h2
  let O' : Nat → Nat := fun b => if O b = Ro i then So d else if O b = So d then 0 else O b
  have e1 : ∀ b, O b = Ro i → O' b = So d := fun b h => if_pos h
  have e2 : ∀ b q, O b = q → q ≠ Ro i → q ≠ So d → O' b = q := fun b q h hq hq' => by
    show (if O b = Ro i then So d else if O b = So d then 0 else O b) = q
    rw [if_neg (by rw [h]; exact hq), if_neg (by rw [h]; exact hq'), h]
  have e3 : ∀ b, O' b ≠ 0 → O b ≠ 0 := fun b h h0 => by
    apply h
    show (if O b = Ro i then So d else if O b = So d then 0 else O b) = 0
    rw [h0, if_neg (fun e => Ro_pos i e.symm), if_neg (fun e => So_pos d e.symm)]
  have hext : Ext w (hid C O) none_ w (hid C O') none_ := ⟨Nat.le_refl _, fun b _ hn => ⟨fun h => hn (h.imp id (e3 b)), rfl⟩, fun _ _ h => h.elim⟩
  refine ⟨O', ⟨hh.h0, hh.os, hh.tape, hh.output, hh.size, hh.old, fun b hb => hh.own b (e3 b hb), hh.dfr, hh.n, fun s => ?_, fun j => ?_⟩⟩
  · by_cases e : s = d
    · subst e
      simp only [St.set, St.setr, upd_same]
      rw [h1]
      exact ⟨cl, ho, hc.mono hext, fun b hb => e1 b (hm b hb)⟩
    · simp only [St.set, St.setr]
      rw [upd_other _ _ e]
      refine (S.s s).mono ⟨Nat.le_refl _, hext.vis, fun b _ hb => ⟨?_, rfl⟩⟩ (hh.slot s)
      have hb' : O b = So s := hb
      exact e2 b _ hb' (So_ne_Ro s i) (fun h => e (So_inj h))
  · by_cases e : j = i
    · subst e
      simp only [St.setr, upd_same]
      trivial
    · simp only [St.setr]
      rw [upd_other _ _ e]
      refine (S.r j).mono ⟨Nat.le_refl _, hext.vis, fun b _ hb => ⟨?_, rfl⟩⟩ (hh.res j)
      have hb' : O b = Ro j := hb
      exact e2 b _ hb' (fun h => e (Ro_inj h)) (fun h => So_ne_Ro d j h.symm)
theorem op_moveO' {t d : Nat} (i : Nat) {E : TypeId} {k : Kd α} {l : List α} (hop : ∀ (S : St) (v : Value), S.s t = raw v → OpE C o S (S.put o.dst (raw v))) (hdst : o.dst = some d) (hne : Nat.beq d t = false) (hs : S.s t = ownR E k l) (hr : S.r i = emp) : OpE C o S ((S.set t top).put o.dst (ownR E k l)) := by
  have hdt : d ≠ t := fun e => by rw [e] at hne; simp at hne
  refine OpE.pre (T := fun v => (S.set t (raw v)).setr i (Row v E k l)) (fun a w hh => hh.unpackR hs hr) fun v => ?_
  refine (hop ((S.set t (raw v)).setr i (Row v E k l)) v (by simp [St.set, St.setr, upd_same])).post fun a w hh => ?_
  rw [hdst] at hh ⊢
  have h2 := hh.packR (d := d) (i := i) (v := v) (E := E) (k := k) (l := l) (by simp [St.put, St.set, upd_same]) (by simp [St.put, St.set, St.setr, upd_same])
  refine h2.weak' (S' := (S.set t top).put (some d) (ownR E k l)) rfl (fun u => ?_) (fun j => ?_)
  · simp only [St.put, St.set, St.setr]
    by_cases e : u = d
    · subst e; rw [upd_same, upd_same]; exact .inl rfl
    · rw [upd_other _ _ e, upd_other _ _ e, upd_other _ _ e]
      by_cases e' : u = t
      · subst e'; rw [upd_same]; exact .inr rfl
      · rw [upd_other _ _ e', upd_other _ _ e']; exact .inl rfl
  · simp only [St.put, St.set, St.setr]
    by_cases e : j = i
    · subst e; rw [upd_same, hr]; exact .inl rfl
    · rw [upd_other _ _ e, upd_other _ _ e]; exact .inl rfl
theorem op_assignO {t d : Nat} (i : Nat) {E : TypeId} {k : Kd α} {l : List α} (ho : o.op = .assign (.tmp t)) (hdst : o.dst = some d) (hd : dok o C.N = true) (hne : Nat.beq d t = false) (hs : S.s t = ownR E k l) (hr : S.r i = emp) : OpE C o S ((S.set t top).put o.dst (ownR E k l)) :=
  op_moveO' i (fun S v h => op_assign ho hd (vt h)) hdst hne hs hr
theorem op_moveO {t d : Nat} (i : Nat) {E : TypeId} {k : Kd α} {l : List α} (ho : o.op = .move (.tmp t)) (hdst : o.dst = some d) (hd : dok o C.N = true) (hne : Nat.beq d t = false) (hs : S.s t = ownR E k l) (hr : S.r i = emp) : OpE C o S ((S.set t top).put o.dst (ownR E k l)) :=
  op_moveO' i (fun S v h => op_move ho hd (vt h)) hdst hne hs hr
end moveO
end Go.Wb
