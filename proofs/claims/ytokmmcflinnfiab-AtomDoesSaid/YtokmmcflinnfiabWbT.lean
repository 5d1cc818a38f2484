/- WbT: a part of the proof. -/
import Derived.Test.YtokmmcflinnfiabWbS
set_option linter.unusedVariables false
set_option linter.unusedSimpArgs false
namespace Go.Wb
open Go

/-! ### Guards in guards -/
def gdx (t : Bool) (A : Asrt) : Asrt := ⟨fun w H M v => (t = true → A.R w H M v) ∧ (t = false → v = undef), fun h k => ⟨fun ht => A.mono h (k.1 ht), k.2⟩⟩
instance (t : Bool) (A : Asrt) [Dup A] : Dup (gdx t A) := ⟨fun h => ⟨fun ht => Dup.dup (h.1 ht), h.2⟩⟩
theorem opt_g {α : Type _} [Inhabited α] {t : Bool} {x : Option α} {r : α} (h : opt t x = some r) (ht : t = true) : x = some r := by subst ht; exact h
section guards
variable {C : Ctx} {ops : Array Oper} {S S' : St} {o : Oper}
theorem vgx {t : Nat} {b : Bool} {A : Asrt} [Dup A] (h : S.s t = gdx b A) (hb : b = true) : Val C S (.tmp t) A := fun O a w hh => by
  have h1 := hh.slot t
  rw [h] at h1
  exact Dup.dup (h1.1 hb)
theorem vgd {t : Nat} {b : Bool} {A : Asrt} [Dup A] (h : S.s t = gdx b A) : Val C S (.tmp t) (gd b A) := fun O a w hh hb => by
  have h1 := hh.slot t
  rw [h] at h1
  exact Dup.dup (h1.1 hb)
theorem vgw {t : Nat} {c d : Bool} {A : Asrt} [Dup A] (h : S.s t = gd (c && d) A) (hc : c = true) : Val C S (.tmp t) (gd d A) := fun O a w hh hd => by
  have h1 := hh.slot t
  rw [h] at h1
  exact Dup.dup (h1 (by rw [hc, hd]; rfl))
/-- As OpG.guard: and what is left out is known to be left out. -/
theorem OpG.guardX {A : Asrt} {j gt : Nat} {b want : Bool} (hg : o.guard = some (j, want)) (hj : (ops[j]?).bind (·.dst) = some gt) (hn : Nat.blt gt C.N = true) (hb : S.s gt = rd kbool b) (hd : dok o C.N = true)
    (h : (b == want) = true → OpE C o S (S.put o.dst A)) : OpG C ops o S (S.put o.dst (gdx (b == want) A)) := by
  rintro a w ⟨O, hh⟩
  have h1 := rd_bool ((vt hb).of hh)
  have hlt : gt < a.tmps.size := by rw [hh.n]; simpa using hn
  have hy : yielded ops a.tmps j = some b := by
    have h1' : a.tmps[gt]?.getD undef = .bool b := by simpa [Act.eval] using h1
    simp only [yielded, hj, Option.bind_some]
    rw [Array.getElem?_eq_getElem hlt] at h1' ⊢
    simp only [Option.getD_some] at h1'
    rw [h1']
  have hw : Region.wanted o (yielded ops a.tmps) = (b == want) := by
    simp only [Region.wanted, hg, hy]
    cases b <;> cases want <;> rfl
  rw [hw]
  cases hq : (b == want) with
  | true =>
    simp only [if_true]
    have h2 := h hq a w ⟨O, hh⟩
    refine ⟨h2.1, Oper.uponIn_mono (fun a' w' hx => ?_) (fun _ _ _ h => h) _ h2.2⟩
    obtain ⟨S'', rfl, O', h4⟩ := hx
    refine ⟨O', { h4 with slot := fun t => ?_, res := fun i => by have h5 := h4.res i; cases hdst : o.dst <;> rw [hdst] at h5 <;> exact h5, dfr := by have h5 := h4.dfr; cases hdst : o.dst <;> rw [hdst] at h5 <;> exact h5 }⟩
    cases hdst : o.dst with
    | none => have := h4.slot t; rw [hdst] at this; exact this
    | some d =>
      have h5 := h4.slot t
      rw [hdst] at h5
      by_cases e : t = d
      · subst e
        simp only [St.put, St.set, upd_same] at h5 ⊢
        exact ⟨fun _ => h5, fun h => by cases h⟩
      · simp only [St.put, St.set] at h5 ⊢
        rw [upd_other _ _ e] at h5 ⊢
        exact h5
  | false =>
    simp only [Bool.false_eq_true, if_false]
    exact ⟨O, hh.yield_same (dok_lt hd) ⟨(fun h => by cases h), (fun _ => rfl)⟩⟩
/-- The operation that guards is guarded itself. -/
theorem OpG.guardN {A : Asrt} {j gt : Nat} {b c want : Bool} (hg : o.guard = some (j, want)) (hj : (ops[j]?).bind (·.dst) = some gt) (hn : Nat.blt gt C.N = true) (hb : S.s gt = gdx c (rd kbool b)) (hd : dok o C.N = true)
    (h : (c && (b == want)) = true → OpE C o S (S.put o.dst A)) : OpG C ops o S (S.put o.dst (gd (c && (b == want)) A)) := by
  rintro a w ⟨O, hh⟩
  have h0 := hh.slot gt
  rw [hb] at h0
  have hlt : gt < a.tmps.size := by rw [hh.n]; simpa using hn
  have hw : Region.wanted o (yielded ops a.tmps) = (c && (b == want)) := by
    cases c with
    | true =>
      have h1 : a.tmps.getD gt undef = .bool b := by
        obtain ⟨cs, rfl, e⟩ := h0.1 rfl
        exact e
      have hy : yielded ops a.tmps j = some b := by
        have h1' : a.tmps[gt]?.getD undef = .bool b := by simpa using h1
        simp only [yielded, hj, Option.bind_some]
        rw [Array.getElem?_eq_getElem hlt] at h1' ⊢
        simp only [Option.getD_some] at h1'
        rw [h1']
      simp only [Region.wanted, hg, hy]
      cases b <;> cases want <;> rfl
    | false =>
      have h1 := h0.2 rfl
      have hy : yielded ops a.tmps j = none := by
        have h1' : a.tmps[gt]?.getD undef = undef := by simpa using h1
        simp only [yielded, hj, Option.bind_some]
        rw [Array.getElem?_eq_getElem hlt] at h1' ⊢
        simp only [Option.getD_some] at h1'
        rw [h1']
        rfl
      simp only [Region.wanted, hg, hy]
      rfl
  rw [hw]
  cases hq : (c && (b == want)) with
  | true =>
    simp only [if_true]
    have h2 := h hq a w ⟨O, hh⟩
    refine ⟨h2.1, Oper.uponIn_mono (fun a' w' hx => ?_) (fun _ _ _ h => h) _ h2.2⟩
    obtain ⟨S'', rfl, O', h4⟩ := hx
    refine ⟨O', { h4 with slot := fun t => ?_, res := fun i => by have h5 := h4.res i; cases hdst : o.dst <;> rw [hdst] at h5 <;> exact h5, dfr := by have h5 := h4.dfr; cases hdst : o.dst <;> rw [hdst] at h5 <;> exact h5 }⟩
    cases hdst : o.dst with
    | none => have := h4.slot t; rw [hdst] at this; exact this
    | some d =>
      have h5 := h4.slot t
      rw [hdst] at h5
      by_cases e : t = d
      · subst e
        simp only [St.put, St.set, upd_same] at h5 ⊢
        exact fun _ => h5
      · simp only [St.put, St.set] at h5 ⊢
        rw [upd_other _ _ e] at h5 ⊢
        exact h5
  | false =>
    simp only [Bool.false_eq_true, if_false]
    exact ⟨O, hh.yield_same (dok_lt hd) (fun h => by cases h)⟩
end guards
end Go.Wb
