/- WbV: a part of the proof. -/
import Derived.Test.YtokmmcflinnfiabWbU
set_option linter.unusedVariables false
set_option linter.unusedSimpArgs false
namespace Go.Wb
open Go

/-! ### Bodies that add to a slice -/
theorem lpgo_of {σ : Type} {x : Option (Lp σ)} {s : σ} (h : x.bind lpGo = some s) : x = some (.go s) := by
  obtain ⟨r, h1, h2⟩ := bsome h
  cases r with
  | go s' => cases h2; exact h1
  | out c s' => cases h2
section body
variable {C : Ctx} {S : St} {α : Type}
def bodyP (i j g : Nat) (T E : TypeId) (k : Kd α) (M : List (Nat × Res)) (r : Lp (List α)) : Exit → St → Prop
  | .normal, S' => ∃ s' v, r = .go s' ∧ S'.r i = Blk g T kraw v ∧ S'.r j = Row v E k s' ∧ FitR S' M
  | _, _ => False
theorem fitR_setr {S : St} {i : Nat} {R : Res} : ∀ {M : List (Nat × Res)}, (∀ p ∈ M, p.1 ≠ i) → FitR S M → FitR (S.setr i R) M
  | [], _, _ => trivial
  | (t, A) :: M, h, ⟨h1, h2⟩ => ⟨by simp only [St.setr]; rw [upd_other _ _ (h (t, A) (by simp))]; exact h1, fitR_setr (fun p hp => h p (by simp [hp])) h2⟩
theorem AW.bodyP {c : Code} {i j g : Nat} {T E : TypeId} {k : Kd α} {M : List (Nat × Res)} {rx : Code → List α → Nat → Res} {r : Lp (List α)} (hij : i ≠ j) (hM : (M.all fun p => !Nat.beq p.1 i && !Nat.beq p.1 j) = true) (h : AW C c (bodyP i j g T E k M r) S) :
    AW C c (bodyQ (fun s => ress ((i, BoxF g T kraw (fun v => v) E k s) :: M)) rx r) S := by
  intro a w hh
  refine wpIn_mono (h a w hh) ?_
  rintro e a' w' ⟨S', h1, h2⟩
  cases e with
  | normal =>
    obtain ⟨s', v, rfl, h3, h4, h5⟩ := h1
    have h6 := h2.packF (fun v => v) hij h3 h4
    have hne : ∀ p ∈ M, p.1 ≠ i ∧ p.1 ≠ j := fun p hp => by
      have := List.all_eq_true.1 hM p hp
      simp only [Bool.and_eq_true, Bool.not_eq_true'] at this
      exact ⟨fun e => by rw [e] at this; simp at this, fun e => by rw [e] at this; simp at this⟩
    have hfit : FitR ((S'.setr i (BoxF g T kraw (fun v => v) E k s')).setr j emp) ((i, BoxF g T kraw (fun v => v) E k s') :: M) :=
      ⟨by simp only [St.setr]; rw [upd_other _ _ hij, upd_same], fitR_setr (fun p hp => (hne p hp).2) (fitR_setr (fun p hp => (hne p hp).1) h5)⟩
    obtain ⟨O, hO⟩ := h6
    refine ⟨⟨((S'.setr i (BoxF g T kraw (fun v => v) E k s')).setr j emp).s, ress ((i, BoxF g T kraw (fun v => v) E k s') :: M), ((S'.setr i (BoxF g T kraw (fun v => v) E k s')).setr j emp).d⟩, ⟨s', rfl, rfl⟩, O, ?_⟩
    exact hO.weak rfl (fun _ => .inl rfl) (fitR_res hfit (fun _ => .inr rfl))
  | exit id => exact h1.elim
  | goto t => exact h1.elim
  | ret => exact h1.elim
  | panic ch => exact h1.elim
  | outgrown => exact h1.elim
end body
end Go.Wb
