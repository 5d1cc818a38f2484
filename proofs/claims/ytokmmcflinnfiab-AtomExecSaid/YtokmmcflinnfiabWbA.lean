/- WbA: a part of the proof. -/
import Derived.RangeFuncFrom
import Derived.RangeFuncLeaves
import Derived.Laws.AppendOwn
import Derived.Laws.OwnMore
import Derived.Still
set_option linter.unusedVariables false
set_option linter.unusedSimpArgs false
namespace Go.Wb
open Go

/-! ### Views: a world and the blocks that are hidden -/
abbrev HS := Nat → Prop

/-- What w shows outside H, and what lies in M, w' shows as well. -/
structure Ext (w : World) (H M : HS) (w' : World) (H' M' : HS) : Prop where
  size : w.heap.size ≤ w'.heap.size
  vis : ∀ b, b < w.heap.size → ¬ H b → ¬ H' b ∧ w'.heap[b]? = w.heap[b]?
  own : ∀ b, b < w.heap.size → M b → M' b ∧ w'.heap[b]? = w.heap[b]?

theorem Ext.refl (w : World) (H M : HS) : Ext w H M w H M := ⟨Nat.le_refl _, fun _ _ h => ⟨h, rfl⟩, fun _ _ h => ⟨h, rfl⟩⟩
theorem Ext.trans {a b c : World} {H M H' M' H'' M'' : HS} (h : Ext a H M b H' M') (k : Ext b H' M' c H'' M'') : Ext a H M c H'' M'' :=
  ⟨Nat.le_trans h.size k.size,
   fun i hi hn => let ⟨x, y⟩ := h.vis i hi hn; let ⟨x', y'⟩ := k.vis i (Nat.lt_of_lt_of_le hi h.size) x; ⟨x', y'.trans y⟩,
   fun i hi hn => let ⟨x, y⟩ := h.own i hi hn; let ⟨x', y'⟩ := k.own i (Nat.lt_of_lt_of_le hi h.size) x; ⟨x', y'.trans y⟩⟩

def none_ : HS := fun _ => False
theorem Ext.pure_ {w w' : World} {H M H' M' : HS} (h : Ext w H M w' H' M') : Ext w H none_ w' H' none_ := ⟨h.size, h.vis, fun _ _ h => h.elim⟩

/-- What is known of a value. -/
structure Asrt where
  R : World → HS → HS → Value → Prop
  mono : ∀ {w H M w' H' M' v}, Ext w H M w' H' M' → R w H M v → R w' H' M' v
/-- What is known of owned memory. -/
structure Res where
  R : World → HS → HS → Prop
  mono : ∀ {w H M w' H' M'}, Ext w H M w' H' M' → R w H M → R w' H' M'

def top : Asrt := ⟨fun _ _ _ _ => True, fun _ h => h⟩
def emp : Res := ⟨fun _ _ _ => True, fun _ h => h⟩
def raw (v : Value) : Asrt := ⟨fun _ _ _ u => u = v, fun _ h => h⟩

/-! ### Kinds: how a Lean value lies in cells -/
def mkv (agg : Bool) (cs : List Value) : Value := bif agg then .agg cs.toArray else cs.headD undef

structure Kd (α : Type) where
  sz : Nat
  agg : Bool
  C : World → HS → α → List Value → Prop
  len : ∀ {w H x cs}, C w H x cs → cs.length = sz
  one : ∀ {w H x cs}, C w H x cs → ∀ v ∈ cs, v.oneCell' = true
  flat : agg = false → sz = 1
  mono : ∀ {w H w' H' x cs}, Ext w H none_ w' H' none_ → C w H x cs → C w' H' x cs

theorem mkv_cells {agg : Bool} {cs : List Value} (h1 : ∀ v ∈ cs, v.oneCell' = true) (h : agg = false → cs.length = 1) : (mkv agg cs).cells.toList = cs := by
  cases agg with
  | true => simp [mkv, Value.cells]
  | false =>
    have hl := h rfl
    match cs, hl, h1 with
    | [c], _, h1 =>
      have := h1 c (by simp)
      simp only [mkv, cond_false, List.headD_cons]
      cases c <;> simp_all [Value.oneCell', Value.cells]

def rd {α : Type} (k : Kd α) (x : α) : Asrt :=
  ⟨fun w H _ v => ∃ cs, k.C w H x cs ∧ v = mkv k.agg cs, fun h ⟨cs, hc, hv⟩ => ⟨cs, k.mono h.pure_ hc, hv⟩⟩

/-! ### States: what slots hold, what is owned -/
def upd {α : Type} (s : Nat → α) (d : Nat) (x : α) : Nat → α := fun t => bif Nat.beq t d then x else s t
theorem upd_same {α : Type} (s : Nat → α) (d : Nat) (x : α) : upd s d x d = x := by simp [upd]
theorem upd_other {α : Type} (s : Nat → α) {d t : Nat} (x : α) (h : t ≠ d) : upd s d x t = s t := by
  have : Nat.beq t d = false := by
    cases hb : Nat.beq t d with
    | false => rfl
    | true => exact absurd (Nat.eq_of_beq_eq_true hb) h
  simp [upd, this]

structure St where
  s : Nat → Asrt
  r : Nat → Res
  d : List Nat

/-- The marks of loops over functions among the deferred calls. -/
def marks (l : List Nat) : List Deferred := l.map fun D => { target := .collected D, args := #[] }

def St.set (S : St) (d : Nat) (A : Asrt) : St := ⟨upd S.s d A, S.r, S.d⟩
def St.put (S : St) (d : Option Nat) (A : Asrt) : St := match d with | some d => S.set d A | none => S
def St.setr (S : St) (i : Nat) (r : Res) : St := ⟨S.s, upd S.r i r, S.d⟩

/-- What a function was given: the world it began in, what was hidden there, what it may change of it. -/
structure Ctx where
  P : Program
  ro : Option Nat
  N : Nat
  w0 : World
  H0 : HS
  X : HS

def Ctx.fen (C : Ctx) : Fence := { Fence.wide with round := C.ro }

def So (t : Nat) : Nat := 2 * t + 1
def Ro (i : Nat) : Nat := 2 * i + 2

/-- O tells who owns a block (0: no one here). -/
structure HoldO (C : Ctx) (S : St) (O : Nat → Nat) (a : Act) (w : World) : Prop where
  h0 : ∀ b, C.H0 b → b < C.w0.heap.size
  os : w.os = C.w0.os
  tape : w.tape = C.w0.tape
  output : w.output = C.w0.output
  size : C.w0.heap.size ≤ w.heap.size
  old : ∀ b, b < C.w0.heap.size → ¬ C.X b → w.heap[b]? = C.w0.heap[b]?
  own : ∀ b, O b ≠ 0 → (C.w0.heap.size ≤ b ∨ C.X b) ∧ b < w.heap.size
  dfr : a.defers = marks S.d
  n : a.tmps.size = C.N
  slot : ∀ t, (S.s t).R w (fun b => C.H0 b ∨ O b ≠ 0) (fun b => O b = So t) (a.tmps.getD t undef)
  res : ∀ i, (S.r i).R w (fun b => C.H0 b ∨ O b ≠ 0) (fun b => O b = Ro i)

def Hold (C : Ctx) (S : St) (a : Act) (w : World) : Prop := ∃ O, HoldO C S O a w

/-- From every state that is as S tells, the code ends as Q tells. -/
def AW (C : Ctx) (c : Code) (Q : Exit → St → Prop) (S : St) : Prop :=
  ∀ a w, Hold C S a w → c.wpIn C.fen 0 C.P (fun e a' w' => ∃ S', Q e S' ∧ Hold C S' a' w') a w

section control
variable {C : Ctx} {Q : Exit → St → Prop} {S : St}

theorem AW.mono {c : Code} {Q' : Exit → St → Prop} (h : AW C c Q S) (hq : ∀ e S', Q e S' → Q' e S') : AW C c Q' S :=
  fun a w hh => wpIn_mono (h a w hh) fun e a' w' ⟨S', h1, h2⟩ => ⟨S', hq _ _ h1, h2⟩

def nextQ (K : St → Prop) (Q : Exit → St → Prop) : Exit → St → Prop
  | .normal, S => K S
  | e, S => Q e S

theorem AW.skip (h : Q .normal S) : AW C .skip Q S := fun _ _ hh => wpIn_skip ⟨S, h, hh⟩
theorem AW.label {l : Nat} (h : Q .normal S) : AW C (.label l) Q S := fun _ _ hh => wpIn_label ⟨S, h, hh⟩
theorem AW.exit {id : Nat} (h : Q (.exit id) S) : AW C (.exit id) Q S := fun _ _ hh => wpIn_exit ⟨S, h, hh⟩
theorem AW.ret (h : Q .ret S) : AW C .ret Q S := fun _ _ hh => wpIn_ret ⟨S, h, hh⟩

theorem AW.seq {x y : Code} (h : AW C x (nextQ (AW C y Q) Q) S) : AW C (.seq x y) Q S := by
  intro a w hh
  refine wpIn_seq (wpIn_mono (h a w hh) ?_)
  rintro e a' w' ⟨S', h1, h2⟩
  cases e with
  | normal => exact h1 a' w' h2
  | exit id => exact ⟨S', h1, h2⟩
  | goto l => exact ⟨S', h1, h2⟩
  | ret => exact ⟨S', h1, h2⟩
  | panic ch => exact ⟨S', h1, h2⟩
  | outgrown => exact ⟨S', h1, h2⟩

def blockQ (id : Nat) (Q : Exit → St → Prop) : Exit → St → Prop
  | .exit id', S => bif Nat.beq id' id then Q .normal S else Q (.exit id') S
  | e, S => Q e S

theorem AW.block {id : Nat} {c : Code} (h : AW C c (blockQ id Q) S) : AW C (.block id c) Q S := by
  intro a w hh
  refine wpIn_block (wpIn_mono (h a w hh) ?_)
  rintro e a' w' ⟨S', h1, h2⟩
  cases e with
  | normal => exact ⟨S', h1, h2⟩
  | exit id' =>
    simp only [Exit.inBlock]
    by_cases hid : id' = id
    · subst hid
      rw [if_pos rfl]
      exact ⟨S', by simpa [blockQ] using h1, h2⟩
    · rw [if_neg hid]
      have : Nat.beq id' id = false := by
        cases hb : Nat.beq id' id with
        | false => rfl
        | true => exact absurd (Nat.eq_of_beq_eq_true hb) hid
      exact ⟨S', by simpa [blockQ, this] using h1, h2⟩
  | goto l => exact ⟨S', h1, h2⟩
  | ret => exact ⟨S', h1, h2⟩
  | panic ch => exact ⟨S', h1, h2⟩
  | outgrown => exact ⟨S', h1, h2⟩

theorem AW.loop {c : Code} (I : Nat → St → Prop) {k : Nat} (h0 : I k S) (round : ∀ k S, I k S → AW C c (nextQ (fun S' => ∃ k', k' < k ∧ I k' S') Q) S) : AW C (.loop c) Q S := by
  intro a w hh b kk cs hro hb hr
  have key : ∀ j S a w, I j S → Hold C S a w →
      ∃ e a' w', (∃ S', Q e S' ∧ Hold C S' a' w') ∧ ArrivesIn (Machine.fenced C.P C.fen) C.P (lone (b.atR a (.code c :: .inLoop c :: kk)) cs w) b kk cs e a' w' := by
    intro j
    induction j using Nat.strongRecOn with
    | _ j ih =>
      intro S a w hI hS
      obtain ⟨e, a₁, w₁, ⟨S', hq, hS'⟩, harr⟩ := round j S hI a w hS b (.inLoop c :: kk) cs hro hb hr
      cases e with
      | normal =>
        obtain ⟨k', hlt, hI'⟩ := hq
        obtain ⟨e₂, a₂, w₂, hq₂, harr₂⟩ := ih k' hlt S' a₁ w₁ hI' hS'
        exact ⟨e₂, a₂, w₂, hq₂, .of_steps (StepsIn.trans harr (.one (fenced_calm hb hr rfl) stepR_inLoop)) harr₂⟩
      | exit id => exact ⟨_, a₁, w₁, ⟨S', hq, hS'⟩, .pass (x := .inLoop c) rfl (fun _ _ => .inl (by simp)) harr⟩
      | goto l => exact ⟨_, a₁, w₁, ⟨S', hq, hS'⟩, .pass (x := .inLoop c) rfl (fun _ _ => .inl (by simp)) harr⟩
      | ret => exact ⟨_, a₁, w₁, ⟨S', hq, hS'⟩, .pass (x := .inLoop c) rfl (fun _ _ => .inl (by simp)) harr⟩
      | panic ch => exact ⟨_, a₁, w₁, ⟨S', hq, hS'⟩, .pass (x := .inLoop c) rfl (fun _ _ => .inl (by simp)) harr⟩
      | outgrown => exact ⟨_, a₁, w₁, ⟨S', hq, hS'⟩, .pass (x := .inLoop c) rfl (fun _ _ => .inl (by simp)) harr⟩
  obtain ⟨e, a', w', hq, harr⟩ := key _ S a w h0 hh
  exact ⟨e, a', w', hq, .of_steps (.one (fenced_calm hb hr rfl) stepR_loop) harr⟩
end control
end Go.Wb
