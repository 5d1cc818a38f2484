/- WbO: a part of the proof. -/
import Derived.Test.YtokmmcflinnfiabWbN
import Derived.Laws.Cover3
set_option linter.unusedVariables false
set_option linter.unusedSimpArgs false
namespace Go.Wb
open Go

/-! ### Scopes without jumps -/
theorem stepR_scope {P : Program} {b : Frame} {a : Act} {k : List Item} {cs : List Frame} {w : World} {c : Code} : step P (lone (b.atR a (.code (.scope c) :: k)) cs w) = .next (lone (b.atR a (.code c :: .inScope c :: k)) cs w) :=
  step_lone_go (by simp [stepG, stepG.exec, Frame.atR])
theorem stepR_inScope {P : Program} {b : Frame} {a : Act} {k : List Item} {cs : List Frame} {w : World} {c : Code} : step P (lone (b.atR a (.inScope c :: k)) cs w) = .next (lone (b.atR a k) cs w) :=
  step_lone_go (by simp [stepG, stepG.exec, Frame.atR])
def noGotoQ (Q : Exit → St → Prop) : Exit → St → Prop
  | .goto _, _ => False
  | e, S => Q e S
theorem AW.scope {C : Ctx} {Q : Exit → St → Prop} {S : St} {c : Code} (h : AW C c (noGotoQ Q) S) : AW C (.scope c) Q S := by
  intro a w hh b k cs hro hb hr
  have h0 : (lone (b.atR a (.code (.scope c) :: k)) cs w).fenced C.P C.fen := fenced_calm hb hr rfl
  obtain ⟨e, a₁, w₁, ⟨S', hq, hS'⟩, harr⟩ := h a w hh b (.inScope c :: k) cs hro hb hr
  cases e with
  | normal => exact ⟨.normal, a₁, w₁, ⟨S', hq, hS'⟩, .head h0 stepR_scope (StepsIn.trans harr (.one (fenced_calm hb hr rfl) stepR_inScope))⟩
  | exit id =>
    have hx : exitTo id (.inScope c :: k) = exitTo id k := by simp [exitTo]
    exact ⟨.exit id, a₁, w₁, ⟨S', hq, hS'⟩, fun k' hk => .head h0 stepR_scope (harr.1 k' (by rw [hx]; exact hk)),
      fun hr' hk => let ⟨k₁, h1, h2⟩ := harr.2 hr' (by rw [hx]; exact hk); ⟨k₁, h1, .head h0 stepR_scope h2⟩⟩
  | goto l => exact hq.elim
  | ret => exact ⟨_, a₁, w₁, ⟨S', hq, hS'⟩, .of_steps (.one h0 stepR_scope) harr⟩
  | panic ch => exact ⟨_, a₁, w₁, ⟨S', hq, hS'⟩, .of_steps (.one h0 stepR_scope) harr⟩
  | outgrown => exact ⟨_, a₁, w₁, ⟨S', hq, hS'⟩, .of_steps (.one h0 stepR_scope) harr⟩

/-! ### Function values by functions -/
def GF1 {α β : Type} (kx : Kd α) (ky : Kd β) (F : α → Option β) : List Asrt → Asrt → Prop := fun As B => ∃ x y, F x = some y ∧ As = [rd kx x] ∧ B = rd ky y
def GF2 {α β γ : Type} (kx : Kd α) (kz : Kd γ) (ky : Kd β) (F : α → γ → Option β) : List Asrt → Asrt → Prop := fun As B => ∃ x z y, F x z = some y ∧ As = [rd kx x, rd kz z] ∧ B = rd ky y
def fn1 {α β : Type} (P : Program) (kx : Kd α) (ky : Kd β) (F : α → Option β) : Asrt := fn0 P (GF1 kx ky F)
def fn2 {α β γ : Type} (P : Program) (kx : Kd α) (kz : Kd γ) (ky : Kd β) (F : α → γ → Option β) : Asrt := fn0 P (GF2 kx kz ky F)
instance {α β : Type} (P : Program) (kx : Kd α) (ky : Kd β) (F : α → Option β) : Dup (fn1 P kx ky F) := ⟨fun h => h⟩
instance {α β γ : Type} (P : Program) (kx : Kd α) (kz : Kd γ) (ky : Kd β) (F : α → γ → Option β) : Dup (fn2 P kx kz ky F) := ⟨fun h => h⟩

section fns
variable {C : Ctx} {S S' : St} {o : Oper} {α β γ : Type}
theorem op_fn1 {f : FuncId} {cs : List Operand} {CAs : List Asrt} {kx : Kd α} {ky : Kd β} (F : α → Option β) (ho : o.op = .makeFunc (.func f) #[] cs.toArray) (hd : dok o C.N = true) (he : Ent C.P f) (hc : Vals C S cs CAs) (hG : ∀ x y, F x = some y → PCon C.P f (rd kx x :: CAs) (rd ky y)) :
    OpE C o S (S.put o.dst (fn1 C.P kx ky F)) :=
  op_func (fs := []) (FAs := []) ho hd he trivial hc (by rintro _ _ ⟨x, y, h, rfl, rfl⟩; exact hG x y h)
theorem op_fn2 {f : FuncId} {cs : List Operand} {CAs : List Asrt} {kx : Kd α} {kz : Kd γ} {ky : Kd β} (F : α → γ → Option β) (ho : o.op = .makeFunc (.func f) #[] cs.toArray) (hd : dok o C.N = true) (he : Ent C.P f) (hc : Vals C S cs CAs) (hG : ∀ x z y, F x z = some y → PCon C.P f (rd kx x :: rd kz z :: CAs) (rd ky y)) :
    OpE C o S (S.put o.dst (fn2 C.P kx kz ky F)) :=
  op_func (fs := []) (FAs := []) ho hd he trivial hc (by rintro _ _ ⟨x, z, y, h, rfl, rfl⟩; exact hG x z y h)
theorem vf1 {f : FuncId} {kx : Kd α} {ky : Kd β} {F : α → Option β} (he : Ent C.P f) (hG : ∀ x y, F x = some y → PCon C.P f [rd kx x] (rd ky y)) : Val C S (.func f) (fn1 C.P kx ky F) :=
  vfn he (by rintro _ _ ⟨x, y, h, rfl, rfl⟩; exact hG x y h)
theorem vf2 {f : FuncId} {kx : Kd α} {kz : Kd γ} {ky : Kd β} {F : α → γ → Option β} (he : Ent C.P f) (hG : ∀ x z y, F x z = some y → PCon C.P f [rd kx x, rd kz z] (rd ky y)) : Val C S (.func f) (fn2 C.P kx kz ky F) :=
  vfn he (by rintro _ _ ⟨x, z, y, h, rfl, rfl⟩; exact hG x z y h)
theorem op_call1 {x p : Operand} {ts : Array TypeId} {kx : Kd α} {ky : Kd β} {F : α → Option β} {a : α} {b : β} (hF : F a = some b) (ho : o.op = .call { callee := .value x, args := #[p], argTypes := ts }) (hd : dok o C.N = true) (hx : Val C S x (fn1 C.P kx ky F)) (hp : Val C S p (rd kx a)) :
    OpE C o S (S.put o.dst (rd ky b)) :=
  op_callv (xs := [p]) ho hd hx ⟨a, b, hF, rfl, rfl⟩ ⟨hp, trivial⟩
theorem op_call2 {x p q : Operand} {ts : Array TypeId} {kx : Kd α} {kz : Kd γ} {ky : Kd β} {F : α → γ → Option β} {a : α} {c : γ} {b : β} (hF : F a c = some b) (ho : o.op = .call { callee := .value x, args := #[p, q], argTypes := ts }) (hd : dok o C.N = true) (hx : Val C S x (fn2 C.P kx kz ky F)) (hp : Val C S p (rd kx a)) (hq : Val C S q (rd kz c)) :
    OpE C o S (S.put o.dst (rd ky b)) :=
  op_callv (xs := [p, q]) ho hd hx ⟨a, c, b, hF, rfl, rfl⟩ ⟨hp, hq, trivial⟩

/-! own slices -/
theorem op_append' {T E : TypeId} {k : Kd α} {l m r : List α} {v : Value} {p q : Operand} (i : Nat) (hl : appd l m = some r) (ho : o.op = .call { callee := .builtin .append, args := #[p, q], argTypes := #[T, T] }) (hd : dok o C.N = true) (he : El C.P T E k) (hp : Val C S p (raw v)) (hr : S.r i = Row v E k l) (hq : Val C S q (rd (ksl k) m)) :
    OpT C o S (fun S' => ∃ v', S' = (S.put o.dst (raw v')).setr i (Row v' E k r)) := by
  obtain ⟨h1, rfl⟩ := appd_of hl
  exact op_append i ho hd he hp hr hq h1
theorem op_len' {T : TypeId} {E : TypeId} {k : Kd α} {l : List α} {p : Operand} (ho : o.op = .call { callee := .builtin .len, args := #[p], argTypes := #[T] }) (hd : dok o C.N = true) (ht : Sl C.P T E k) (hp : Val C S p (rd (ksl k) l)) :
    OpE C o S (S.put o.dst (rd (kint .i64) (l.length : Int))) := op_len (ts := #[]) ho hd ht hp
theorem ret1R {fn : Func} {t i : Nat} {E : TypeId} {k : Kd α} {l : List α} {v : Value} (hf : fn.results = #[.tmp t]) (hd : S.d = []) (hs : S.s t = raw v) (hr : S.r i = Row v E k l) : RetOK C fn S (fun v => raw v) (fun v => Row v E k l) :=
  ⟨hd, fun O a w hh => by
    have h1 : a.tmps.getD t undef = v := raw_eq (by have := hh.slot t; rwa [hs] at this)
    have h2 := hh.res i
    rw [hr] at h2
    refine ⟨v, v, fun b => O b = Ro i, ?_, fun b hb => by rw [hb]; exact Ro_pos i, rfl, ?_⟩
    · have e : results fn a.tmps = (do let vs ← fn.results.mapM (resF a.tmps); pure (if h : vs.size = 1 then vs[0] else .tuple vs)) := rfl
      rw [e, hf]
      simp only [Array.getD_eq_getD_getElem?] at h1
      simp [resF, h1]
    · refine (Row v E k l).mono ⟨Nat.le_refl _, fun b _ hn => ⟨?_, rfl⟩, fun b _ hb => ⟨hb, rfl⟩⟩ h2
      rintro (h | h)
      · exact hn (.inl h)
      · exact hn (.inr (by rw [h]; exact Ro_pos i))⟩
theorem ret0 {fn : Func} {B : Asrt} (hf : fn.results = #[]) (hd : S.d = []) : RetOK C fn S (fun _ : Unit => top) (fun _ => emp) :=
  ⟨hd, fun O a w hh => ⟨.tuple #[], (), none_, by
    have e : results fn a.tmps = (do let vs ← fn.results.mapM (resF a.tmps); pure (if h : vs.size = 1 then vs[0] else .tuple vs)) := rfl
    rw [e, hf]; simp, fun _ h => h.elim, trivial, trivial⟩⟩

/-! a block is read from now on -/
theorem Hold.freezeB {a : Act} {w : World} {t i g : Nat} {T : TypeId} {k : Kd α} {x : α} (hX : C.X = none_) (hs : S.s t = ptrL g (Lens.id k)) (hr : S.r i = Blk g T k x) (hh : Hold C S a w) : Hold C ((S.set t (rp k x)).setr i emp) a w := by
  obtain ⟨O, hh⟩ := hh
  have h3 := hh.res i
  rw [hr] at h3
  obtain ⟨hm, cs, hg, hc⟩ := h3
  have h1 : a.tmps.getD t undef = .pointer (some ⟨g, 0, none⟩) := raw_ptr (by have := hh.slot t; rwa [hs] at this)
  let O' : Nat → Nat := fun b => if O b = Ro i then 0 else O b
  have hO : ∀ b, O' b ≠ 0 → O b ≠ 0 ∧ O' b = O b := fun b h => by
    by_cases e : O b = Ro i
    · exact absurd (if_pos e) h
    · exact ⟨fun e0 => h (by simp only [O']; rw [if_neg e, e0]), if_neg e⟩
  have hext : Ext w (hid C O) none_ w (hid C O') none_ := ⟨Nat.le_refl _, fun b _ hn => ⟨fun h => hn (h.imp id fun h => (hO b h).1), rfl⟩, fun _ _ h => h.elim⟩
  have go : Goes C (fun q => q = Ro i) O w O' w := ⟨rfl, rfl, rfl, Nat.le_refl _, fun b hb hq => ⟨if_neg hq, rfl⟩, fun b h => .inl (hO b h).1, fun b h => (hh.own b (hO b h).1).2, fun h => Ro_pos i h.symm⟩
  have hmg : O g = Ro i := hm
  refine ⟨O', hh.goes go rfl rfl rfl (fun s => ?_) (fun j => ?_)⟩
  · by_cases e : s = t
    · subst e
      right
      simp only [St.set, St.setr, upd_same]
      rw [h1]
      refine ⟨g, 0, cs, rfl, (Array.getElem?_eq_some_iff.1 hg).1, ?_, k.mono hext hc, At.row hg (by simp)⟩
      rintro (h | h)
      · have h6 := (hh.own g (by rw [hmg]; exact Ro_pos i)).1
        rw [hX] at h6
        have h7 := hh.h0 g h
        rcases h6 with h6 | h6
        · omega
        · exact h6
      · exact h (if_pos hmg)
    · exact .inl ⟨by simp only [St.set, St.setr]; exact upd_other _ _ e, So_ne_Ro s i, rfl⟩
  · by_cases e : j = i
    · subst e
      right
      simp only [St.setr, upd_same]
      trivial
    · exact .inl ⟨by simp only [St.setr]; rw [upd_other _ _ e]; rfl, fun h => e (Ro_inj h)⟩
theorem AW.freezeB {Q : Exit → St → Prop} {c : Code} (t i : Nat) {g : Nat} {T : TypeId} {k : Kd α} {x : α} (hX : C.X = none_) (hs : S.s t = ptrL g (Lens.id k)) (hr : S.r i = Blk g T k x) (h : AW C c Q ((S.set t (rp k x)).setr i emp)) : AW C c Q S :=
  fun a w hh => h a w (hh.freezeB hX hs hr)
theorem AOps.freezeB {ops : Array Oper} {Q : Exit → St → Prop} {c : List Oper} (t i : Nat) {g : Nat} {T : TypeId} {k : Kd α} {x : α} (hX : C.X = none_) (hs : S.s t = ptrL g (Lens.id k)) (hr : S.r i = Blk g T k x) (h : AOps C ops Q c ((S.set t (rp k x)).setr i emp)) : AOps C ops Q c S :=
  fun a w hh => h a w (hh.freezeB hX hs hr)
theorem op_nilCheckp {k : Kd α} {x : α} {p : Operand} (ho : o.op = .nilCheck p) (hd : dok o C.N = true) (hp : Val C S p (rp k x)) : OpE C o S (S.put o.dst (rp k x)) :=
  OpE.plain (by simp [ho]) hd fun O a w hh => by
    have h0 := hp.of hh
    obtain ⟨b, off, cs, h1, hb, hn, hc, hat⟩ := h0
    exact ⟨_, by simp [execOp, ho, h1], b, off, cs, rfl, hb, hn, hc, hat⟩
/-- an array's value, element by element -/
theorem run_part {P : Program} {w : World} {H : HS} {E : TypeId} {k : Kd α} {x : α} {cs c : List Value} {off : Nat} (ht : Ty P E k) (hc : k.C w H x c) (he : (cs.drop off).take k.sz = c) : (part E cs.toArray off).run P w = .ok (mkv k.agg c) w := by
  obtain ⟨i, d, hi, hu, ha, hs⟩ := ht.out
  have hagg : (isAgg E).run P w = .ok k.agg w := by
    unfold isAgg
    rw [Sem.run_bind, run_underlying hu w]
    rw [← ha]
    cases d <;> simp [isAggD]
  cases hk : k.agg with
  | true =>
    have e : cs.toArray.extract off (off + k.sz) = c.toArray := by
      apply Array.ext'
      rw [← he]
      simp
    simp only [part, Sem.run_bind, hagg, hk, sizeOf, typeInfo, run_program, Result.andThen_ok, hi, hs, mkv, if_true, Sem.run_pure, e, cond_true]
  | false =>
    have h1 : c.length = 1 := (k.len hc).trans (k.flat hk)
    match c, h1 with
    | [v], _ =>
      have h2 : cs[off]? = some v := by
        have := congrArg (fun l : List Value => l[0]?) he
        simp only [List.getElem?_take, List.getElem?_drop] at this
        rw [k.flat hk] at this
        simpa using this
      simp [part, Sem.run_bind, hagg, hk, h2, mkv]
theorem op_indexv {T E : TypeId} {n : Nat} {k : Kd α} {v : Vector α n} {i : Int} {x : α} {p q : Operand} {ik : IntKind} (ho : o.op = .index T p q) (hd : dok o C.N = true) (ht : Ar C.P T E n k) (hE : Ty C.P E k) (hp : Val C S p (rd (karr n k) v)) (hq : Val C S q (rd (kint ik) i)) (hx : lget v.toList i = some x) :
    OpE C o S (S.put o.dst (rd k x)) :=
  OpE.plain (by simp [ho]) hd fun O a w hh => by
    obtain ⟨h0, h1⟩ := lget_of hx
    obtain ⟨h2, h3⟩ := List.getElem?_eq_some_iff.1 h1
    obtain ⟨cs, hc, hv⟩ := hp.of hh
    have hi := (rd_int (hq.of hh)).1
    obtain ⟨hu, ti, hti, hs⟩ := ht.out
    have hg := Cells.get (k := k) hc i.toNat h2
    rw [h3] at hg
    have hpart := run_part (P := C.P) hE hg rfl
    have h4 : (0 : Int) ≤ i ∧ i < n := ⟨h0, by simp at h2; omega⟩
    refine ⟨_, ?_, _, hg, rfl⟩
    have hv' : a.eval p = .agg cs.toArray := by simpa [mkv, karr] using hv
    simp [execOp, ho, hv', hi, Instr.index, asIntOf, run_underlying hu, h4, sizeOf, typeInfo, hti, hs, hpart]
end fns

/-! ### Counting -/
structure Cnt (n : Int) (i m : Nat) : Prop where
  e : (n - (i : Int)).toNat = m
theorem Cnt.start (n : Int) : Cnt n 0 n.toNat := ⟨by simp⟩
theorem Cnt.zero {n : Int} {i : Nat} (h : Cnt n i 0) : ¬ ((i : Int) < n) := by have := h.e; omega
theorem Cnt.succ {n : Int} {i m : Nat} (h : Cnt n i (m + 1)) : (i : Int) < n := by have := h.e; omega
theorem Cnt.next {n : Int} {i m : Nat} (h : Cnt n i (m + 1)) : Cnt n (i + 1) m := ⟨by have := h.e; omega⟩
theorem Sfx.niln {α : Type} {L : List α} {i : Nat} {n : Int} (h : Sfx L i []) (e : (L.length : Int) = n) : ¬ ((i : Int) < n) := e ▸ h.nil
theorem Sfx.consn {α : Type} {L l : List α} {x : α} {i : Nat} {n : Int} (h : Sfx L i (x :: l)) (e : (L.length : Int) = n) : (i : Int) < n := e ▸ h.cons
/-- rounds of a loop whose end is not in its text -/
def fuel0 : Nat := 4294967296

/-! ### Parts of slices -/
section slices
variable {C : Ctx} {S : St} {o : Oper} {α : Type} {T E : TypeId} {k : Kd α} {l s : List α} {p q r : Operand} {ik jk : IntKind} {lo hi : Int}
theorem op_slice_lh' (h : oslice l lo hi = some s) (ho : o.op = .slice T p (some q) (some r) none) (hd : dok o C.N = true) (ht : Sl C.P T E k) (hp : Val C S p (rd (ksl k) l)) (hq : Val C S q (rd (kint ik) lo)) (hr : Val C S r (rd (kint jk) hi)) : OpE C o S (S.put o.dst (rd (ksl k) s)) := by
  obtain ⟨h0, h1, h2, rfl⟩ := oslice_of h
  exact op_slice_lh ho hd ht hp hq hr h0 h1 h2
theorem op_slice_h' (h : otake l hi = some s) (ho : o.op = .slice T p none (some r) none) (hd : dok o C.N = true) (ht : Sl C.P T E k) (hp : Val C S p (rd (ksl k) l)) (hr : Val C S r (rd (kint jk) hi)) : OpE C o S (S.put o.dst (rd (ksl k) s)) := by
  obtain ⟨h0, h1, rfl⟩ := otake_of h
  exact op_slice_h ho hd ht hp hr h0 h1
theorem op_slice_l' (h : odrop l lo = some s) (ho : o.op = .slice T p (some q) none none) (hd : dok o C.N = true) (ht : Sl C.P T E k) (hp : Val C S p (rd (ksl k) l)) (hq : Val C S q (rd (kint ik) lo)) : OpE C o S (S.put o.dst (rd (ksl k) s)) := by
  obtain ⟨h0, h1, rfl⟩ := odrop_of h
  exact op_slice_l ho hd ht hp hq h0 h1
end slices
end Go.Wb
