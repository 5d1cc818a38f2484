/- WbL: a part of the proof. -/
import Derived.Test.YtokmmcflinnfiabWbK
set_option linter.unusedVariables false
set_option linter.unusedSimpArgs false
namespace Go.Wb
open Go

/-! ### Function values -/
/-- A function's value is called. -/
def CV (P : Program) (v : Value) (vs : List Value) (w : World) (R : Ending → World → Prop) : Prop :=
  (∃ f fst cap, v = .func (.func f) fst cap ∧ Ent P f ∧ Calls P f (fst ++ vs.toArray ++ cap) w R) ∨
  (∃ l f tmps assign body, v = .func (.yield l) #[] #[] ∧ (Instr.yield l vs.toArray).run P w = .ok (.round l f tmps assign body) w ∧ ∀ ro, RoundIn { Fence.wide with round := ro } 0 P l f tmps assign body w R)

theorem CV.mono {P : Program} {v : Value} {vs : List Value} {w : World} {R R' : Ending → World → Prop} (h : CV P v vs w R) (hr : ∀ e w', R e w' → R' e w') : CV P v vs w R' := by
  rcases h with ⟨f, fst, cap, h1, h2, h3⟩ | ⟨l, f, tmps, assign, body, h1, h2, h3⟩
  · exact .inl ⟨f, fst, cap, h1, h2, h3.mono hr⟩
  · exact .inr ⟨l, f, tmps, assign, body, h1, h2, fun ro => (h3 ro).mono hr⟩

/-- A function's value that only makes values: G tells of which arguments which. -/
def fn0 (P : Program) (G : List Asrt → Asrt → Prop) : Asrt where
  R := fun w H _ v => ∀ (w' : World) (H' : HS) As B vs, G As B → Ext w H none_ w' H' none_ → (∀ b, H' b → b < w'.heap.size) → Args w' H' As vs →
    CV P v vs w' (fun e w'' => ∃ u, e = .returned u ∧ Fin w' none_ w'' none_ ∧ B.R w'' H' none_ u)
  mono := fun h k w' H' As B vs hG he => k w' H' As B vs hG (h.pure_.trans he)
/-- A function's value that turns what is owned. -/
def fnR (P : Program) (G : List Asrt → Res → Asrt → Res → Prop) : Asrt where
  R := fun w H _ v => v.oneCell' = true ∧ ∀ (w' : World) (H' X : HS) As R B R' vs, G As R B R' → Ext w H none_ w' H' none_ → (∀ b, H' b → b < w'.heap.size) → (∀ b, X b → H' b ∧ b < w'.heap.size) → Args w' H' As vs → R.R w' H' X →
    CV P v vs w' (fun e w'' => ∃ u X', e = .returned u ∧ Fin w' X w'' X' ∧ B.R w'' (join H' X') none_ u ∧ R'.R w'' (join H' X') X')
  mono := fun h ⟨k0, k⟩ => ⟨k0, fun w' H' X As R B R' vs hG he => k w' H' X As R B R' vs hG (h.pure_.trans he)⟩
instance (P : Program) (G : List Asrt → Asrt → Prop) : Dup (fn0 P G) := ⟨fun h => h⟩
instance (P : Program) (G : List Asrt → Res → Asrt → Res → Prop) : Dup (fnR P G) := ⟨fun h => h⟩

/-- A function's value that is entered, and turns what is owned (an iterator's). -/
def fnS (P : Program) (G : List Asrt → Res → Asrt → Res → Prop) : Asrt where
  R := fun w H _ v => ∃ f fst cap, v = .func (.func f) fst cap ∧ Ent P f ∧ ∀ (w' : World) (H' X : HS) As R B R' vs, G As R B R' → Ext w H none_ w' H' none_ → (∀ b, H' b → b < w'.heap.size) → (∀ b, X b → H' b ∧ b < w'.heap.size) → Args w' H' As vs → R.R w' H' X →
    Calls P f (fst ++ vs.toArray ++ cap) w' (fun e w'' => ∃ u X', e = .returned u ∧ Fin w' X w'' X' ∧ B.R w'' (join H' X') none_ u ∧ R'.R w'' (join H' X') X')
  mono := fun h ⟨f, fst, cap, hv, he, k⟩ => ⟨f, fst, cap, hv, he, fun w' H' X As R B R' vs hG he => k w' H' X As R B R' vs hG (h.pure_.trans he)⟩
instance (P : Program) (G : List Asrt → Res → Asrt → Res → Prop) : Dup (fnS P G) := ⟨fun h => h⟩

section fns
variable {C : Ctx} {S S' : St} {o : Oper}

theorem wp_cv {a : Act} {w : World} {x : Operand} {xs : List Operand} {ts : Array TypeId} {R : Ending → World → Prop} {next : Act → World → Prop} (ho : o.op = .call { callee := .value x, args := xs.toArray, argTypes := ts })
    (h : CV C.P (a.eval x) (xs.map a.eval) w R) (hR : ∀ e w', R e w' → ∃ v, e = .returned v ∧ next (a.put o.dst v) w') : o.wpIn C.fen 0 C.P a w next (fun _ _ _ => False) := by
  refine ⟨fun _ _ => trivial, ?_⟩
  rw [Oper.semAt_eq _ _ _ (by simp [ho])]
  rcases h with ⟨f, fst, cap, h1, h2, h3⟩ | ⟨l, f, tmps, assign, body, h1, h2, h3⟩
  · have hrun : (execOp a.eval o).run C.P w = .ok (.enter f (fst ++ (xs.map a.eval).toArray ++ cap)) w := by
      simp only [execOp, ho, resolve, h1, Deferred.ofValue, Sem.run_bind, Sem.run_pure, Result.andThen_ok, invoke]
      simpa using h2 _ w
    rw [hrun]
    refine ⟨fun h => by simp [Ctx.fen, Fence.wide] at h, callsIn_fen (h3.mono ?_)⟩
    rintro e w' hr
    obtain ⟨v, rfl, hn⟩ := hR e w' hr
    exact hn
  · have hrun : (execOp a.eval o).run C.P w = .ok (.round l f tmps assign body) w := by
      simp only [execOp, ho, resolve, h1, Deferred.ofValue, Sem.run_bind, Sem.run_pure, Result.andThen_ok, invoke]
      simpa using h2
    rw [hrun]
    refine ⟨fun h => by simp [Ctx.fen, Fence.wide] at h, (h3 C.ro).mono ?_⟩
    rintro e w' hr
    obtain ⟨v, rfl, hn⟩ := hR e w' hr
    exact hn

theorem op_callv {x : Operand} {xs : List Operand} {ts : Array TypeId} {G : List Asrt → Asrt → Prop} {As : List Asrt} {B : Asrt} (ho : o.op = .call { callee := .value x, args := xs.toArray, argTypes := ts }) (hd : dok o C.N = true) (hx : Val C S x (fn0 C.P G)) (hG : G As B) (hv : Vals C S xs As) :
    OpE C o S (S.put o.dst B) := by
  rintro a w ⟨O, hh⟩
  refine wp_cv ho (hx.of hh w (hid C O) As B _ hG (Ext.refl _ _ _) hh.hid_lt (hv.args hh)) ?_
  rintro e w' ⟨v, rfl, hf, hB⟩
  exact ⟨v, rfl, _, rfl, O, hh.yield ⟨hf.os, hf.tape, hf.output, hf.size, fun b hb _ => ⟨rfl, hf.same b hb (fun h => h)⟩, fun b h => .inl h, fun b h => Nat.lt_of_lt_of_le (hh.own b h).2 hf.size, fun h => h⟩ (dok_lt hd) hB⟩

/-- The state behind a call that was given what number i owns. -/
theorem hold_call {O : Nat → Nat} {a : Act} {w w' : World} {X' : HS} {B : Asrt} {R' : Res} {v : Value} (i : Nat) (hh : HoldO C S O a w) (hd : dok o C.N = true) (hf : Fin w (fun b => O b = Ro i) w' X') (hB : B.R w' (join (hid C O) X') none_ v) (hR : R'.R w' (join (hid C O) X') X') :
    Hold C ((S.put o.dst B).setr i R') (a.put o.dst v) w' := by
  classical
  let O' : Nat → Nat := fun b => if X' b then Ro i else O b
  have hO : ∀ b, X' b → O' b = Ro i := fun b h => if_pos h
  have hO2 : ∀ b, ¬ X' b → O' b = O b := fun b h => if_neg h
  have hj : Ext w' (join (hid C O) X') none_ w' (hid C O') none_ := by
    refine ⟨Nat.le_refl _, fun b _ hn => ⟨?_, rfl⟩, fun _ _ h => h.elim⟩
    rintro (h | h)
    · exact hn (.inl (.inl h))
    · by_cases hx : X' b
      · exact hn (.inr hx)
      · rw [hO2 b hx] at h; exact hn (.inl (.inr h))
  have go : Goes C (fun q => q = Ro i) O w O' w' := by
    refine ⟨hf.os, hf.tape, hf.output, hf.size, fun b hb hq => ?_, fun b h => ?_, fun b h => ?_, fun h => Ro_pos i h.symm⟩
    · have hnx : ¬ X' b := fun hx => by
        rcases (hf.own b hx).1 with h1 | h1
        · exact hq h1
        · omega
      exact ⟨hO2 b hnx, hf.same b hb hq⟩
    · by_cases hx : X' b
      · rcases (hf.own b hx).1 with h1 | h1
        · left; rw [h1]; exact Ro_pos i
        · exact .inr h1
      · rw [hO2 b hx] at h; exact .inl h
    · by_cases hx : X' b
      · exact (hf.own b hx).2
      · rw [hO2 b hx] at h; exact Nat.lt_of_lt_of_le (hh.own b h).2 hf.size
  refine ⟨O', hh.goes go (put_defers ..) (by cases o.dst <;> rfl) (put_size ..) (fun t => ?_) (fun j => ?_)⟩
  · cases hdst : o.dst with
    | none => exact .inl ⟨rfl, So_ne_Ro t i, rfl⟩
    | some d =>
      by_cases e : t = d
      · subst e
        right
        have hlt : t < a.tmps.size := hh.n ▸ dok_lt hd t hdst
        rw [put_same hlt]
        simp only [St.put, St.set, St.setr, upd_same]
        exact B.mono Ext.any (B.mono hj hB)
      · exact .inl ⟨by simp only [St.put, St.set, St.setr]; exact upd_other _ _ e, So_ne_Ro t i, put_other e _⟩
  · by_cases e : j = i
    · subst e
      right
      simp only [St.setr, upd_same]
      exact R'.mono ⟨hj.size, hj.vis, fun b _ hx => ⟨hO b hx, rfl⟩⟩ hR
    · exact .inl ⟨by simp only [St.setr]; rw [upd_other _ _ e]; cases o.dst <;> rfl, fun h => e (Ro_inj h)⟩

theorem op_callvR {x : Operand} {xs : List Operand} {ts : Array TypeId} {G : List Asrt → Res → Asrt → Res → Prop} {As : List Asrt} {R : Res} {B : Asrt} {R' : Res} (i : Nat) (ho : o.op = .call { callee := .value x, args := xs.toArray, argTypes := ts }) (hd : dok o C.N = true) (hx : Val C S x (fnR C.P G)) (hG : G As R B R') (hv : Vals C S xs As) (hr : S.r i = R) :
    OpE C o S ((S.put o.dst B).setr i R') := by
  rintro a w ⟨O, hh⟩
  have hres := hh.res i
  rw [hr] at hres
  refine wp_cv ho ((hx.of hh).2 w (hid C O) (fun b => O b = Ro i) As R B R' _ hG (Ext.refl _ _ _) hh.hid_lt (fun b hb => ⟨.inr (by rw [hb]; exact Ro_pos i), (hh.own b (by rw [hb]; exact Ro_pos i)).2⟩) (hv.args hh) hres) ?_
  rintro e w' ⟨v, X', rfl, hf, hB, hR⟩
  exact ⟨v, rfl, _, rfl, hold_call i hh hd hf hB hR⟩

theorem Args.append {w : World} {H : HS} : ∀ {As Bs : List Asrt} {vs us : List Value}, Args w H As vs → Args w H Bs us → Args w H (As ++ Bs) (vs ++ us)
  | [], _, [], _, _, h => h
  | _ :: _, _, _ :: _, _, ⟨h1, h2⟩, h => ⟨h1, Args.append h2 h⟩
  | [], _, _ :: _, _, h, _ => h.elim
  | _ :: _, _, [], _, h, _ => h.elim

theorem fn0_of {P : Program} {f : FuncId} {G : List Asrt → Asrt → Prop} {FAs CAs : List Asrt} {w : World} {H M : HS} {fs cs : List Value} (he : Ent P f) (hG : ∀ As B, G As B → PCon P f (FAs ++ As ++ CAs) B) (hf : Args w H FAs fs) (hc : Args w H CAs cs) :
    (fn0 P G).R w H M (.func (.func f) fs.toArray cs.toArray) := by
  intro w' H' As B vs hGA hext hH hA
  refine .inl ⟨f, fs.toArray, cs.toArray, rfl, he, ?_⟩
  have := hG As B hGA w' H' (fs ++ vs ++ cs) hH (((hf.mono hext).append hA).append (hc.mono hext))
  simpa using this
theorem fnR_of {P : Program} {f : FuncId} {G : List Asrt → Res → Asrt → Res → Prop} {FAs CAs : List Asrt} {w : World} {H M : HS} {fs cs : List Value} (he : Ent P f) (hG : ∀ As R B R', G As R B R' → Con P f (FAs ++ As ++ CAs) R (fun _ : Unit => B) (fun _ => R')) (hf : Args w H FAs fs) (hc : Args w H CAs cs) :
    (fnR P G).R w H M (.func (.func f) fs.toArray cs.toArray) := by
  refine ⟨rfl, ?_⟩
  intro w' H' X As R B R' vs hGA hext hH hX hA hR
  refine .inl ⟨f, fs.toArray, cs.toArray, rfl, he, ?_⟩
  have h0 := hG As R B R' hGA w' H' X (fs ++ vs ++ cs) hH hX (((hf.mono hext).append hA).append (hc.mono hext)) hR
  have e : (fs ++ vs ++ cs).toArray = fs.toArray ++ vs.toArray ++ cs.toArray := by simp
  rw [e] at h0
  exact h0.mono fun e w'' ⟨v, _, X', h⟩ => ⟨v, X', h⟩

theorem fnS_of {P : Program} {f : FuncId} {G : List Asrt → Res → Asrt → Res → Prop} {FAs CAs : List Asrt} {w : World} {H M : HS} {fs cs : List Value} (he : Ent P f) (hG : ∀ As R B R', G As R B R' → Con P f (FAs ++ As ++ CAs) R (fun _ : Unit => B) (fun _ => R')) (hf : Args w H FAs fs) (hc : Args w H CAs cs) :
    (fnS P G).R w H M (.func (.func f) fs.toArray cs.toArray) := by
  refine ⟨f, fs.toArray, cs.toArray, rfl, he, ?_⟩
  intro w' H' X As R B R' vs hGA hext hH hX hA hR
  have h0 := hG As R B R' hGA w' H' X (fs ++ vs ++ cs) hH hX (((hf.mono hext).append hA).append (hc.mono hext)) hR
  have e : (fs ++ vs ++ cs).toArray = fs.toArray ++ vs.toArray ++ cs.toArray := by simp
  rw [e] at h0
  exact h0.mono fun e w'' ⟨v, _, X', h⟩ => ⟨v, X', h⟩
theorem op_funcS {f : FuncId} {fs cs : List Operand} {G : List Asrt → Res → Asrt → Res → Prop} {FAs CAs : List Asrt} (ho : o.op = .makeFunc (.func f) fs.toArray cs.toArray) (hd : dok o C.N = true) (he : Ent C.P f) (hf : Vals C S fs FAs) (hc : Vals C S cs CAs) (hG : ∀ As R B R', G As R B R' → Con C.P f (FAs ++ As ++ CAs) R (fun _ : Unit => B) (fun _ => R')) :
    OpE C o S (S.put o.dst (fnS C.P G)) :=
  OpE.plain (by simp [ho]) hd fun O a w hh => ⟨.func (.func f) (fs.map a.eval).toArray (cs.map a.eval).toArray, by simp [execOp, ho, Instr.makeFunc], fnS_of he hG (hf.args hh) (hc.args hh)⟩
theorem op_callS {x : Operand} {xs : List Operand} {ts : Array TypeId} {G : List Asrt → Res → Asrt → Res → Prop} {As : List Asrt} {R : Res} {B : Asrt} {R' : Res} (i : Nat) (ho : o.op = .call { callee := .value x, args := xs.toArray, argTypes := ts }) (hd : dok o C.N = true) (hx : Val C S x (fnS C.P G)) (hG : G As R B R') (hv : Vals C S xs As) (hr : S.r i = R) :
    OpE C o S ((S.put o.dst B).setr i R') := by
  rintro a w ⟨O, hh⟩
  have hres := hh.res i
  rw [hr] at hres
  obtain ⟨f, fst, cap, h1, h2, h3⟩ := hx.of hh
  refine wp_cv ho (.inl ⟨f, fst, cap, h1, h2, h3 w (hid C O) (fun b => O b = Ro i) As R B R' _ hG (Ext.refl _ _ _) hh.hid_lt (fun b hb => ⟨.inr (by rw [hb]; exact Ro_pos i), (hh.own b (by rw [hb]; exact Ro_pos i)).2⟩) (hv.args hh) hres⟩) ?_
  rintro e w' ⟨v, X', rfl, hf, hB, hR⟩
  exact ⟨v, rfl, _, rfl, hold_call i hh hd hf hB hR⟩

theorem op_func {f : FuncId} {fs cs : List Operand} {G : List Asrt → Asrt → Prop} {FAs CAs : List Asrt} (ho : o.op = .makeFunc (.func f) fs.toArray cs.toArray) (hd : dok o C.N = true) (he : Ent C.P f) (hf : Vals C S fs FAs) (hc : Vals C S cs CAs) (hG : ∀ As B, G As B → PCon C.P f (FAs ++ As ++ CAs) B) :
    OpE C o S (S.put o.dst (fn0 C.P G)) :=
  OpE.plain (by simp [ho]) hd fun O a w hh => ⟨.func (.func f) (fs.map a.eval).toArray (cs.map a.eval).toArray, by simp [execOp, ho, Instr.makeFunc], fn0_of he hG (hf.args hh) (hc.args hh)⟩
theorem op_funcR {f : FuncId} {fs cs : List Operand} {G : List Asrt → Res → Asrt → Res → Prop} {FAs CAs : List Asrt} (ho : o.op = .makeFunc (.func f) fs.toArray cs.toArray) (hd : dok o C.N = true) (he : Ent C.P f) (hf : Vals C S fs FAs) (hc : Vals C S cs CAs) (hG : ∀ As R B R', G As R B R' → Con C.P f (FAs ++ As ++ CAs) R (fun _ : Unit => B) (fun _ => R')) :
    OpE C o S (S.put o.dst (fnR C.P G)) :=
  OpE.plain (by simp [ho]) hd fun O a w hh => ⟨.func (.func f) (fs.map a.eval).toArray (cs.map a.eval).toArray, by simp [execOp, ho, Instr.makeFunc], fnR_of he hG (hf.args hh) (hc.args hh)⟩
theorem vfn {f : FuncId} {G : List Asrt → Asrt → Prop} (he : Ent C.P f) (hG : ∀ As B, G As B → PCon C.P f As B) : Val C S (.func f) (fn0 C.P G) := fun O a w hh =>
  fn0_of (FAs := []) (CAs := []) (fs := []) (cs := []) he (fun As B h => by simpa using hG As B h) trivial trivial
theorem vfnR {f : FuncId} {G : List Asrt → Res → Asrt → Res → Prop} (he : Ent C.P f) (hG : ∀ As R B R', G As R B R' → Con C.P f As R (fun _ : Unit => B) (fun _ => R')) : Val C S (.func f) (fnR C.P G) := fun O a w hh =>
  fnR_of (FAs := []) (CAs := []) (fs := []) (cs := []) he (fun As R B R' h => by simpa using hG As R B R' h) trivial trivial

/-! lists of owned things -/
def StarR (r : Nat → Res) : Res where
  R := fun w H M => ∃ O : Nat → Nat, (∀ b, O b ≠ 0 → M b ∧ b < w.heap.size) ∧ ∀ i, (r i).R w H (fun b => O b = Ro i)
  mono := by
    rintro w H M w' H' M' h ⟨O, h1, h2⟩
    exact ⟨O, fun b hb => ⟨(h.own b (h1 b hb).2 (h1 b hb).1).1, Nat.lt_of_lt_of_le (h1 b hb).2 h.size⟩, fun i => (r i).mono ⟨h.size, h.vis, fun b hlt hb => ⟨hb, (h.own b hlt (h1 b (by rw [hb]; exact Ro_pos i)).1).2⟩⟩ (h2 i)⟩
end fns
end Go.Wb
