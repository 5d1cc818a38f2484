/- WbQ: a part of the proof. -/
import Derived.Test.YtokmmcflinnfiabWbP
set_option linter.unusedVariables false
set_option linter.unusedSimpArgs false
namespace Go.Wb
open Go

/-! ### What a slot owns itself -/
def ownP {α : Type} (T : TypeId) (k : Kd α) (x : α) : Asrt :=
  ⟨fun w H M v => ∃ g, ∃ cs : List Value, v = .pointer (some ⟨g, 0, none⟩) ∧ M g ∧ w.heap[g]? = some (.cells cs.toArray T (0, 0)) ∧ k.C w H x cs,
   fun h ⟨g, cs, hv, hm, hg, hc⟩ => let ⟨a, b⟩ := h.own g (Array.getElem?_eq_some_iff.1 hg).1 hm; ⟨g, cs, hv, a, b.trans hg, Kd.mono _ h.pure_ hc⟩⟩
def ownR {α : Type} (E : TypeId) (k : Kd α) (l : List α) : Asrt :=
  ⟨fun w H M v => (Row v E k l).R w H M, fun h hr => (Row _ E k l).mono h hr⟩

section slots
variable {C : Ctx} {S S' : St} {o : Oper} {α : Type}

/-- A block for a slot. -/
theorem hold_boxO {O : Nat → Nat} {a : Act} {w : World} {T : TypeId} {k : Kd α} {x : α} {cs : List Value} {d : Nat} (hh : HoldO C S O a w) (hdst : o.dst = some d) (hd : dok o C.N = true) (hc : k.C w (hid C O) x cs) :
    Hold C (S.put o.dst (ownP T k x)) (a.put o.dst (.pointer (some ⟨w.heap.size, 0, none⟩))) (w.alloc (.cells cs.toArray T)) := by
  have go := goes_alloc hh (So d) (So_pos d) (.cells cs.toArray T)
  refine ⟨_, hh.goes go (put_defers ..) (by cases o.dst <;> rfl) (put_size ..) (fun t => ?_) (fun j => .inl ⟨by cases o.dst <;> rfl, fun h => So_ne_Ro d j h.symm⟩)⟩
  rw [hdst]
  by_cases e : t = d
  · subst e
    right
    have hlt : t < a.tmps.size := hh.n ▸ dok_lt hd t hdst
    rw [put_same hlt]
    simp only [St.put, St.set, upd_same]
    refine ⟨w.heap.size, cs, rfl, if_pos rfl, heap_alloc_new w _, k.mono ⟨by simp, fun b hb hn => ⟨?_, heap_alloc_old w _ b hb⟩, fun _ _ h => h.elim⟩ hc⟩
    rintro (h | h)
    · exact hn (.inl h)
    · rw [if_neg (by omega)] at h; exact hn (.inr h)
  · exact .inl ⟨by simp only [St.put, St.set]; exact upd_other _ _ e, fun h => e (So_inj h), put_other e _⟩
theorem op_boxO {T : TypeId} {k : Kd α} {x : α} {p : Operand} {d : Nat} (ho : o.op = .box T p) (hdst : o.dst = some d) (hd : dok o C.N = true) (hp : Val C S p (rd k x)) : OpE C o S (S.put o.dst (ownP T k x)) :=
  OpE.value (by simp [ho]) fun O a w hh => by
    obtain ⟨cs, hc, hv⟩ := hp.of hh
    refine ⟨.pointer (some ⟨w.heap.size, 0, none⟩), w.alloc (.cells cs.toArray T), ?_, hold_boxO hh hdst hd hc⟩
    simp [execOp, ho, hv, Instr.box, newVar, newRow, mkv_cells' hc]
theorem op_allocO {T : TypeId} {k : Kd α} {z : α} {d : Nat} (ho : o.op = .alloc T) (hdst : o.dst = some d) (hd : dok o C.N = true) (hz : Zr C.P T k z) : OpE C o S (S.put o.dst (ownP T k z)) :=
  OpE.value (by simp [ho]) fun O a w hh => by
    obtain ⟨ti, zv, hi, hzv, hc⟩ := hz.out
    refine ⟨.pointer (some ⟨w.heap.size, 0, none⟩), w.alloc (.cells zv.cells.toList.toArray T), ?_, hold_boxO hh hdst hd (hc w (hid C O))⟩
    simp [execOp, ho, Instr.alloc, zeroValue, typeInfo, hi, hzv, newVar, newRow]
theorem op_storeO {T T' : TypeId} {k : Kd α} {x y : α} {t : Nat} {q : Operand} (ho : o.op = .store T (.tmp t) q) (hd : o.dst = none) (ht : Ty C.P T k) (hp : S.s t = ownP T' k x) (hq : Val C S q (rd k y)) : OpE C o S (S.set t (ownP T' k y)) :=
  OpE.skip (by simp [ho]) fun O a w hh => by
    have h1 := hh.slot t
    rw [hp] at h1
    obtain ⟨g, cs, hv, hm, hg, hc⟩ := h1
    obtain ⟨c, h4, h5⟩ := hq.of hh
    have hev : a.eval (.tmp t) = .pointer (some ⟨g, 0, none⟩) := hv
    have hrun := run_store_at (off := 0) hg ht h4 (by rw [k.len hc]; omega)
    have hlay : lay cs 0 c = c := lay_whole (by rw [k.len hc, k.len h4])
    rw [hlay] at hrun
    refine ⟨w.setRow g c.toArray, by simp [execOp, ho, hev, h5, Instr.storeAt, Instr.sureAddr, hrun], O, ?_⟩
    rw [hd]
    have hOg : O g = So t := hm
    have go := goes_setRow hh (g := g) (by rw [hOg]; exact So_pos t) c.toArray
    have hx : Ext w (hid C O) none_ (w.setRow g c.toArray) (hid C O) none_ := ⟨by simp, fun b hb hn => ⟨hn, setRow_other w g b _ (fun e => hn (.inr (by rw [e, hOg]; exact So_pos t)))⟩, fun _ _ h => h.elim⟩
    refine hh.goes go rfl rfl rfl (fun s => ?_) (fun j => .inl ⟨rfl, by rw [hOg]; exact fun h => So_ne_Ro t j h.symm⟩)
    by_cases e : s = t
    · subst e
      right
      simp only [St.set, upd_same]
      exact ⟨g, c, hv, hm, setRow_heap w g _ _ _ _ hg, k.mono hx h4⟩
    · exact .inl ⟨by simp only [St.set]; exact upd_other _ _ e, by rw [hOg]; exact fun h => e (So_inj h), rfl⟩

/-- What is owned passes from a slot to a resource. -/
theorem hold_pass {O : Nat → Nat} {a : Act} {w : World} {t i : Nat} {A : Asrt} {R : Res} (hh : HoldO C S O a w) (hA : ∀ O', (∀ b, O' b ≠ 0 → O b ≠ 0) → A.R w (hid C O') none_ (a.tmps.getD t undef))
    (hR : ∀ O', (∀ b, (O' b ≠ 0 ↔ O b ≠ 0)) → (∀ b, O b = So t → O' b = Ro i) → R.R w (hid C O') (fun b => O' b = Ro i)) (he : ∀ b, O b ≠ Ro i) : Hold C ((S.set t A).setr i R) a w := by
  let O' : Nat → Nat := fun b => if O b = So t then Ro i else O b
  have hO1 : ∀ b, O b = So t → O' b = Ro i := fun b h => if_pos h
  have hO2 : ∀ b, O b ≠ So t → O' b = O b := fun b h => if_neg h
  have hiff : ∀ b, (O' b ≠ 0 ↔ O b ≠ 0) := fun b => by
    by_cases e : O b = So t
    · rw [hO1 b e, e]; exact ⟨fun _ => So_pos t, fun _ => Ro_pos i⟩
    · rw [hO2 b e]
  refine ⟨O', ⟨hh.h0, hh.os, hh.tape, hh.output, hh.size, hh.old, fun b hb => hh.own b ((hiff b).1 hb), hh.dfr, hh.n, fun s => ?_, fun j => ?_⟩⟩
  · have hid' : Ext w (fun b => C.H0 b ∨ O b ≠ 0) (fun b => O b = So s) w (fun b => C.H0 b ∨ O b ≠ 0) (fun b => O b = So s) := Ext.refl _ _ _
    by_cases e : s = t
    · subst e
      simp only [St.set, St.setr, upd_same]
      exact A.mono Ext.any (hA O' fun b => (hiff b).1)
    · simp only [St.set, St.setr]
      rw [upd_other _ _ e]
      refine (S.s s).mono ⟨Nat.le_refl _, fun b _ hn => ⟨fun h => hn (h.imp id (hiff b).1), rfl⟩, fun b _ hb => ⟨?_, rfl⟩⟩ (hh.slot s)
      have hb' : O b = So s := hb
      show O' b = So s
      rw [hO2 b (by rw [hb']; exact fun h => e (So_inj h)), hb']
  · by_cases e : j = i
    · subst e
      simp only [St.setr, upd_same]
      exact hR O' hiff hO1
    · simp only [St.setr]
      rw [upd_other _ _ e]
      refine (S.r j).mono ⟨Nat.le_refl _, fun b _ hn => ⟨fun h => hn (h.imp id (hiff b).1), rfl⟩, fun b _ hb => ⟨?_, rfl⟩⟩ (hh.res j)
      have hb' : O b = Ro j := hb
      show O' b = Ro j
      rw [hO2 b (by rw [hb']; exact fun h => So_ne_Ro t j h.symm), hb']

/-- Whoever is told to own nothing may be taken to own nothing. -/
theorem HoldO.drop {O : Nat → Nat} {a : Act} {w : World} {i : Nat} (hr : S.r i = emp) (hh : HoldO C S O a w) : ∃ O', HoldO C S O' a w ∧ (∀ b, O' b ≠ Ro i) ∧ (∀ b t, O b = So t → O' b = So t) := by
  let O' : Nat → Nat := fun b => if O b = Ro i then 0 else O b
  have h1 : ∀ b, O' b ≠ 0 → O b ≠ 0 ∧ O' b = O b := fun b h => by
    by_cases e : O b = Ro i
    · exact absurd (if_pos e) h
    · exact ⟨fun e0 => h (by simp only [O']; rw [if_neg e, e0]), if_neg e⟩
  have h2 : ∀ b q, O b = q → q ≠ Ro i → O' b = q := fun b q h hq => by
    show (if O b = Ro i then 0 else O b) = q
    rw [if_neg (by rw [h]; exact hq), h]
  refine ⟨O', ⟨hh.h0, hh.os, hh.tape, hh.output, hh.size, hh.old, fun b hb => hh.own b (h1 b hb).1, hh.dfr, hh.n, fun s => ?_, fun j => ?_⟩, fun b h => ?_, fun b t h => h2 b _ h (So_ne_Ro t i)⟩
  · exact (S.s s).mono ⟨Nat.le_refl _, fun b _ hn => ⟨fun h => hn (h.imp id fun h => (h1 b h).1), rfl⟩, fun b _ hb => ⟨h2 b _ hb (So_ne_Ro s i), rfl⟩⟩ (hh.slot s)
  · by_cases e : j = i
    · subst e; rw [hr]; trivial
    · exact (S.r j).mono ⟨Nat.le_refl _, fun b _ hn => ⟨fun h => hn (h.imp id fun h => (h1 b h).1), rfl⟩, fun b _ hb => ⟨h2 b _ hb (fun h => e (Ro_inj h)), rfl⟩⟩ (hh.res j)
  · have h' : (if O b = Ro i then 0 else O b) = Ro i := h
    split at h'
    · exact Ro_pos i h'.symm
    · rename_i hne; exact hne h'

theorem AW.unpackP {Q : Exit → St → Prop} {c : Code} (t i : Nat) {T : TypeId} {k : Kd α} {x : α} (hs : S.s t = ownP T k x) (hr : S.r i = emp) (h : ∀ g, AW C c Q ((S.set t (ptrL g (Lens.id k))).setr i (Blk g T k x))) : AW C c Q S := by
  rintro a w ⟨O, hh⟩
  obtain ⟨O1, hh1, hne, hso⟩ := hh.drop hr
  have h1 := hh1.slot t
  rw [hs] at h1
  obtain ⟨g, cs, hv, hm, hg, hc⟩ := h1
  refine h g a w (hold_pass hh1 (fun O' _ => hv) (fun O' hiff hp => ⟨hp g hm, cs, hg, k.mono ⟨Nat.le_refl _, fun b _ hn => ⟨fun h => hn (h.imp id (hiff b).1), rfl⟩, fun _ _ h => h.elim⟩ hc⟩) hne)
theorem AW.unpackR {Q : Exit → St → Prop} {c : Code} (t i : Nat) {E : TypeId} {k : Kd α} {l : List α} (hs : S.s t = ownR E k l) (hr : S.r i = emp) (h : ∀ v, AW C c Q ((S.set t (raw v)).setr i (Row v E k l))) : AW C c Q S := by
  rintro a w ⟨O, hh⟩
  obtain ⟨O1, hh1, hne, hso⟩ := hh.drop hr
  have h1 := hh1.slot t
  rw [hs] at h1
  obtain ⟨cl, ho, hc, hm⟩ := h1
  refine h (a.tmps.getD t undef) a w (hold_pass hh1 (fun O' _ => rfl) (fun O' hiff hp => ⟨cl, ho, hc.mono ⟨Nat.le_refl _, fun b _ hn => ⟨fun h => hn (h.imp id (hiff b).1), rfl⟩, fun _ _ h => h.elim⟩, fun b hb => hp b (hm b hb)⟩) hne)

/-! steps of regions in any order that turn slots -/
variable {ops : Array Oper}
theorem locs {us : List (Nat × Asrt)} {ur : List (Nat × Res)} (rs rr : List Nat) (hg : o.guard = none)
    (h : ∀ S' : St, (∀ t, rs.contains t = true → S'.s t = S.s t) → (∀ i, rr.contains i = true → S'.r i = S.r i) → OpE C o S' (S'.ap ⟨rs, rr, us, ur⟩)) : Loc C ops o S ⟨rs, rr, us, ur⟩ := fun S' _ hs hr => OpG.of hg (h S' hs hr)
end slots

/-! ### Iterators -/
structure Itr (α : Type) : Type 1 where
  run : (σ : Type) → (σ → α → Option (Lp σ)) → Lp σ → Option (Lp σ)
instance {α : Type} : Inhabited (Itr α) := ⟨⟨fun _ _ _ => none⟩⟩
/-- yield: once more -/
def yc {σ α : Type} (y : σ → α → Option (Lp σ)) (r : Lp σ) (x : α) : Option (Lp σ) := match r with
  | .go s => y s x
  | .out _ _ => none
theorem yc_of {σ α : Type} {y : σ → α → Option (Lp σ)} {r r' : Lp σ} {x : α} (h : yc y r x = some r') : ∃ s, r = .go s ∧ y s x = some r' := by
  cases r with
  | go s => exact ⟨s, rfl, h⟩
  | out c s => cases h
def GS1 {α : Type} (P : Program) (k : Kd α) (q : Itr α) : List Asrt → Res → Asrt → Res → Prop :=
  fun As R B R' => ∃ (σ : Type) (y : σ → α → Option (Lp σ)) (L : Lp σ → Res) (r r' : Lp σ), q.run σ y r = some r' ∧ As = [fnR P (GY (fun x => [rd k x]) y L)] ∧ R = L r ∧ B = top ∧ R' = L r'
def seqA {α : Type} (P : Program) (k : Kd α) (q : Itr α) : Asrt := fnS P (GS1 P k q)
instance {α : Type} (P : Program) (k : Kd α) (q : Itr α) : Dup (seqA P k q) := ⟨fun h => h⟩
def ydA {α σ : Type} (P : Program) (k : Kd α) (y : σ → α → Option (Lp σ)) (L : Lp σ → Res) : Asrt := fnR P (GY (fun x => [rd k x]) y L)
instance {α σ : Type} (P : Program) (k : Kd α) (y : σ → α → Option (Lp σ)) (L : Lp σ → Res) : Dup (ydA P k y L) := ⟨fun h => h⟩

section seqs
variable {C : Ctx} {S S' : St} {o : Oper} {α σ : Type}
theorem op_seq {f : FuncId} {cs : List Operand} {CAs : List Asrt} {k : Kd α} (q : Itr α) (ho : o.op = .makeFunc (.func f) #[] cs.toArray) (hd : dok o C.N = true) (he : Ent C.P f) (hc : Vals C S cs CAs)
    (hG : ∀ (σ : Type) (y : σ → α → Option (Lp σ)) (L : Lp σ → Res) (r r' : Lp σ), q.run σ y r = some r' → Con C.P f (ydA C.P k y L :: CAs) (L r) (fun _ : Unit => top) (fun _ => L r')) :
    OpE C o S (S.put o.dst (seqA C.P k q)) :=
  op_funcS (fs := []) (FAs := []) ho hd he trivial hc (by rintro _ _ _ _ ⟨σ, y, L, r, r', h, rfl, rfl, rfl, rfl⟩; exact hG σ y L r r' h)
/-- yield(x) -/
theorem op_yield {x p : Operand} {ts : Array TypeId} {k : Kd α} {y : σ → α → Option (Lp σ)} {L : Lp σ → Res} {a : α} {r r' : Lp σ} (i : Nat) (hF : yc y r a = some r') (ho : o.op = .call { callee := .value x, args := #[p], argTypes := ts }) (hd : dok o C.N = true) (hx : Val C S x (ydA C.P k y L)) (hp : Val C S p (rd k a)) (hr : S.r i = L r) :
    OpE C o S ((S.put o.dst (rd kbool r'.isGo)).setr i (L r')) := by
  obtain ⟨s, rfl, h⟩ := yc_of hF
  exact op_callvR (xs := [p]) i ho hd hx ⟨s, a, r', h, rfl, rfl, rfl, rfl⟩ ⟨hp, trivial⟩ hr
/-- an iterator is called with a yield that was given -/
theorem op_callseq {x p : Operand} {ts : Array TypeId} {k : Kd α} {q : Itr α} {y : σ → α → Option (Lp σ)} {L : Lp σ → Res} {r r' : Lp σ} (i : Nat) (hF : q.run σ y r = some r') (ho : o.op = .call { callee := .value x, args := #[p], argTypes := ts }) (hd : dok o C.N = true) (hx : Val C S x (seqA C.P k q)) (hp : Val C S p (ydA C.P k y L)) (hr : S.r i = L r) :
    OpE C o S ((S.put o.dst top).setr i (L r')) :=
  op_callS (xs := [p]) i ho hd hx ⟨σ, y, L, r, r', hF, rfl, rfl, rfl, rfl⟩ ⟨hp, trivial⟩ hr
theorem ret0Y {fn : Func} {i : Nat} {R : Res} (hf : fn.results = #[]) (hd : S.d = []) (hr : S.r i = R) : RetOK C fn S (fun _ : Unit => top) (fun _ => R) :=
  ⟨hd, fun O a w hh => by
    have h2 := hh.res i
    rw [hr] at h2
    refine ⟨.tuple #[], (), fun b => O b = Ro i, ?_, fun b hb => by rw [hb]; exact Ro_pos i, trivial, ?_⟩
    · have e : results fn a.tmps = (do let vs ← fn.results.mapM (resF a.tmps); pure (if h : vs.size = 1 then vs[0] else .tuple vs)) := rfl
      rw [e, hf]; simp
    · refine R.mono ⟨Nat.le_refl _, fun b _ hn => ⟨?_, rfl⟩, fun b _ hb => ⟨hb, rfl⟩⟩ h2
      rintro (h | h)
      · exact hn (.inl h)
      · exact hn (.inr (by rw [h]; exact Ro_pos i))⟩
def isFuncD : Option TypeDesc → Bool
  | some (.func _ _ _) => true
  | _ => false
theorem run_equal_func {P : Program} {w : World} {T : TypeId} {f : Fn} {fs cs : Array Value} (h : isFuncD (P.underlying T) = true) : (Op.equal T (.func f fs cs) .nilFunc).run P w = .ok false w := by
  cases hu : P.underlying T with
  | none => rw [hu] at h; cases h
  | some d =>
    rw [hu] at h
    cases d with
    | func a b v => unfold Op.equal; rw [show Op.maxDepth = 9999 + 1 from rfl]; unfold Op.equalIn; simp [run_underlying hu]
    | _ => cases h
theorem op_neqseq {T U : TypeId} {k : Kd α} {q : Itr α} {p : Operand} (ho : o.op = .binOp .neq T p (.const .nilFunc) U) (hd : dok o C.N = true) (hT : isFuncD (C.P.underlying T) = true) (hp : Val C S p (seqA C.P k q)) : OpE C o S (S.put o.dst (rd kbool true)) :=
  OpE.plain (by simp [ho]) hd fun O a w hh => by
    obtain ⟨f, fst, cap, h1, _⟩ := hp.of hh
    have hg : (eqGuard .neq T p (.const .nilFunc) (.func (.func f) fst cap) .nilFunc).run C.P w = .ok () w := rfl
    have h3 : a.eval (.const .nilFunc) = .nilFunc := rfl
    exact ⟨.bool true, by simp only [execOp, ho, h1, h3, Sem.run_bind, hg, Result.andThen_ok, binOp, run_equal_func hT, Sem.run_pure, Bool.not_false], bool_rd⟩
theorem op_eqlseq {T U : TypeId} {k : Kd α} {q : Itr α} {p : Operand} (ho : o.op = .binOp .eql T p (.const .nilFunc) U) (hd : dok o C.N = true) (hT : isFuncD (C.P.underlying T) = true) (hp : Val C S p (seqA C.P k q)) : OpE C o S (S.put o.dst (rd kbool false)) :=
  OpE.plain (by simp [ho]) hd fun O a w hh => by
    obtain ⟨f, fst, cap, h1, _⟩ := hp.of hh
    have hg : (eqGuard .eql T p (.const .nilFunc) (.func (.func f) fst cap) .nilFunc).run C.P w = .ok () w := rfl
    have h3 : a.eval (.const .nilFunc) = .nilFunc := rfl
    exact ⟨.bool false, by simp only [execOp, ho, h1, h3, Sem.run_bind, hg, Result.andThen_ok, binOp, run_equal_func hT, Sem.run_pure], bool_rd⟩
end seqs
end Go.Wb
namespace Go.Wb
open Go
section slots2
variable {C : Ctx} {S S' : St} {o : Oper} {α : Type}
theorem hold_rowO {O : Nat → Nat} {a : Act} {w w' : World} {v v' : Value} {E : TypeId} {k : Kd α} {l : List α} {cl : List Value} {i d : Nat} (hh : HoldO C S O a w) (t : Turns O i w v v' w') (hdst : o.dst = some d) (hd : dok o C.N = true)
    (ho : w'.ownsRow 0 E k.sz v' l.length cl) (hc : ∀ O', (∀ b, O' b ≠ 0 → own' O i v' b ≠ 0) → Cells k w' (hid C O') l cl) : Hold C ((S.put o.dst (ownR E k l)).setr i emp) (a.put o.dst v') w' := by
  obtain ⟨O1, h1⟩ : ∃ O1, O1 = own' O i v' := ⟨_, rfl⟩
  let O2 : Nat → Nat := fun b => if O1 b = Ro i then (if v'.ownBlock = some b then So d else 0) else (if O1 b = So d then 0 else O1 b)
  have e1 : ∀ b, v'.ownBlock = some b → O2 b = So d := fun b hb => by
    have : O1 b = Ro i := by rw [h1]; exact if_pos hb
    show (if O1 b = Ro i then (if v'.ownBlock = some b then So d else 0) else _) = So d
    rw [if_pos this, if_pos hb]
  have e2 : ∀ b q, O1 b = q → q ≠ Ro i → q ≠ So d → O2 b = q := fun b q h hq hq' => by
    show (if O1 b = Ro i then (if v'.ownBlock = some b then So d else 0) else (if O1 b = So d then 0 else O1 b)) = q
    rw [if_neg (by rw [h]; exact hq), if_neg (by rw [h]; exact hq'), h]
  have e3 : ∀ b, O2 b ≠ 0 → O1 b ≠ 0 := fun b h => by
    intro h0
    apply h
    show (if O1 b = Ro i then (if v'.ownBlock = some b then So d else 0) else (if O1 b = So d then 0 else O1 b)) = 0
    rw [h0, if_neg (fun e => Ro_pos i e.symm), if_neg (fun e => So_pos d e.symm)]
  have go1 := t.goes hh
  rw [← h1] at go1
  have e1o : ∀ b, b < w.heap.size → O b ≠ Ro i → O1 b = O b := fun b hb hq => (go1.same b hb hq).1
  refine ⟨O2, ⟨hh.h0, t.g.os.trans hh.os, t.g.tape.trans hh.tape, t.g.output.trans hh.output, Nat.le_trans hh.size t.g.size, fun b hb hX => ?_, fun b hb => ?_, ?_, ?_, fun s => ?_, fun j => ?_⟩⟩
  · have hb1 : b < w.heap.size := Nat.lt_of_lt_of_le hb hh.size
    have hno : O b ≠ Ro i := fun e => by
      have h5 := (hh.own b (by rw [e]; exact Ro_pos i)).1
      rcases h5 with h5 | h5
      · omega
      · exact hX h5
    exact ((go1.same b hb1 hno).2).trans (hh.old b hb hX)
  · have h5 := e3 b hb
    refine ⟨?_, go1.lt b h5⟩
    rcases go1.own b h5 with h6 | h6
    · exact (hh.own b h6).1
    · exact .inl (Nat.le_trans hh.size h6)
  · show (a.put o.dst v').defers = _
    rw [put_defers]
    have : ((S.put o.dst (ownR E k l)).setr i emp).d = S.d := by cases o.dst <;> rfl
    rw [this]; exact hh.dfr
  · rw [put_size]; exact hh.n
  · rw [hdst]
    by_cases e : s = d
    · subst e
      have hlt : s < a.tmps.size := hh.n ▸ dok_lt hd s hdst
      rw [put_same hlt]
      simp only [St.put, St.set, St.setr, upd_same]
      exact ⟨cl, ho, hc O2 (fun b hb => by rw [← h1]; exact e3 b hb), fun b hb => e1 b hb⟩
    · rw [put_other e]
      simp only [St.put, St.set, St.setr]
      rw [upd_other _ _ e]
      refine (S.s s).mono ⟨t.g.size, fun b hb hn => ?_, fun b hb hm => ?_⟩ (hh.slot s)
      · have h0 : O b = 0 := Classical.byContradiction fun h => hn (.inr h)
        have h6 := go1.same b hb (by rw [h0]; exact fun h => Ro_pos i h.symm)
        refine ⟨?_, h6.2⟩
        rintro (h | h)
        · exact hn (.inl h)
        · exact e3 b h (h6.1.trans h0)
      · have hm' : O b = So s := hm
        have h6 := go1.same b hb (by rw [hm']; exact So_ne_Ro s i)
        exact ⟨e2 b _ (h6.1.trans hm') (So_ne_Ro s i) (fun h => e (So_inj h)), h6.2⟩
  · have hres : ((S.put o.dst (ownR E k l)).setr i emp).r j = upd S.r i emp j := by cases o.dst <;> rfl
    rw [hres]
    by_cases e : j = i
    · subst e; rw [upd_same]; trivial
    · rw [upd_other _ _ e]
      refine (S.r j).mono ⟨t.g.size, fun b hb hn => ?_, fun b hb hm => ?_⟩ (hh.res j)
      · have h0 : O b = 0 := Classical.byContradiction fun h => hn (.inr h)
        have h6 := go1.same b hb (by rw [h0]; exact fun h => Ro_pos i h.symm)
        refine ⟨?_, h6.2⟩
        rintro (h | h)
        · exact hn (.inl h)
        · exact e3 b h (h6.1.trans h0)
      · have hm' : O b = Ro j := hm
        have h6 := go1.same b hb (by rw [hm']; exact fun h => e (Ro_inj h))
        exact ⟨e2 b _ (h6.1.trans hm') (fun h => e (Ro_inj h)) (fun h => So_ne_Ro d j h.symm), h6.2⟩

theorem op_appendO {T E : TypeId} {k : Kd α} {l m r : List α} {v : Value} {p q : Operand} {d : Nat} (i : Nat) (hl : appd l m = some r) (ho : o.op = .call { callee := .builtin .append, args := #[p, q], argTypes := #[T, T] }) (hdst : o.dst = some d) (hd : dok o C.N = true) (he : El C.P T E k) (hp : Val C S p (raw v)) (hr : S.r i = Row v E k l) (hq : Val C S q (rd (ksl k) m)) :
    OpE C o S ((S.put o.dst (ownR E k r)).setr i emp) :=
  OpE.value (by simp [ho]) fun O a w hh => by
    obtain ⟨hll, rfl⟩ := appd_of hl
    have h1 := raw_eq (hp.of hh)
    have h2 := rd_sl (hq.of hh)
    have h3 := hh.res i
    rw [hr] at h3
    obtain ⟨cl, hown, hc, hm⟩ := h3
    obtain ⟨v', w', ml, h4, h5, h6, h7, h8, h9⟩ := run_append_sl (ty := o.type) he hown h2 hll
    have t : Turns O i w v v' w' := ⟨h8, hm, h9, fun b hb => (h5.lt b hb).2⟩
    refine ⟨v', w', ?_, hold_rowO hh t hdst hd (cl := cl ++ ml) (by rw [List.length_append]; exact h5) fun O' hO' => ?_⟩
    · simp only [execOp, ho, resolve, invoke, builtin, Sem.run_bind, Sem.run_pure, Result.andThen_ok, List.map_toArray, List.map_cons, List.map_nil, h1, h4]
    · have hext : Ext w (hid C O) none_ w' (hid C O') none_ := by
        have := t.ext (C := C)
        exact ⟨this.size, fun b hb hn => ⟨fun h => (this.vis b hb hn).1 (h.imp id (hO' b)), (this.vis b hb hn).2⟩, fun _ _ h => h.elim⟩
      refine (hc.mono hext).append ?_
      by_cases e : m.length = 0
      · have e' := List.eq_nil_of_length_eq_zero e
        subst e'
        rw [h7 rfl]; rfl
      · exact (h6 (by omega)).mono hext

/-- A call that makes an own slice, for a slot. -/
theorem op_callO {f : FuncId} {xs : List Operand} {ts : Array TypeId} {As : List Asrt} {E : TypeId} {k : Kd α} {l : List α} {d : Nat} (hc : Con C.P f As emp (fun v : Value => raw v) (fun v => Row v E k l)) (he : Ent C.P f) (ho : o.op = .call { callee := .value (.func f), args := xs.toArray, argTypes := ts }) (hdst : o.dst = some d) (hd : dok o C.N = true) (hv : Vals C S xs As) :
    OpE C o S (S.put o.dst (ownR E k l)) := by
  rintro a w ⟨O, hh⟩
  refine ⟨fun _ _ => trivial, ?_⟩
  have hrun : (execOp a.eval o).run C.P w = .ok (.enter f (xs.map a.eval).toArray) w := by
    simp only [execOp, ho, resolve, Act.eval, Deferred.ofValue, Sem.run_bind, Sem.run_pure, Result.andThen_ok, invoke]
    simpa using he _ w
  rw [Oper.semAt_eq _ _ _ (by simp [ho]), hrun]
  refine ⟨fun h => by simp [Ctx.fen, Fence.wide] at h, callsIn_fen ?_⟩
  refine (hc w (hid C O) none_ _ hh.hid_lt (fun b hb => hb.elim) (hv.args hh) trivial).mono ?_
  rintro e w' ⟨v, z, X', rfl, hf, hB, hR⟩
  obtain rfl : v = z := hB
  classical
  let O' : Nat → Nat := fun b => if X' b then So d else if O b = So d then 0 else O b
  have hO : ∀ b, X' b → O' b = So d := fun b h => if_pos h
  have hO2 : ∀ b q, b < w.heap.size → O b = q → q ≠ So d → O' b = q := fun b q hb h hq => by
    have hnx : ¬ X' b := fun hx => by
      rcases (hf.own b hx).1 with h1 | h1
      · exact h1
      · omega
    show (if X' b then So d else if O b = So d then 0 else O b) = q
    rw [if_neg hnx, if_neg (by rw [h]; exact hq), h]
  have hj : Ext w' (join (hid C O) X') none_ w' (hid C O') none_ := by
    refine ⟨Nat.le_refl _, fun b _ hn => ⟨?_, rfl⟩, fun _ _ h => h.elim⟩
    rintro (h | h)
    · exact hn (.inl (.inl h))
    · by_cases hx : X' b
      · exact hn (.inr hx)
      · have h' : (if X' b then So d else if O b = So d then 0 else O b) ≠ 0 := h
        rw [if_neg hx] at h'
        split at h'
        · exact h' rfl
        · exact hn (.inl (.inr h'))
  refine ⟨_, rfl, O', ⟨hh.h0, hf.os.trans hh.os, hf.tape.trans hh.tape, hf.output.trans hh.output, Nat.le_trans hh.size hf.size, fun b hb hX => ?_, fun b hb => ?_, ?_, ?_, fun s => ?_, fun j => ?_⟩⟩
  · exact (hf.same b (Nat.lt_of_lt_of_le hb hh.size) (fun h => h)).trans (hh.old b hb hX)
  · by_cases hx : X' b
    · have h5 := hf.own b hx
      refine ⟨.inl ?_, h5.2⟩
      rcases h5.1 with h6 | h6
      · exact h6.elim
      · exact Nat.le_trans hh.size h6
    · have h' : (if X' b then So d else if O b = So d then 0 else O b) ≠ 0 := hb
      rw [if_neg hx] at h'
      split at h'
      · exact absurd rfl h'
      · exact ⟨(hh.own b h').1, Nat.lt_of_lt_of_le (hh.own b h').2 hf.size⟩
  · rw [put_defers]
    have : (S.put o.dst (ownR E k l)).d = S.d := by cases o.dst <;> rfl
    rw [this]; exact hh.dfr
  · rw [put_size]; exact hh.n
  · rw [hdst]
    by_cases e : s = d
    · subst e
      have hlt : s < a.tmps.size := hh.n ▸ dok_lt hd s hdst
      rw [put_same hlt]
      simp only [St.put, St.set, upd_same]
      exact (Row v E k l).mono ⟨hj.size, hj.vis, fun b _ hx => ⟨hO b hx, rfl⟩⟩ hR
    · rw [put_other e]
      simp only [St.put, St.set]
      rw [upd_other _ _ e]
      refine (S.s s).mono ⟨hf.size, fun b hb hn => ⟨?_, hf.same b hb (fun h => h)⟩, fun b hb hm => ⟨hO2 b _ hb hm (fun h => e (So_inj h)), hf.same b hb (fun h => h)⟩⟩ (hh.slot s)
      rintro (h | h)
      · exact hn (.inl h)
      · have h0 : O b = 0 := Classical.byContradiction fun h => hn (.inr h)
        exact h (hO2 b 0 hb h0 (fun e => So_pos d e.symm))
  · have hres : (S.put o.dst (ownR E k l)).r j = S.r j := by cases o.dst <;> rfl
    rw [hres]
    refine (S.r j).mono ⟨hf.size, fun b hb hn => ⟨?_, hf.same b hb (fun h => h)⟩, fun b hb hm => ⟨hO2 b _ hb hm (fun h => So_ne_Ro d j h.symm), hf.same b hb (fun h => h)⟩⟩ (hh.res j)
    rintro (h | h)
    · exact hn (.inl h)
    · have h0 : O b = 0 := Classical.byContradiction fun h => hn (.inr h)
      exact h (hO2 b 0 hb h0 (fun e => So_pos d e.symm))
end slots2
end Go.Wb
