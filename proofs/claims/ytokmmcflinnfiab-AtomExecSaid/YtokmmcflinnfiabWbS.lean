/- WbS: a part of the proof. -/
import Derived.Test.YtokmmcflinnfiabWbR
set_option linter.unusedVariables false
set_option linter.unusedSimpArgs false
namespace Go.Wb
open Go

/-! ### What a loop's body leaves, weakened -/
theorem AW.weakQ {C : Ctx} {c : Code} {Q Q' : Exit → St → Prop} {S : St} (h : AW C c Q' S) (hq : ∀ e S', Q' e S' → ∃ S'', Q e S'' ∧ S'.d = S''.d ∧ (∀ t, S''.s t = S'.s t ∨ S''.s t = top) ∧ (∀ i, S''.r i = S'.r i ∨ S''.r i = emp)) : AW C c Q S := by
  intro a w hh
  refine wpIn_mono (h a w hh) ?_
  rintro e a' w' ⟨S', h1, O, h2⟩
  obtain ⟨S'', h3, h4, h5, h6⟩ := hq e S' h1
  exact ⟨S'', h3, O, h2.weak h4.symm h5 h6⟩
def bodyF {σ : Type} (M : σ → List (Nat × Res)) (Mx : Code → σ → List (Nat × Res)) (r : Lp σ) : Exit → St → Prop
  | .normal, S' => ∃ s', r = .go s' ∧ FitR S' (M s')
  | .exit id, S' => ∃ s', r = .out (.exit id) s' ∧ FitR S' (Mx (.exit id) s')
  | .ret, S' => ∃ s', r = .out .ret s' ∧ FitR S' (Mx .ret s')
  | _, _ => False
theorem AW.bodyOf {C : Ctx} {c : Code} {σ : Type} {M : σ → List (Nat × Res)} {Mx : Code → σ → List (Nat × Res)} {r : Lp σ} {S : St} (h : AW C c (bodyF M Mx r) S) : AW C c (bodyQ (fun s => ress (M s)) (fun c s => ress (Mx c s)) r) S := by
  refine AW.weakQ h fun e S' hq => ?_
  have key : ∀ l : List (Nat × Res), FitR S' l → ∀ i, (ress l) i = S'.r i ∨ (ress l) i = emp := fun l hl => fitR_res hl (fun _ => .inr rfl)
  cases e with
  | normal => obtain ⟨s', h1, h2⟩ := hq; exact ⟨⟨S'.s, ress (M s'), S'.d⟩, ⟨s', h1, rfl⟩, rfl, fun _ => .inl rfl, key _ h2⟩
  | exit id => obtain ⟨s', h1, h2⟩ := hq; exact ⟨⟨S'.s, ress (Mx (.exit id) s'), S'.d⟩, ⟨s', h1, rfl⟩, rfl, fun _ => .inl rfl, key _ h2⟩
  | ret => obtain ⟨s', h1, h2⟩ := hq; exact ⟨⟨S'.s, ress (Mx .ret s'), S'.d⟩, ⟨s', h1, rfl⟩, rfl, fun _ => .inl rfl, key _ h2⟩
  | goto t => exact hq.elim
  | panic ch => exact hq.elim
  | outgrown => exact hq.elim

/-! ### A block that holds an own slice -/
def BoxRow {α : Type} (g : Nat) (T E : TypeId) (k : Kd α) (l : List α) : Res :=
  ⟨fun w H M => ∃ v : Value, M g ∧ w.heap[g]? = some (.cells #[v] T (0, 0)) ∧ (∃ cl, w.ownsRow 0 E k.sz v l.length cl ∧ Cells k w H l cl) ∧ ∀ b, v.ownBlock = some b → M b ∧ b ≠ g,
   fun {w H M w' H' M'} h ⟨v, h1, h2, ⟨cl, ho, hc⟩, h3⟩ => by
    obtain ⟨a, b⟩ := h.own g (Array.getElem?_eq_some_iff.1 h2).1 h1
    refine ⟨v, a, b.trans h2, ⟨cl, ⟨ho.1, ?_⟩, hc.mono h.pure_⟩, fun b hb => ⟨(h.own b (ho.lt b hb).2 (h3 b hb).1).1, (h3 b hb).2⟩⟩
    rcases ho.2 with e | ⟨g', cap, cur, rfl, hb, hg, r⟩
    · exact .inl e
    · exact .inr ⟨g', cap, cur, rfl, hb, (h.own g' (Array.getElem?_eq_some_iff.1 hg).1 (h3 g' rfl).1).2.trans hg, r⟩⟩

section box
variable {C : Ctx} {S S' : St} {o : Oper} {α : Type}
theorem row_one {w : World} {E : TypeId} {sz n : Nat} {v : Value} {cl : List Value} (ho : w.ownsRow 0 E sz v n cl) : v.oneCell' = true := by
  rcases ho.2 with ⟨rfl, _⟩ | ⟨g, cap, cur, rfl, _⟩ <;> rfl
/-- an own slice's value as a cell -/
theorem vrow {t i : Nat} {E : TypeId} {k : Kd α} {l : List α} {v : Value} (hs : S.s t = raw v) (hr : S.r i = Row v E k l) : Val C S (.tmp t) (rd kraw v) := fun O a w hh => by
  have h1 : a.eval (.tmp t) = v := raw_eq (by have := hh.slot t; rwa [hs] at this)
  have h2 := hh.res i
  rw [hr] at h2
  obtain ⟨cl, ho, _⟩ := h2
  rw [h1]
  exact ⟨[v], ⟨rfl, row_one ho⟩, rfl⟩
theorem vkr {x : Operand} {v : Value} (h : Val C S x (raw v)) (h1 : v.oneCell' = true) : Val C S x (rd kraw v) := fun O a w hh => ⟨[v], ⟨rfl, h1⟩, h O a w hh⟩
theorem vkraw {x : Operand} {v : Value} (h : Val C S x (rd kraw v)) : Val C S x (raw v) := fun O a w hh => by
  obtain ⟨cs, ⟨rfl, _⟩, e⟩ := h O a w hh
  exact e
/-- loaded from a block that holds any value -/
theorem op_loadr {T T' : TypeId} {g i : Nat} {v : Value} {p : Operand} (ho : o.op = .load T p) (hd : dok o C.N = true) (ht : Ty C.P T kraw) (hp : Val C S p (ptrL g (Lens.id kraw))) (hr : S.r i = Blk g T' kraw v) : OpE C o S (S.put o.dst (raw v)) := by
  have h := op_load (i := i) ho hd ht hp hr
  rintro a w hh
  have h1 := h a w hh
  refine ⟨h1.1, Oper.uponIn_mono (fun a' w' hx => ?_) (fun _ _ _ h => h) _ h1.2⟩
  obtain ⟨S'', rfl, O, h2⟩ := hx
  refine ⟨_, rfl, O, { h2 with slot := fun t => ?_, res := fun j => by have h5 := h2.res j; cases hdst : o.dst <;> rw [hdst] at h5 <;> exact h5, dfr := by have h5 := h2.dfr; cases hdst : o.dst <;> rw [hdst] at h5 <;> exact h5 }⟩
  have h5 := h2.slot t
  cases hdst : o.dst with
  | none => rw [hdst] at h5; exact h5
  | some d =>
    rw [hdst] at h5
    by_cases e : t = d
    · subst e
      simp only [St.put, St.set, upd_same] at h5 ⊢
      obtain ⟨cs, ⟨rfl, _⟩, e⟩ := h5
      exact e
    · simp only [St.put, St.set] at h5 ⊢
      rw [upd_other _ _ e] at h5 ⊢
      exact h5

/-- A resource is two. -/
theorem Hold.unbox {a : Act} {w : World} {i j g : Nat} {T E : TypeId} {k : Kd α} {l : List α} (hij : i ≠ j) (hr : S.r i = BoxRow g T E k l) (hj : S.r j = emp) (hh : Hold C S a w) : ∃ v, Hold C ((S.setr i (Blk g T kraw v)).setr j (Row v E k l)) a w := by
  obtain ⟨O0, hh0⟩ := hh
  obtain ⟨O, hh, hne, _⟩ := hh0.drop hj
  have h1 := hh.res i
  rw [hr] at h1
  obtain ⟨v, hm, hg, ⟨cl, ho, hc⟩, hb⟩ := h1
  have hmg : O g = Ro i := hm
  let O' : Nat → Nat := fun b => if v.ownBlock = some b then Ro j else O b
  have hO1 : ∀ b, v.ownBlock = some b → O' b = Ro j := fun b h => if_pos h
  have hO2 : ∀ b, v.ownBlock ≠ some b → O' b = O b := fun b h => if_neg h
  have hiff : ∀ b, O' b ≠ 0 ↔ O b ≠ 0 := fun b => by
    by_cases e : v.ownBlock = some b
    · have h5 : O b = Ro i := (hb b e).1
      rw [hO1 b e, h5]; exact ⟨fun _ => Ro_pos i, fun _ => Ro_pos j⟩
    · rw [hO2 b e]
  have hext : Ext w (hid C O) none_ w (hid C O') none_ := ⟨Nat.le_refl _, fun b _ hn => ⟨fun h => hn (h.imp id (hiff b).1), rfl⟩, fun _ _ h => h.elim⟩
  refine ⟨v, O', ⟨hh.h0, hh.os, hh.tape, hh.output, hh.size, hh.old, fun b hb => hh.own b ((hiff b).1 hb), hh.dfr, hh.n, fun s => ?_, fun q => ?_⟩⟩
  · refine (S.s s).mono ⟨Nat.le_refl _, hext.vis, fun b _ hb' => ⟨?_, rfl⟩⟩ (hh.slot s)
    have h5 : O b = So s := hb'
    show O' b = So s
    rw [hO2 b (fun e => by have h6 : O b = Ro i := (hb b e).1; rw [h5] at h6; exact So_ne_Ro s i h6), h5]
  · simp only [St.setr]
    by_cases e : q = j
    · subst e
      rw [upd_same]
      exact ⟨cl, ho, hc.mono hext, fun b hb' => hO1 b hb'⟩
    · rw [upd_other _ _ e]
      by_cases e' : q = i
      · subst e'
        rw [upd_same]
        refine ⟨?_, [v], hg, rfl, row_one ho⟩
        show O' g = Ro q
        rw [hO2 g (fun e => (hb g e).2 rfl)]; exact hmg
      · rw [upd_other _ _ e']
        refine (S.r q).mono ⟨Nat.le_refl _, hext.vis, fun b _ hb' => ⟨?_, rfl⟩⟩ (hh.res q)
        have h5 : O b = Ro q := hb'
        show O' b = Ro q
        rw [hO2 b (fun e => by have h6 : O b = Ro i := (hb b e).1; rw [h5] at h6; exact e' (Ro_inj h6)), h5]
/-- Two resources are one. -/
theorem Hold.pack {a : Act} {w : World} {i j g : Nat} {v : Value} {T E : TypeId} {k : Kd α} {l : List α} (hij : i ≠ j) (hr : S.r i = Blk g T kraw v) (hj : S.r j = Row v E k l) (hh : Hold C S a w) : Hold C ((S.setr i (BoxRow g T E k l)).setr j emp) a w := by
  obtain ⟨O, hh⟩ := hh
  have h1 := hh.res i
  rw [hr] at h1
  obtain ⟨hm, cs, hg, rfl, _⟩ := h1
  have h2 := hh.res j
  rw [hj] at h2
  obtain ⟨cl, ho, hc, hb⟩ := h2
  let O' : Nat → Nat := fun b => if O b = Ro j then Ro i else O b
  have hO1 : ∀ b, O b = Ro j → O' b = Ro i := fun b h => if_pos h
  have hO2 : ∀ b, O b ≠ Ro j → O' b = O b := fun b h => if_neg h
  have hiff : ∀ b, O' b ≠ 0 ↔ O b ≠ 0 := fun b => by
    by_cases e : O b = Ro j
    · rw [hO1 b e, e]; exact ⟨fun _ => Ro_pos j, fun _ => Ro_pos i⟩
    · rw [hO2 b e]
  have hext : Ext w (hid C O) none_ w (hid C O') none_ := ⟨Nat.le_refl _, fun b _ hn => ⟨fun h => hn (h.imp id (hiff b).1), rfl⟩, fun _ _ h => h.elim⟩
  have hmg : O g = Ro i := hm
  refine ⟨O', ⟨hh.h0, hh.os, hh.tape, hh.output, hh.size, hh.old, fun b hb => hh.own b ((hiff b).1 hb), hh.dfr, hh.n, fun s => ?_, fun q => ?_⟩⟩
  · refine (S.s s).mono ⟨Nat.le_refl _, hext.vis, fun b _ hb' => ⟨?_, rfl⟩⟩ (hh.slot s)
    have h5 : O b = So s := hb'
    show O' b = So s
    rw [hO2 b (by rw [h5]; exact So_ne_Ro s j), h5]
  · simp only [St.setr]
    by_cases e : q = j
    · subst e; rw [upd_same]; trivial
    · rw [upd_other _ _ e]
      by_cases e' : q = i
      · subst e'
        rw [upd_same]
        refine ⟨v, ?_, hg, ⟨cl, ho, hc.mono hext⟩, fun b hb' => ⟨hO1 b (hb b hb'), fun e5 => ?_⟩⟩
        · show O' g = Ro q
          rw [hO2 g (by rw [hmg]; exact fun h => hij (Ro_inj h))]; exact hmg
        · have h6 : O b = Ro j := hb b hb'
          rw [e5, hmg] at h6
          exact hij (Ro_inj h6)
      · rw [upd_other _ _ e']
        refine (S.r q).mono ⟨Nat.le_refl _, hext.vis, fun b _ hb' => ⟨?_, rfl⟩⟩ (hh.res q)
        have h5 : O b = Ro q := hb'
        show O' b = Ro q
        rw [hO2 b (by rw [h5]; exact fun h => e (Ro_inj h)), h5]
theorem AW.unbox {Q : Exit → St → Prop} {c : Code} (i j : Nat) {g : Nat} {T E : TypeId} {k : Kd α} {l : List α} (hij : i ≠ j) (hr : S.r i = BoxRow g T E k l) (hj : S.r j = emp) (h : ∀ v, AW C c Q ((S.setr i (Blk g T kraw v)).setr j (Row v E k l))) : AW C c Q S :=
  fun a w hh => let ⟨v, h1⟩ := hh.unbox hij hr hj; h v a w h1
theorem AW.pack {Q : Exit → St → Prop} {c : Code} (i j : Nat) {g : Nat} {v : Value} {T E : TypeId} {k : Kd α} {l : List α} (hij : i ≠ j) (hr : S.r i = Blk g T kraw v) (hj : S.r j = Row v E k l) (h : AW C c Q ((S.setr i (BoxRow g T E k l)).setr j emp)) : AW C c Q S :=
  fun a w hh => h a w (hh.pack hij hr hj)
theorem AOps.pack {ops : Array Oper} {Q : Exit → St → Prop} {c : List Oper} (i j : Nat) {g : Nat} {v : Value} {T E : TypeId} {k : Kd α} {l : List α} (hij : i ≠ j) (hr : S.r i = Blk g T kraw v) (hj : S.r j = Row v E k l) (h : AOps C ops Q c ((S.setr i (BoxRow g T E k l)).setr j emp)) : AOps C ops Q c S :=
  fun a w hh => h a w (hh.pack hij hr hj)
end box

/-- What an iterator yields, as a list. -/
def collectF {α : Type} (l : List α) (x : α) : Option (Lp (List α)) := (appd l [x]).bind fun m => some (.go m)
def lpGo {σ : Type} : Lp σ → Option σ
  | .go s => some s
  | .out _ _ => none
def collect {α : Type} (q : Itr α) : Option (List α) := (q.run (List α) collectF (.go [])).bind lpGo
theorem collect_of {α : Type} {q : Itr α} {l : List α} (h : collect q = some l) : q.run (List α) collectF (.go []) = some (.go l) := by
  obtain ⟨r, h1, h2⟩ := bsome h
  cases r with
  | go s => cases h2; exact h1
  | out c s => cases h2
end Go.Wb
