/- WbU: a part of the proof. -/
import Derived.Test.YtokmmcflinnfiabWbT
set_option linter.unusedVariables false
set_option linter.unusedSimpArgs false
namespace Go.Wb
open Go

/-! ### A block of which one part is an own slice's value -/
def BoxF {α β : Type} (g : Nat) (T : TypeId) (kO : Kd β) (c : Value → β) (E : TypeId) (k : Kd α) (l : List α) : Res :=
  ⟨fun w H M => ∃ v : Value, M g ∧ (∃ cs : List Value, w.heap[g]? = some (.cells cs.toArray T (0, 0)) ∧ kO.C w H (c v) cs) ∧ (∃ cl, w.ownsRow 0 E k.sz v l.length cl ∧ Cells k w H l cl) ∧ ∀ b, v.ownBlock = some b → M b ∧ b ≠ g,
   fun {w H M w' H' M'} h ⟨v, h1, ⟨cs, h2, hk⟩, ⟨cl, ho, hc⟩, h3⟩ => by
    obtain ⟨a, b⟩ := h.own g (Array.getElem?_eq_some_iff.1 h2).1 h1
    refine ⟨v, a, ⟨cs, b.trans h2, kO.mono h.pure_ hk⟩, ⟨cl, ⟨ho.1, ?_⟩, hc.mono h.pure_⟩, fun b hb => ⟨(h.own b (ho.lt b hb).2 (h3 b hb).1).1, (h3 b hb).2⟩⟩
    rcases ho.2 with e | ⟨g', cap, cur, rfl, hb, hg, r⟩
    · exact .inl e
    · exact .inr ⟨g', cap, cur, rfl, hb, (h.own g' (Array.getElem?_eq_some_iff.1 hg).1 (h3 g' rfl).1).2.trans hg, r⟩⟩

section boxf
variable {C : Ctx} {S S' : St} {o : Oper} {α β γ : Type}
/-- A resource is two. -/
theorem Hold.unboxF {a : Act} {w : World} {i j g : Nat} {T E : TypeId} {kO : Kd β} {c : Value → β} {k : Kd α} {l : List α} (hij : i ≠ j) (hr : S.r i = BoxF g T kO c E k l) (hj : S.r j = emp) (hh : Hold C S a w) : ∃ v, Hold C ((S.setr i (Blk g T kO (c v))).setr j (Row v E k l)) a w := by
  obtain ⟨O0, hh0⟩ := hh
  obtain ⟨O, hh, hne, _⟩ := hh0.drop hj
  have h1 := hh.res i
  rw [hr] at h1
  obtain ⟨v, hm, ⟨cs, hg, hkc⟩, ⟨cl, ho, hc⟩, hb⟩ := h1
  have hmg : O g = Ro i := hm
  let O' : Nat → Nat := fun b => if v.ownBlock = some b then Ro j else O b
  have hO1 : ∀ b, v.ownBlock = some b → O' b = Ro j := fun b h => if_pos h
  have hO2 : ∀ b, v.ownBlock ≠ some b → O' b = O b := fun b h => if_neg h
  have hiff : ∀ b, O' b ≠ 0 ↔ O b ≠ 0 := fun b => by
    by_cases e : v.ownBlock = some b
    · have h5 : O b = Ro i := (hb b e).1
      rw [hO1 b e, h5]; exact ⟨fun _ => Ro_pos i, fun _ => Ro_pos j⟩
    · rw [hO2 b e]
  have hext : Ext w (hid C O) none_ w (hid C O') none_ := ⟨Nat.le_refl _, fun b _ hn => ⟨fun h => hn (h.imp id (hiff b).1), rfl⟩, fun _ _ h => h.elim⟩
  refine ⟨v, O', ⟨hh.h0, hh.os, hh.tape, hh.output, hh.size, hh.old, fun b hb => hh.own b ((hiff b).1 hb), hh.dfr, hh.n, fun s => ?_, fun q => ?_⟩⟩
  · refine (S.s s).mono ⟨Nat.le_refl _, hext.vis, fun b _ hb' => ⟨?_, rfl⟩⟩ (hh.slot s)
    have h5 : O b = So s := hb'
    show O' b = So s
    rw [hO2 b (fun e => by have h6 : O b = Ro i := (hb b e).1; rw [h5] at h6; exact So_ne_Ro s i h6), h5]
  · simp only [St.setr]
    by_cases e : q = j
    · subst e
      rw [upd_same]
      exact ⟨cl, ho, hc.mono hext, fun b hb' => hO1 b hb'⟩
    · rw [upd_other _ _ e]
      by_cases e' : q = i
      · subst e'
        rw [upd_same]
        refine ⟨?_, cs, hg, kO.mono hext hkc⟩
        show O' g = Ro q
        rw [hO2 g (fun e => (hb g e).2 rfl)]; exact hmg
      · rw [upd_other _ _ e']
        refine (S.r q).mono ⟨Nat.le_refl _, hext.vis, fun b _ hb' => ⟨?_, rfl⟩⟩ (hh.res q)
        have h5 : O b = Ro q := hb'
        show O' b = Ro q
        rw [hO2 b (fun e => by have h6 : O b = Ro i := (hb b e).1; rw [h5] at h6; exact e' (Ro_inj h6)), h5]
/-- Two resources are one. -/
theorem HoldO.packF {O : Nat → Nat} {a : Act} {w : World} {i j g : Nat} {v : Value} {T E : TypeId} {kO : Kd β} (c : Value → β) {k : Kd α} {l : List α} (hij : i ≠ j) (hr : S.r i = Blk g T kO (c v)) (hj : S.r j = Row v E k l) (hh : HoldO C S O a w) : ∃ O', HoldO C ((S.setr i (BoxF g T kO c E k l)).setr j emp) O' a w ∧ ∀ b, O' b ≠ 0 → O b ≠ 0 := by
  have h1 := hh.res i
  rw [hr] at h1
  obtain ⟨hm, cs, hg, hkc⟩ := h1
  have h2 := hh.res j
  rw [hj] at h2
  obtain ⟨cl, ho, hc, hb⟩ := h2
  let O' : Nat → Nat := fun b => if O b = Ro j then Ro i else O b
  have hO1 : ∀ b, O b = Ro j → O' b = Ro i := fun b h => if_pos h
  have hO2 : ∀ b, O b ≠ Ro j → O' b = O b := fun b h => if_neg h
  have hiff : ∀ b, O' b ≠ 0 ↔ O b ≠ 0 := fun b => by
    by_cases e : O b = Ro j
    · rw [hO1 b e, e]; exact ⟨fun _ => Ro_pos j, fun _ => Ro_pos i⟩
    · rw [hO2 b e]
  have hext : Ext w (hid C O) none_ w (hid C O') none_ := ⟨Nat.le_refl _, fun b _ hn => ⟨fun h => hn (h.imp id (hiff b).1), rfl⟩, fun _ _ h => h.elim⟩
  have hmg : O g = Ro i := hm
  refine ⟨O', ⟨hh.h0, hh.os, hh.tape, hh.output, hh.size, hh.old, fun b hb => hh.own b ((hiff b).1 hb), hh.dfr, hh.n, fun s => ?_, fun q => ?_⟩, fun b => (hiff b).1⟩
  · refine (S.s s).mono ⟨Nat.le_refl _, hext.vis, fun b _ hb' => ⟨?_, rfl⟩⟩ (hh.slot s)
    have h5 : O b = So s := hb'
    show O' b = So s
    rw [hO2 b (by rw [h5]; exact So_ne_Ro s j), h5]
  · simp only [St.setr]
    by_cases e : q = j
    · subst e; rw [upd_same]; trivial
    · rw [upd_other _ _ e]
      by_cases e' : q = i
      · subst e'
        rw [upd_same]
        refine ⟨v, ?_, ⟨cs, hg, kO.mono hext hkc⟩, ⟨cl, ho, hc.mono hext⟩, fun b hb' => ⟨hO1 b (hb b hb'), fun e5 => ?_⟩⟩
        · show O' g = Ro q
          rw [hO2 g (by rw [hmg]; exact fun h => hij (Ro_inj h))]; exact hmg
        · have h6 : O b = Ro j := hb b hb'
          rw [e5, hmg] at h6
          exact hij (Ro_inj h6)
      · rw [upd_other _ _ e']
        refine (S.r q).mono ⟨Nat.le_refl _, hext.vis, fun b _ hb' => ⟨?_, rfl⟩⟩ (hh.res q)
        have h5 : O b = Ro q := hb'
        show O' b = Ro q
        rw [hO2 b (by rw [h5]; exact fun h => e (Ro_inj h)), h5]
theorem Hold.packF {a : Act} {w : World} {i j g : Nat} {v : Value} {T E : TypeId} {kO : Kd β} (c : Value → β) {k : Kd α} {l : List α} (hij : i ≠ j) (hr : S.r i = Blk g T kO (c v)) (hj : S.r j = Row v E k l) (hh : Hold C S a w) : Hold C ((S.setr i (BoxF g T kO c E k l)).setr j emp) a w := by
  obtain ⟨O, hh⟩ := hh
  obtain ⟨O', h, _⟩ := hh.packF c hij hr hj
  exact ⟨O', h⟩
theorem AW.unboxF {Q : Exit → St → Prop} {x : Code} (i j : Nat) {g : Nat} {T E : TypeId} {kO : Kd β} {c : Value → β} {k : Kd α} {l : List α} (hij : i ≠ j) (hr : S.r i = BoxF g T kO c E k l) (hj : S.r j = emp) (h : ∀ v, AW C x Q ((S.setr i (Blk g T kO (c v))).setr j (Row v E k l))) : AW C x Q S :=
  fun a w hh => let ⟨v, h1⟩ := hh.unboxF hij hr hj; h v a w h1
theorem AW.packF {Q : Exit → St → Prop} {x : Code} (i j : Nat) {g : Nat} {v : Value} {T E : TypeId} {kO : Kd β} (c : Value → β) {k : Kd α} {l : List α} (hij : i ≠ j) (hr : S.r i = Blk g T kO (c v)) (hj : S.r j = Row v E k l) (h : AW C x Q ((S.setr i (BoxF g T kO c E k l)).setr j emp)) : AW C x Q S :=
  fun a w hh => h a w (hh.packF c hij hr hj)
theorem AOps.packF {ops : Array Oper} {Q : Exit → St → Prop} {x : List Oper} (i j : Nat) {g : Nat} {v : Value} {T E : TypeId} {kO : Kd β} (c : Value → β) {k : Kd α} {l : List α} (hij : i ≠ j) (hr : S.r i = Blk g T kO (c v)) (hj : S.r j = Row v E k l) (h : AOps C ops Q x ((S.setr i (BoxF g T kO c E k l)).setr j emp)) : AOps C ops Q x S :=
  fun a w hh => h a w (hh.packF c hij hr hj)

/-- An own slice's value is loaded out of a part of an own block. -/
theorem op_loadv {T T' : TypeId} {g i : Nat} {kO : Kd β} {L : Lens kO kraw} {x : β} {p : Operand} (v : Value) (ho : o.op = .load T p) (hd : dok o C.N = true) (ht : Ty C.P T kraw) (hp : Val C S p (ptrL g L)) (hr : S.r i = Blk g T' kO x) (hv : L.get x = v) : OpE C o S (S.put o.dst (raw v)) := by
  subst hv
  have h := op_load (i := i) ho hd ht hp hr
  rintro a w hh
  have h1 := h a w hh
  refine ⟨h1.1, Oper.uponIn_mono (fun a' w' hx => ?_) (fun _ _ _ h => h) _ h1.2⟩
  obtain ⟨S'', rfl, O, h2⟩ := hx
  refine ⟨_, rfl, O, { h2 with slot := fun t => ?_, res := fun j => by have h5 := h2.res j; cases hdst : o.dst <;> rw [hdst] at h5 <;> exact h5, dfr := by have h5 := h2.dfr; cases hdst : o.dst <;> rw [hdst] at h5 <;> exact h5 }⟩
  have h5 := h2.slot t
  cases hdst : o.dst with
  | none => rw [hdst] at h5; exact h5
  | some d =>
    rw [hdst] at h5
    by_cases e : t = d
    · subst e
      simp only [St.put, St.set, upd_same] at h5 ⊢
      obtain ⟨cs, ⟨rfl, _⟩, e⟩ := h5
      exact e
    · simp only [St.put, St.set] at h5 ⊢
      rw [upd_other _ _ e] at h5 ⊢
      exact h5

/-- The own slice in a block is read from now on: its block holds plain data. -/
theorem Hold.freezeF {a : Act} {w : World} {i j g : Nat} {v : Value} {T E : TypeId} {kO : Kd β} {x : β} {kP : Kd γ} {y : γ} {k : Kd α} {l : List α} (hX : C.X = none_) (hij : i ≠ j) (hr : S.r i = Blk g T kO x) (hj : S.r j = Row v E k l)
    (hcv : ∀ w H cs, kO.C w H x cs → SlC k w H l v → kP.C w H y cs) (hh : Hold C S a w) : Hold C ((S.setr i (Blk g T kP y)).setr j emp) a w := by
  obtain ⟨O, hh⟩ := hh
  have h1 := hh.res i
  rw [hr] at h1
  obtain ⟨hm, cs, hg, hkc⟩ := h1
  have h3 := hh.res j
  rw [hj] at h3
  obtain ⟨cl, hown, hc, hmm⟩ := h3
  let O' : Nat → Nat := fun b => if O b = Ro j then 0 else O b
  have hO : ∀ b, O' b ≠ 0 → O b ≠ 0 ∧ O' b = O b := fun b h => by
    by_cases e : O b = Ro j
    · exact absurd (if_pos e) h
    · exact ⟨fun e0 => h (by simp only [O']; rw [if_neg e, e0]), if_neg e⟩
  have hext : Ext w (hid C O) none_ w (hid C O') none_ := ⟨Nat.le_refl _, fun b _ hn => ⟨fun h => hn (h.imp id fun h => (hO b h).1), rfl⟩, fun _ _ h => h.elim⟩
  have go : Goes C (fun q => q = Ro j) O w O' w := ⟨rfl, rfl, rfl, Nat.le_refl _, fun b hb hq => ⟨if_neg hq, rfl⟩, fun b h => .inl (hO b h).1, fun b h => (hh.own b (hO b h).1).2, fun h => Ro_pos j h.symm⟩
  have hsl : SlC k w (hid C O') l v := by
    refine row_sl (H' := none_) hown (hc.mono hext) fun b hb => ?_
    rintro (h | h)
    · have h5 := hmm b hb
      have h6 := (hh.own b (by rw [h5]; exact Ro_pos j)).1
      rw [hX] at h6
      have h7 := hh.h0 b h
      rcases h6 with h6 | h6
      · omega
      · exact h6
    · exact h (if_pos (hmm b hb))
  refine ⟨O', hh.goes go rfl rfl rfl (fun s => .inl ⟨rfl, So_ne_Ro s j, rfl⟩) (fun q => ?_)⟩
  by_cases e : q = j
  · subst e
    right
    simp only [St.setr, upd_same]
    trivial
  · by_cases e' : q = i
    · subst e'
      right
      simp only [St.setr]
      rw [upd_other _ _ e, upd_same]
      have hmg : O g = Ro q := hm
      have hOg : O' g = Ro q := by
        show (if O g = Ro j then 0 else O g) = Ro q
        rw [if_neg (by rw [hmg]; exact fun h => e (Ro_inj h)), hmg]
      exact ⟨hOg, cs, hg, hcv _ _ _ (kO.mono hext hkc) hsl⟩
    · exact .inl ⟨by simp only [St.setr]; rw [upd_other _ _ e, upd_other _ _ e'], fun h => e (Ro_inj h)⟩
theorem AW.freezeF {Q : Exit → St → Prop} {c : Code} (i j : Nat) {g : Nat} {v : Value} {T E : TypeId} {kO : Kd β} {x : β} (kP : Kd γ) (y : γ) {k : Kd α} {l : List α} (hX : C.X = none_) (hij : i ≠ j) (hr : S.r i = Blk g T kO x) (hj : S.r j = Row v E k l)
    (hcv : ∀ w H cs, kO.C w H x cs → SlC k w H l v → kP.C w H y cs) (h : AW C c Q ((S.setr i (Blk g T kP y)).setr j emp)) : AW C c Q S :=
  fun a w hh => h a w (hh.freezeF hX hij hr hj hcv)

/-- A slot's own slice goes into a part of a block. -/
theorem op_storeR {T T' E : TypeId} {g i t : Nat} {kO : Kd β} {L : Lens kO kraw} {x : β} {k : Kd α} {l : List α} {p : Operand} (ho : o.op = .store T p (.tmp t)) (hd : o.dst = none) (ht : Ty C.P T kraw) (hp : Val C S p (ptrL g L)) (hr : S.r i = Blk g T' kO x) (hs : S.s t = ownR E k l) :
    OpE C o S ((S.set t top).setr i (BoxF g T' kO (fun v => L.set x v) E k l)) :=
  OpE.skip (by simp [ho]) fun O a w hh => by
    have h1 := raw_ptr (hp.of hh)
    have hsl := hh.slot t
    rw [hs] at hsl
    obtain ⟨cl, hown, hcl, hms⟩ := hsl
    have h2 := hh.res i
    rw [hr] at h2
    obtain ⟨hm, cs, hg, hc⟩ := h2
    obtain ⟨v, hv⟩ : ∃ v, a.tmps.getD t undef = v := ⟨_, rfl⟩
    rw [hv] at hown hms
    have h5 : a.eval (.tmp t) = v := hv
    have h4 : kraw.C w (hid C O) v [v] := ⟨rfl, row_one hown⟩
    have hmk : mkv kraw.agg [v] = v := rfl
    have hrun := run_store_at hg ht h4 (lay_fits (L := L) hc)
    rw [hmk] at hrun
    refine ⟨w.setRow g (lay cs L.off [v]).toArray, by simp [execOp, ho, h1, h5, Instr.storeAt, Instr.sureAddr, hrun], ?_⟩
    rw [hd]
    have hOg : O g = Ro i := hm
    have hvb : ∀ b, v.ownBlock = some b → O b = So t := fun b hb => hms b hb
    have hne : ∀ b, v.ownBlock = some b → b ≠ g := fun b hb e => by
      have h6 := hvb b hb
      rw [e, hOg] at h6
      exact So_ne_Ro t i h6.symm
    let O' : Nat → Nat := fun b => if O b = So t then Ro i else O b
    have hO1 : ∀ b, O b = So t → O' b = Ro i := fun b h => if_pos h
    have hO2 : ∀ b, O b ≠ So t → O' b = O b := fun b h => if_neg h
    have hiff : ∀ b, O' b ≠ 0 ↔ O b ≠ 0 := fun b => by
      by_cases e : O b = So t
      · rw [hO1 b e, e]; exact ⟨fun _ => So_pos t, fun _ => Ro_pos i⟩
      · rw [hO2 b e]
    have hx : Ext w (hid C O) none_ (w.setRow g (lay cs L.off [v]).toArray) (hid C O') none_ := ⟨by simp, fun b hb hn => ⟨fun h => hn (h.imp id (hiff b).1), setRow_other w g b _ (fun e => hn (.inr (by rw [e, hOg]; exact Ro_pos i)))⟩, fun _ _ h => h.elim⟩
    refine ⟨O', ⟨hh.h0, hh.os, hh.tape, hh.output, by have := hh.size; simpa using this, fun b hb hX => ?_, fun b hb => ?_, hh.dfr, hh.n, fun s => ?_, fun j => ?_⟩⟩
    · have hbg : b ≠ g := fun e => by
        have h6 := (hh.own g (by rw [hOg]; exact Ro_pos i)).1
        rw [← e] at h6
        rcases h6 with h6 | h6
        · omega
        · exact hX h6
      rw [setRow_other w g b _ hbg]
      exact hh.old b hb hX
    · have := hh.own b ((hiff b).1 hb)
      exact ⟨this.1, by simpa using this.2⟩
    · by_cases e : s = t
      · subst e
        simp only [St.set, St.setr, upd_same]
        trivial
      · simp only [St.set, St.setr]
        rw [upd_other _ _ e]
        refine (S.s s).mono ⟨by simp, hx.vis, fun b hb hm' => ?_⟩ (hh.slot s)
        have h6 : O b = So s := hm'
        refine ⟨(hO2 b (by rw [h6]; exact fun h => e (So_inj h))).trans h6, setRow_other w g b _ (fun e' => ?_)⟩
        rw [e', hOg] at h6
        exact So_ne_Ro s i h6.symm
    · by_cases e : j = i
      · subst e
        simp only [St.setr, upd_same]
        refine ⟨v, (hO2 g (by rw [hOg]; exact fun h => So_ne_Ro t j h.symm)).trans hOg, ⟨_, setRow_heap w g _ _ _ _ hg, L.okset (kO.mono hx hc) ⟨rfl, row_one hown⟩⟩, ⟨cl, ⟨hown.1, ?_⟩, hcl.mono hx⟩, fun b hb => ⟨hO1 b (hvb b hb), hne b hb⟩⟩
        rcases hown.2 with e | ⟨g', cap, cur, hve, hb, hg', r⟩
        · exact .inl e
        · refine .inr ⟨g', cap, cur, hve, hb, ?_, r⟩
          rw [setRow_other w g g' _ (hne g' (by rw [hve]; rfl))]
          exact hg'
      · simp only [St.setr, St.set]
        rw [upd_other _ _ e]
        refine (S.r j).mono ⟨by simp, hx.vis, fun b hb hm' => ?_⟩ (hh.res j)
        have h6 : O b = Ro j := hm'
        refine ⟨(hO2 b (by rw [h6]; exact fun h => So_ne_Ro t j h.symm)).trans h6, setRow_other w g b _ (fun e' => ?_)⟩
        rw [e', hOg] at h6
        exact e (Ro_inj h6).symm
theorem vu64 {x : Operand} {m : BitVec 64} (h : Val C S x (rd ku64 m)) : Val C S x (rd (kint .u64) (m.toNat : Int)) := fun O a w hh => by
  have h1 := rd_u64 (h O a w hh)
  rw [h1]
  have := m.isLt
  exact int_rd ⟨by simp [IntKind.min, IntKind.signed, IntKind.bits]; try omega, by simp [IntKind.max, IntKind.signed, IntKind.bits]; omega⟩
end boxf
end Go.Wb
