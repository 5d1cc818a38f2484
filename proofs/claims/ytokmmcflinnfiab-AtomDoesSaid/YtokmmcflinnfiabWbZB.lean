/- WbZB: a part of the proof. -/
import Derived.Test.YtokmmcflinnfiabWbZA
set_option linter.unusedVariables false
set_option linter.unusedSimpArgs false
namespace Go.Wb
open Go

/-! ### A cell of which something is known -/
def kas (A : Asrt) : Kd Unit where
  sz := 1
  agg := false
  C := fun w H _ cs => ∃ v, cs = [v] ∧ v.oneCell' = true ∧ A.R w H none_ v
  len := by rintro w H x cs ⟨v, rfl, _⟩; rfl
  one := by rintro w H x cs ⟨v, rfl, h, _⟩ u hu; simp at hu; subst hu; exact h
  flat := fun _ => rfl
  mono := by rintro w H w' H' x cs e ⟨v, rfl, h, k⟩; exact ⟨v, rfl, h, A.mono e k⟩
section kas
variable {C : Ctx} {S S' : St} {o : Oper} {α σ : Type}
theorem vyd {x : Operand} {k : Kd α} {y : σ → α → Option (Lp σ)} {L : Lp σ → Res} (h : Val C S x (ydA C.P k y L)) : Val C S x (rd (kas (ydA C.P k y L)) ()) := fun O a w hh =>
  ⟨[a.eval x], ⟨_, rfl, (h.of hh).1, h.of hh⟩, rfl⟩
theorem vst {x : Operand} {k : Kd α} {F : σ → α → Option σ} {L : σ → Res} (h : Val C S x (stA C.P k F L)) : Val C S x (rd (kas (stA C.P k F L)) ()) := fun O a w hh =>
  ⟨[a.eval x], ⟨_, rfl, (h.of hh).1, h.of hh⟩, rfl⟩
theorem kas_rd {A : Asrt} [Dup A] {w : World} {H M : HS} {v : Value} (h : (rd (kas A) ()).R w H M v) : A.R w H M v := by
  obtain ⟨cs, ⟨u, rfl, _, hu⟩, rfl⟩ := h
  exact A.mono Ext.any hu
theorem Hold.asA {a : Act} {w : World} {t : Nat} {A : Asrt} [Dup A] (hs : S.s t = rd (kas A) ()) (hh : Hold C S a w) : Hold C (S.set t A) a w := by
  obtain ⟨O, hh⟩ := hh
  refine ⟨O, { hh with slot := fun u => ?_ }⟩
  by_cases e : u = t
  · subst e
    have h1 := hh.slot u
    rw [hs] at h1
    simp only [St.set, upd_same]
    exact kas_rd h1
  · simp only [St.set]
    rw [upd_other _ _ e]; exact hh.slot u
theorem op_loadA {T T' : TypeId} {g i d : Nat} {A : Asrt} [Dup A] {p : Operand} (ho : o.op = .load T p) (hdst : o.dst = some d) (hd : dok o C.N = true) (ht : Ty C.P T (kas A)) (hp : Val C S p (ptrL g (Lens.id (kas A)))) (hr : S.r i = Blk g T' (kas A) ()) : OpE C o S (S.put o.dst A) := by
  refine (op_load (i := i) ho hd ht hp hr).post fun a w hh => ?_
  have h2 := hh.asA (t := d) (A := A) (by rw [hdst]; simp [St.put, St.set, upd_same])
  refine h2.weak' (S' := S.put o.dst A) (by rw [hdst]; rfl) (fun u => .inl ?_) (fun j => .inl (by rw [hdst]; rfl))
  rw [hdst]
  simp only [St.put, St.set]
  by_cases e : u = d
  · subst e; rw [upd_same, upd_same]
  · rw [upd_other _ _ e, upd_other _ _ e, upd_other _ _ e]
end kas

/-! ### What holds as well -/
section turns
variable {C : Ctx} {S S' S'' : St} {β α : Type}
def Turn (C : Ctx) (S S' : St) : Prop := S'.d = S.d ∧ ∀ O a w, HoldO C S O a w → ∃ O', HoldO C S' O' a w ∧ ∀ b, O' b ≠ 0 → O b ≠ 0
theorem Turn.refl : Turn C S S := ⟨rfl, fun O _ _ h => ⟨O, h, fun _ h => h⟩⟩
theorem Turn.trans (h : Turn C S S') (k : Turn C S' S'') : Turn C S S'' := ⟨k.1.trans h.1, fun O a w hh => by
  obtain ⟨O1, h1, e1⟩ := h.2 O a w hh
  obtain ⟨O2, h2, e2⟩ := k.2 O1 a w h1
  exact ⟨O2, h2, fun b hb => e1 b (e2 b hb)⟩⟩
theorem Turn.packF (i j : Nat) {g : Nat} {v : Value} {T E : TypeId} {kO : Kd β} (c : Value → β) {k : Kd α} {l : List α} (hij : i ≠ j) (hr : S.r i = Blk g T kO (c v)) (hj : S.r j = Row v E k l) : Turn C S ((S.setr i (BoxF g T kO c E k l)).setr j emp) :=
  ⟨rfl, fun O a w hh => hh.packF c hij hr hj⟩
theorem RetOK.turn {fn : Func} {ζ : Type} {B : ζ → Asrt} {R' : ζ → Res} (h : Turn C S S') (k : RetOK C fn S' B R') : RetOK C fn S B R' :=
  ⟨h.1 ▸ k.1, fun O a w hh => by
    obtain ⟨O1, h1, e1⟩ := h.2 O a w hh
    obtain ⟨v, z, X', h2, h3, h4⟩ := k.2 O1 a w h1
    exact ⟨v, z, X', h2, fun b hb => e1 b (h3 b hb), h4⟩⟩
theorem AOps.unboxF {ops : Array Oper} {Q : Exit → St → Prop} {x : List Oper} (i j : Nat) {g : Nat} {T E : TypeId} {kO : Kd β} {c : Value → β} {k : Kd α} {l : List α} (hij : i ≠ j) (hr : S.r i = BoxF g T kO c E k l) (hj : S.r j = emp) (h : ∀ v, AOps C ops Q x ((S.setr i (Blk g T kO (c v))).setr j (Row v E k l))) : AOps C ops Q x S :=
  fun a w hh => let ⟨v, h1⟩ := hh.unboxF hij hr hj; h v a w h1
end turns

/-! ### Bodies that end in any way -/
section body
variable {C : Ctx} {S : St} {σ : Type}
def bodyT (C : Ctx) (M : σ → List (Nat × Res)) (r : Lp σ) : Exit → St → Prop
  | .normal, S' => ∃ S'' s', Turn C S' S'' ∧ r = .go s' ∧ FitR S'' (M s')
  | .exit id, S' => ∃ S'' s', Turn C S' S'' ∧ r = .out (.exit id) s' ∧ FitR S'' (M s')
  | .ret, S' => ∃ S'' s', Turn C S' S'' ∧ r = .out .ret s' ∧ FitR S'' (M s')
  | _, _ => False
theorem AW.bodyT {c : Code} {M : σ → List (Nat × Res)} {r : Lp σ} (h : AW C c (bodyT C M r) S) : AW C c (bodyQ (fun s => ress (M s)) (fun _ s => ress (M s)) r) S := by
  intro a w hh
  refine wpIn_mono (h a w hh) ?_
  have key : ∀ (S' S'' : St) (s' : σ) (a' : Act) (w' : World), Turn C S' S'' → FitR S'' (M s') → Hold C S' a' w' → Hold C ⟨S''.s, ress (M s'), S''.d⟩ a' w' := fun S' S'' s' a' w' ht hf hh => by
    obtain ⟨O0, h0⟩ := hh
    obtain ⟨O, hO, _⟩ := ht.2 O0 a' w' h0
    exact ⟨O, hO.weak rfl (fun _ => .inl rfl) (fitR_res hf (fun _ => .inr rfl))⟩
  rintro e a' w' ⟨S', h1, h2⟩
  cases e with
  | normal => obtain ⟨S'', s', ht, hr, hf⟩ := h1; exact ⟨_, ⟨s', hr, rfl⟩, key _ _ _ _ _ ht hf h2⟩
  | exit id => obtain ⟨S'', s', ht, hr, hf⟩ := h1; exact ⟨_, ⟨s', hr, rfl⟩, key _ _ _ _ _ ht hf h2⟩
  | ret => obtain ⟨S'', s', ht, hr, hf⟩ := h1; exact ⟨_, ⟨s', hr, rfl⟩, key _ _ _ _ _ ht hf h2⟩
  | goto t => exact h1.elim
  | panic ch => exact h1.elim
  | outgrown => exact h1.elim
end body
/-- how a range ended -/
def lpCase {σ β : Type _} (z : Lp σ) (f : σ → Option β) (g : Code → σ → Option β) : Option β := match z with
  | .go s => f s
  | .out c s => g c s
def cRet : Code → Bool
  | .ret => true
  | _ => false
def cExit (n : Nat) : Code → Bool
  | .exit m => Nat.beq m n
  | _ => false
theorem cRet_of {c : Code} (h : cRet c = true) : c = .ret := by
  cases c <;> first | rfl | cases h
theorem cExit_of {n : Nat} {c : Code} (h : cExit n c = true) : c = .exit n := by
  cases c <;> first | cases h | skip
  rename_i m
  rw [Nat.eq_of_beq_eq_true h]
end Go.Wb
namespace Go.Wb
open Go
/-! ### A struct's value, field by field -/
def fieldTy (P : Program) (T : TypeId) (i : Nat) : Option TypeId := match P.underlying T with
  | some (.struct fs) => (fs[i]?).map fun f => f.type
  | _ => none
section fieldv
variable {C : Ctx} {S S' : St} {o : Oper} {α β : Type}
theorem op_fieldv {T FT : TypeId} {i : Nat} {k : Kd α} {kf : Kd β} {x : α} {p : Operand} (L : Lens k kf) (ho : o.op = .field T p i) (hd : dok o C.N = true) (hfl : Fl C.P T i L) (hft : fieldTy C.P T i = some FT) (ht : Ty C.P FT kf) (ha : k.agg = true) (hp : Val C S p (rd k x)) : OpE C o S (S.put o.dst (rd kf (L.get x))) :=
  OpE.plain (by simp [ho]) hd fun O a w hh => by
    obtain ⟨cs, hc, hv⟩ := hp.of hh
    obtain ⟨fs, f, ti, hu, hf, hoff, hti, hs, hne⟩ := hfl.out
    have hty : f.type = FT := by
      unfold fieldTy at hft
      rw [hu] at hft
      simpa [hf] using hft
    have hg := L.okget hc
    have hpart := run_part (P := C.P) (w := w) (off := f.offset) (cs := cs) (c := (cs.drop L.off).take kf.sz) ht hg (by rw [hoff])
    have hv' : a.eval p = .agg cs.toArray := by rw [hv, ha]; rfl
    refine ⟨_, ?_, _, hg, rfl⟩
    simp [execOp, ho, hv', Instr.field, asAgg, run_underlying hu, hf, hty, hpart]
end fieldv
end Go.Wb
namespace Go.Wb
open Go
/-! ### An own slice's value tells its length -/
def VLen (v : Value) (n : Nat) : Prop := 0 < n → ∃ g c, v = .slice (some ⟨g, 0, none⟩) n c
section vlen
variable {C : Ctx} {S S' : St} {o : Oper} {α β : Type}
theorem AW.vlen {Q : Exit → St → Prop} {c : Code} (i : Nat) {v : Value} {E : TypeId} {k : Kd α} {l : List α} (hr : S.r i = Row v E k l) (h : VLen v l.length → AW C c Q S) : AW C c Q S := by
  rintro a w ⟨O, hh⟩
  have h3 := hh.res i
  rw [hr] at h3
  obtain ⟨cl, hown, hc, hm⟩ := h3
  exact h (fun hp => by obtain ⟨g, cap, cur, e, _⟩ := row_at hown hp; exact ⟨g, cap, e⟩) a w ⟨O, hh⟩
theorem op_indexoP {T E : TypeId} {m : Nat} {k : Kd α} {l : List α} {v : Value} {n : Int} {x : α} {p q : Operand} {ik : IntKind} (hv : VLen v m) (hm : l.length = m) (ho : o.op = .indexAddr T p q) (hd : dok o C.N = true) (ht : Sl C.P T E k) (hp : Val C S p (raw v)) (hq : Val C S q (rd (kint ik) n)) (hx : lget l n = some x) :
    OpE C o S (S.put o.dst (erp v n.toNat (Lens.id k))) :=
  OpE.plain (by simp [ho]) hd fun O a w hh => by
    have h1 := raw_eq (hp.of hh)
    have h2 := (rd_int (hq.of hh)).1
    obtain ⟨h0, h5⟩ := lget_of hx
    have hi := (List.getElem?_eq_some_iff.1 h5).1
    obtain ⟨g, cap, rfl⟩ := hv (by omega)
    obtain ⟨hu, ti, hti, hs⟩ := ht.out
    have h4 : (0 : Int) ≤ n ∧ n < m := ⟨h0, by omega⟩
    exact ⟨.pointer (some ⟨g, n.toNat * k.sz, none⟩), by simp [execOp, ho, h1, h2, Instr.indexAt, asIntOf, run_underlying hu, Instr.sureAddr, h4, sizeOf, typeInfo, hti, hs, add_at], g, _, _, rfl, rfl⟩
end vlen
end Go.Wb
namespace Go.Wb
open Go
/-! ### What is done behind the last operation -/
section ends
variable {C : Ctx} {S S' : St} {α β : Type}
def EndT (C : Ctx) (Q : Exit → St → Prop) : Exit → St → Prop := fun e S => ∀ a w, Hold C S a w → ∃ S', Q e S' ∧ Hold C S' a w
theorem AW.endT {c : Code} {Q : Exit → St → Prop} (h : AW C c (EndT C Q) S) : AW C c Q S := fun a w hh =>
  wpIn_mono (h a w hh) fun e a' w' ⟨S', h1, h2⟩ => h1 a' w' h2
theorem EndT.done {Q : Exit → St → Prop} {e : Exit} (h : Q e S) : EndT C Q e S := fun a w hh => ⟨S, h, hh⟩
theorem EndT.unboxF {Q : Exit → St → Prop} {e : Exit} (i j : Nat) {g : Nat} {T E : TypeId} {kO : Kd β} {c : Value → β} {k : Kd α} {l : List α} (hij : i ≠ j) (hr : S.r i = BoxF g T kO c E k l) (hj : S.r j = emp) (h : ∀ v, EndT C Q e ((S.setr i (Blk g T kO (c v))).setr j (Row v E k l))) : EndT C Q e S :=
  fun a w hh => let ⟨v, h1⟩ := hh.unboxF hij hr hj; h v a w h1
theorem EndT.unpackR {Q : Exit → St → Prop} {e : Exit} (t i : Nat) {E : TypeId} {k : Kd α} {l : List α} (hs : S.s t = ownR E k l) (hr : S.r i = emp) (h : ∀ v, EndT C Q e ((S.set t (raw v)).setr i (Row v E k l))) : EndT C Q e S :=
  fun a w hh => let ⟨v, h1⟩ := hh.unpackR hs hr; h v a w h1
end ends
end Go.Wb
