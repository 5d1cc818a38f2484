/- WbD: a part of the proof. -/
import Derived.Test.YtokmmcflinnfiabWbC
set_option linter.unusedVariables false
set_option linter.unusedSimpArgs false
namespace Go.Wb
open Go

/-! ### What operands are -/
class Dup (A : Asrt) : Prop where
  dup : ∀ {w H M M' v}, A.R w H M v → A.R w H M' v

instance {α : Type} (k : Kd α) (x : α) : Dup (rd k x) := ⟨fun h => h⟩
instance (v : Value) : Dup (raw v) := ⟨fun h => h⟩
instance : Dup top := ⟨fun h => h⟩

def hid (C : Ctx) (O : Nat → Nat) : HS := fun b => C.H0 b ∨ O b ≠ 0

def Val (C : Ctx) (S : St) (x : Operand) (A : Asrt) : Prop := ∀ O a w, HoldO C S O a w → A.R w (hid C O) none_ (a.eval x)

/-- A pointer into an own block, at a part of what lies there. -/
def ptrL {α β : Type} {k : Kd α} {kf : Kd β} (g : Nat) (L : Lens k kf) : Asrt := raw (.pointer (some ⟨g, L.off, none⟩))
instance {α β : Type} {k : Kd α} {kf : Kd β} (g : Nat) (L : Lens k kf) : Dup (ptrL g L) := ⟨fun h => h⟩

/-- A pointer to what is seen. -/
def rp {α : Type} (k : Kd α) (x : α) : Asrt :=
  ⟨fun w H _ v => ∃ b off cs, v = .pointer (some ⟨b, off, none⟩) ∧ b < w.heap.size ∧ ¬ H b ∧ k.C w H x cs ∧ At w b off cs,
   fun h ⟨b, off, cs, hv, hb, hn, hc, hat⟩ => let ⟨x, y⟩ := h.vis b hb hn; ⟨b, off, cs, hv, Nat.lt_of_lt_of_le hb h.size, x, k.mono h.pure_ hc, hat.mono y⟩⟩
instance {α : Type} (k : Kd α) (x : α) : Dup (rp k x) := ⟨fun h => h⟩

/-- Several values. -/
def tup2 (A B : Asrt) : Asrt := ⟨fun w H M v => ∃ x y, v = .tuple #[x, y] ∧ A.R w H none_ x ∧ B.R w H none_ y, fun h ⟨x, y, e, hx, hy⟩ => ⟨x, y, e, A.mono h.pure_ hx, B.mono h.pure_ hy⟩⟩
def tup3 (A B D : Asrt) : Asrt := ⟨fun w H M v => ∃ x y z, v = .tuple #[x, y, z] ∧ A.R w H none_ x ∧ B.R w H none_ y ∧ D.R w H none_ z, fun h ⟨x, y, z, e, hx, hy, hz⟩ => ⟨x, y, z, e, A.mono h.pure_ hx, B.mono h.pure_ hy, D.mono h.pure_ hz⟩⟩
instance (A B : Asrt) : Dup (tup2 A B) := ⟨fun h => h⟩
instance (A B D : Asrt) : Dup (tup3 A B D) := ⟨fun h => h⟩

/-- It is so if t. -/
def gd (t : Bool) (A : Asrt) : Asrt := ⟨fun w H M v => t = true → A.R w H M v, fun h k ht => A.mono h (k ht)⟩
instance (t : Bool) (A : Asrt) [Dup A] : Dup (gd t A) := ⟨fun h ht => Dup.dup (h ht)⟩

/-! ### What is owned -/
def Blk {α : Type} (g : Nat) (T : TypeId) (k : Kd α) (x : α) : Res where
  R := fun w H M => M g ∧ ∃ cs : List Value, w.heap[g]? = some (.cells cs.toArray T (0, 0)) ∧ k.C w H x cs
  mono := by
    rintro w H M w' H' M' h ⟨hm, cs, hg, hc⟩
    obtain ⟨a, b⟩ := h.own g (Array.getElem?_eq_some_iff.1 hg).1 hm
    exact ⟨a, cs, b.trans hg, k.mono h.pure_ hc⟩

/-- A slice's value that owns its row: the list l lies there. -/
def Row {α : Type} (v : Value) (E : TypeId) (k : Kd α) (l : List α) : Res :=
  ⟨fun w H M => ∃ cl, w.ownsRow 0 E k.sz v l.length cl ∧ Cells k w H l cl ∧ ∀ b, v.ownBlock = some b → M b,
   fun {w H M w' H' M'} h ⟨cl, ho, hc, hm⟩ => ⟨cl, by
     refine ⟨ho.1, ?_⟩
     rcases ho.2 with e | ⟨g, cap, cur, rfl, hb, hg, r⟩
     · exact .inl e
     · exact .inr ⟨g, cap, cur, rfl, hb, (h.own g (Array.getElem?_eq_some_iff.1 hg).1 (hm g rfl)).2.trans hg, r⟩, hc.mono h.pure_, fun b hb => (h.own b (ho.lt b hb).2 (hm b hb)).1⟩⟩

section vals
variable {C : Ctx} {S : St}
theorem vt {t : Nat} {A : Asrt} [Dup A] (h : S.s t = A) : Val C S (.tmp t) A := fun O a w hh => by
  have := hh.slot t
  rw [h] at this
  exact Dup.dup this
theorem vi {ik : IntKind} {n : Int} (h : ik.has n) : Val C S (.const (.int ik n)) (rd (kint ik) n) := fun _ _ _ _ => ⟨_, ⟨rfl, h⟩, rfl⟩
theorem vu {x : BitVec 64} {n : Int} (h : (x.toNat : Int) = n) : Val C S (.const (.int .u64 n)) (rd ku64 x) := fun _ _ _ _ => ⟨_, rfl, by rw [h]; rfl⟩
theorem vb {b : Bool} : Val C S (.const (.bool b)) (rd kbool b) := fun _ _ _ _ => ⟨_, rfl, rfl⟩
theorem vs {s : ByteArray} (h : s.size ≤ 9223372036854775807) : Val C S (.const (.string s)) (rd kstr s) := fun _ _ _ _ => ⟨_, ⟨rfl, h⟩, rfl⟩
theorem vc {v : Value} : Val C S (.const v) (raw v) := fun _ _ _ _ => rfl
theorem vf {f : FuncId} : Val C S (.func f) (raw (.func (.func f) #[] #[])) := fun _ _ _ _ => rfl
theorem vnil {α : Type} {k : Kd α} : Val C S (.const (.slice none 0 0)) (rd (ksl k) []) := fun _ _ _ _ => ⟨_, ⟨_, rfl, none, 0, rfl, Nat.le_refl _, by simp, fun h => absurd h (by simp)⟩, rfl⟩
theorem Val.of {x : Operand} {A : Asrt} (h : Val C S x A) {O : Nat → Nat} {a : Act} {w : World} (hh : HoldO C S O a w) : A.R w (hid C O) none_ (a.eval x) := h O a w hh
end vals

/-! ### Operations -/
def dok (o : Oper) (N : Nat) : Bool := match o.dst with | some d => Nat.blt d N | none => true
theorem dok_lt {o : Oper} {N : Nat} (h : dok o N = true) : ∀ t, o.dst = some t → t < N := fun t e => by
  simp [dok, e] at h
  exact h

section opers
variable {C : Ctx} {S S' : St} {o : Oper}

theorem OpE.value (hno : ∀ c, o.op ≠ .defer c) (h : ∀ O a w, HoldO C S O a w → ∃ v w', (execOp a.eval o).run C.P w = .ok (.value v) w' ∧ Hold C S' (a.put o.dst v) w') : OpE C o S S' := by
  rintro a w ⟨O, hh⟩
  obtain ⟨v, w', h1, h2⟩ := h O a w hh
  refine ⟨fun _ _ => trivial, ?_⟩
  rw [Oper.semAt_eq _ _ _ hno, h1]
  exact ⟨S', rfl, h2⟩
theorem OpE.skip (hno : ∀ c, o.op ≠ .defer c) (h : ∀ O a w, HoldO C S O a w → ∃ w', (execOp a.eval o).run C.P w = .ok .skip w' ∧ Hold C S' (a.put o.dst undef) w') : OpE C o S S' := by
  rintro a w ⟨O, hh⟩
  obtain ⟨w', h1, h2⟩ := h O a w hh
  refine ⟨fun _ _ => trivial, ?_⟩
  rw [Oper.semAt_eq _ _ _ hno, h1]
  exact ⟨S', rfl, h2⟩
/-- An operation that yields a value, memory as it was. -/
theorem OpE.plain {A : Asrt} (hno : ∀ c, o.op ≠ .defer c) (hd : dok o C.N = true) (h : ∀ O a w, HoldO C S O a w → ∃ v, (execOp a.eval o).run C.P w = .ok (.value v) w ∧ A.R w (hid C O) none_ v) : OpE C o S (S.put o.dst A) :=
  OpE.value hno fun O a w hh => let ⟨v, h1, h2⟩ := h O a w hh; ⟨v, w, h1, O, hh.yield_same (dok_lt hd) h2⟩

theorem op_move {x : Operand} {A : Asrt} (ho : o.op = .move x) (hd : dok o C.N = true) (h : Val C S x A) : OpE C o S (S.put o.dst A) :=
  OpE.plain (by simp [ho]) hd fun O a w hh => ⟨_, by simp [execOp, ho], h.of hh⟩
theorem op_assign {x : Operand} {A : Asrt} (ho : o.op = .assign x) (hd : dok o C.N = true) (h : Val C S x A) : OpE C o S (S.put o.dst A) :=
  OpE.plain (by simp [ho]) hd fun O a w hh => ⟨_, by simp [execOp, ho], h.of hh⟩

theorem rd_bool {w : World} {H M : HS} {b : Bool} {v : Value} (h : (rd kbool b).R w H M v) : v = .bool b := by
  obtain ⟨cs, rfl, rfl⟩ := h; rfl
theorem rd_int {w : World} {H M : HS} {ik : IntKind} {n : Int} {v : Value} (h : (rd (kint ik) n).R w H M v) : v = .int ik n ∧ ik.has n := by
  obtain ⟨cs, ⟨rfl, h⟩, rfl⟩ := h; exact ⟨rfl, h⟩
theorem rd_u64 {w : World} {H M : HS} {x : BitVec 64} {v : Value} (h : (rd ku64 x).R w H M v) : v = .int .u64 (x.toNat : Int) := by
  obtain ⟨cs, rfl, rfl⟩ := h; rfl
theorem rd_str {w : World} {H M : HS} {x : ByteArray} {v : Value} (h : (rd kstr x).R w H M v) : v = .string x ∧ x.size ≤ 9223372036854775807 := by
  obtain ⟨cs, ⟨rfl, h⟩, rfl⟩ := h; exact ⟨rfl, h⟩
theorem rd_sl {α : Type} {k : Kd α} {w : World} {H M : HS} {l : List α} {v : Value} (h : (rd (ksl k) l).R w H M v) : SlC k w H l v := by
  obtain ⟨cs, ⟨u, rfl, h⟩, rfl⟩ := h; exact h
theorem sl_rd {α : Type} {k : Kd α} {w : World} {H M : HS} {l : List α} {v : Value} (h : SlC k w H l v) : (rd (ksl k) l).R w H M v := ⟨_, ⟨_, rfl, h⟩, rfl⟩
theorem bool_rd {w : World} {H M : HS} {b : Bool} : (rd kbool b).R w H M (.bool b) := ⟨_, rfl, rfl⟩
theorem int_rd {w : World} {H M : HS} {ik : IntKind} {n : Int} (h : ik.has n) : (rd (kint ik) n).R w H M (.int ik n) := ⟨_, ⟨rfl, h⟩, rfl⟩
theorem u64_rd {w : World} {H M : HS} {x : BitVec 64} {n : Int} (h : n = (x.toNat : Int)) : (rd ku64 x).R w H M (.int .u64 n) := ⟨_, rfl, by rw [h]; rfl⟩

theorem op_pick {α : Type} {k : Kd α} {c x y : Operand} {t : Bool} {u v : α} (ho : o.op = .pick c x y) (hd : dok o C.N = true) (hc : Val C S c (rd kbool t)) (hx : Val C S x (gd t (rd k u))) (hy : Val C S y (gd (!t) (rd k v))) :
    OpE C o S (S.put o.dst (rd k (if t then u else v))) :=
  OpE.plain (by simp [ho]) hd fun O a w hh => by
    have h1 := rd_bool (hc.of hh)
    refine ⟨if t then a.eval x else a.eval y, by simp [execOp, ho, h1, asBool], ?_⟩
    cases t with
    | true => exact hx.of hh rfl
    | false => exact hy.of hh rfl
theorem vg {x : Operand} {t : Bool} {A : Asrt} (h : Val C S x A) : Val C S x (gd t A) := fun O a w hh _ => h O a w hh

/-! integers -/
theorem has_wrap (ik : IntKind) (n : Int) : ik.has (ik.wrap n) := by
  cases ik <;> simp [IntKind.has, IntKind.min, IntKind.max, IntKind.wrap, IntKind.signed, IntKind.bits] <;> omega
theorem binOp_guard {op : BinOp} {T : TypeId} {x y : Operand} {k k' : IntKind} {a b : Int} {P : Program} {w : World} : (eqGuard op T x y (.int k a) (.int k' b)).run P w = .ok () w := by
  cases op <;> rfl

section ints
variable {T U : TypeId} {x y : Operand} {ik : IntKind} {m n : Int}
theorem op_add (ho : o.op = .binOp .add T x y U) (hd : dok o C.N = true) (hx : Val C S x (rd (kint ik) m)) (hy : Val C S y (rd (kint ik) n)) : OpE C o S (S.put o.dst (rd (kint ik) (ik.wrap (m + n)))) :=
  OpE.plain (by simp [ho]) hd fun O a w hh => by
    have h1 := (rd_int (hx.of hh)).1; have h2 := (rd_int (hy.of hh)).1
    exact ⟨_, by simp [execOp, ho, h1, h2, binOp_guard, binOp, Op.intArith], int_rd (has_wrap _ _)⟩
theorem op_sub (ho : o.op = .binOp .sub T x y U) (hd : dok o C.N = true) (hx : Val C S x (rd (kint ik) m)) (hy : Val C S y (rd (kint ik) n)) : OpE C o S (S.put o.dst (rd (kint ik) (ik.wrap (m - n)))) :=
  OpE.plain (by simp [ho]) hd fun O a w hh => by
    have h1 := (rd_int (hx.of hh)).1; have h2 := (rd_int (hy.of hh)).1
    exact ⟨_, by simp [execOp, ho, h1, h2, binOp_guard, binOp, Op.intArith], int_rd (has_wrap _ _)⟩
theorem op_mul (ho : o.op = .binOp .mul T x y U) (hd : dok o C.N = true) (hx : Val C S x (rd (kint ik) m)) (hy : Val C S y (rd (kint ik) n)) : OpE C o S (S.put o.dst (rd (kint ik) (ik.wrap (m * n)))) :=
  OpE.plain (by simp [ho]) hd fun O a w hh => by
    have h1 := (rd_int (hx.of hh)).1; have h2 := (rd_int (hy.of hh)).1
    exact ⟨_, by simp [execOp, ho, h1, h2, binOp_guard, binOp, Op.intArith], int_rd (has_wrap _ _)⟩
theorem op_eql (ho : o.op = .binOp .eql T x y U) (hd : dok o C.N = true) (hx : Val C S x (rd (kint ik) m)) (hy : Val C S y (rd (kint ik) n)) : OpE C o S (S.put o.dst (rd kbool (decide (m = n)))) :=
  OpE.plain (by simp [ho]) hd fun O a w hh => by
    have h1 := (rd_int (hx.of hh)).1; have h2 := (rd_int (hy.of hh)).1
    have e : (m == n) = decide (m = n) := by by_cases e : m = n <;> simp [e]
    exact ⟨.bool (m == n), by simp [execOp, ho, h1, h2, binOp_guard, binOp, Op.intCmp], by rw [e]; exact bool_rd⟩
theorem op_neq (ho : o.op = .binOp .neq T x y U) (hd : dok o C.N = true) (hx : Val C S x (rd (kint ik) m)) (hy : Val C S y (rd (kint ik) n)) : OpE C o S (S.put o.dst (rd kbool (decide (m ≠ n)))) :=
  OpE.plain (by simp [ho]) hd fun O a w hh => by
    have h1 := (rd_int (hx.of hh)).1; have h2 := (rd_int (hy.of hh)).1
    have e : (m != n) = decide (m ≠ n) := by by_cases e : m = n <;> simp [e]
    exact ⟨.bool (m != n), by simp [execOp, ho, h1, h2, binOp_guard, binOp, Op.intCmp], by rw [e]; exact bool_rd⟩
theorem op_lss (ho : o.op = .binOp .lss T x y U) (hd : dok o C.N = true) (hx : Val C S x (rd (kint ik) m)) (hy : Val C S y (rd (kint ik) n)) : OpE C o S (S.put o.dst (rd kbool (decide (m < n)))) :=
  OpE.plain (by simp [ho]) hd fun O a w hh => by
    have h1 := (rd_int (hx.of hh)).1; have h2 := (rd_int (hy.of hh)).1
    exact ⟨_, by simp [execOp, ho, h1, h2, binOp_guard, binOp, Op.intCmp], bool_rd⟩
theorem op_leq (ho : o.op = .binOp .leq T x y U) (hd : dok o C.N = true) (hx : Val C S x (rd (kint ik) m)) (hy : Val C S y (rd (kint ik) n)) : OpE C o S (S.put o.dst (rd kbool (decide (m ≤ n)))) :=
  OpE.plain (by simp [ho]) hd fun O a w hh => by
    have h1 := (rd_int (hx.of hh)).1; have h2 := (rd_int (hy.of hh)).1
    exact ⟨_, by simp [execOp, ho, h1, h2, binOp_guard, binOp, Op.intCmp], bool_rd⟩
theorem op_gtr (ho : o.op = .binOp .gtr T x y U) (hd : dok o C.N = true) (hx : Val C S x (rd (kint ik) m)) (hy : Val C S y (rd (kint ik) n)) : OpE C o S (S.put o.dst (rd kbool (decide (m > n)))) :=
  OpE.plain (by simp [ho]) hd fun O a w hh => by
    have h1 := (rd_int (hx.of hh)).1; have h2 := (rd_int (hy.of hh)).1
    exact ⟨_, by simp [execOp, ho, h1, h2, binOp_guard, binOp, Op.intCmp], bool_rd⟩
theorem op_geq (ho : o.op = .binOp .geq T x y U) (hd : dok o C.N = true) (hx : Val C S x (rd (kint ik) m)) (hy : Val C S y (rd (kint ik) n)) : OpE C o S (S.put o.dst (rd kbool (decide (m ≥ n)))) :=
  OpE.plain (by simp [ho]) hd fun O a w hh => by
    have h1 := (rd_int (hx.of hh)).1; have h2 := (rd_int (hy.of hh)).1
    exact ⟨_, by simp [execOp, ho, h1, h2, binOp_guard, binOp, Op.intCmp], bool_rd⟩
end ints
theorem op_not {T : TypeId} {x : Operand} {b : Bool} (ho : o.op = .unOp .not T x) (hd : dok o C.N = true) (hx : Val C S x (rd kbool b)) : OpE C o S (S.put o.dst (rd kbool (!b))) :=
  OpE.plain (by simp [ho]) hd fun O a w hh => by
    have h1 := rd_bool (hx.of hh)
    exact ⟨_, by simp [execOp, ho, h1, Op.unary], bool_rd⟩
end opers
end Go.Wb
