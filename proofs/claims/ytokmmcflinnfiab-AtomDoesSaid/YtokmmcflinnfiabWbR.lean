/- WbR: a part of the proof. -/
import Derived.Test.YtokmmcflinnfiabWbQ
set_option linter.unusedVariables false
set_option linter.unusedSimpArgs false
namespace Go.Wb
open Go

/-! ### An own slice is lent -/
class Flat (B : Asrt) : Prop where
  flat : ∀ {w H M w' H' M' v}, B.R w H M v → B.R w' H' M' v
instance (ik : IntKind) (n : Int) : Flat (rd (kint ik) n) := ⟨fun ⟨cs, h, e⟩ => ⟨cs, h, e⟩⟩
instance (b : Bool) : Flat (rd kbool b) := ⟨fun ⟨cs, h, e⟩ => ⟨cs, h, e⟩⟩
instance (b : BitVec 64) : Flat (rd ku64 b) := ⟨fun ⟨cs, h, e⟩ => ⟨cs, h, e⟩⟩
instance (A B : Asrt) [Flat A] [Flat B] : Flat (tup2 A B) := ⟨fun ⟨x, y, e, h1, h2⟩ => ⟨x, y, e, Flat.flat h1, Flat.flat h2⟩⟩

section lend
variable {C : Ctx} {S S' : St} {o : Oper} {α : Type}
def hidB (C : Ctx) (O : Nat → Nat) (i : Nat) : HS := fun b => hid C O b ∧ O b ≠ Ro i
def ValB (C : Ctx) (S : St) (i : Nat) (x : Operand) (A : Asrt) : Prop := ∀ O a w, HoldO C S O a w → A.R w (hidB C O i) none_ (a.eval x)
theorem ext_lend {w : World} {O : Nat → Nat} {i : Nat} : Ext w (hid C O) none_ w (hidB C O i) none_ := ⟨Nat.le_refl _, fun b _ hn => ⟨fun h => hn h.1, rfl⟩, fun _ _ h => h.elim⟩
theorem vB {i : Nat} {x : Operand} {A : Asrt} (h : Val C S x A) : ValB C S i x A := fun O a w hh => A.mono ext_lend (h O a w hh)
theorem vL {i t : Nat} {E : TypeId} {k : Kd α} {l : List α} {v : Value} (hs : S.s t = raw v) (hr : S.r i = Row v E k l) : ValB C S i (.tmp t) (rd (ksl k) l) := fun O a w hh => by
  have h1 : a.eval (.tmp t) = v := raw_eq (by have := hh.slot t; rwa [hs] at this)
  have h2 := hh.res i
  rw [hr] at h2
  obtain ⟨cl, ho, hc, hm⟩ := h2
  rw [h1]
  exact sl_rd (row_sl (H' := none_) ho (hc.mono ext_lend) fun b hb h => h.2 (hm b hb))
def ValsB (C : Ctx) (S : St) (i : Nat) : List Operand → List Asrt → Prop
  | [], [] => True
  | x :: xs, A :: As => ValB C S i x A ∧ ValsB C S i xs As
  | _, _ => False
theorem ValsB.args {O : Nat → Nat} {a : Act} {w : World} {i : Nat} (hh : HoldO C S O a w) : ∀ {xs : List Operand} {As : List Asrt}, ValsB C S i xs As → Args w (hidB C O i) As (xs.map a.eval)
  | [], [], _ => trivial
  | _ :: _, _ :: _, ⟨h1, h2⟩ => ⟨h1 _ _ _ hh, ValsB.args hh h2⟩
  | [], _ :: _, h => h.elim
  | _ :: _, [], h => h.elim
theorem op_callB {f : FuncId} {xs : List Operand} {ts : Array TypeId} {As : List Asrt} {B : Asrt} [hB : Flat B] (i : Nat) (hc : PCon C.P f As B) (he : Ent C.P f) (ho : o.op = .call { callee := .value (.func f), args := xs.toArray, argTypes := ts }) (hd : dok o C.N = true) (hv : ValsB C S i xs As) :
    OpE C o S (S.put o.dst B) := by
  rintro a w ⟨O, hh⟩
  refine ⟨fun _ _ => trivial, ?_⟩
  have hrun : (execOp a.eval o).run C.P w = .ok (.enter f (xs.map a.eval).toArray) w := by
    simp only [execOp, ho, resolve, Act.eval, Deferred.ofValue, Sem.run_bind, Sem.run_pure, Result.andThen_ok, invoke]
    simpa using he _ w
  rw [Oper.semAt_eq _ _ _ (by simp [ho]), hrun]
  refine ⟨fun h => by simp [Ctx.fen, Fence.wide] at h, callsIn_fen ?_⟩
  refine (hc w (hidB C O i) _ (fun b h => hh.hid_lt b h.1) (hv.args hh)).mono ?_
  rintro e w' ⟨v, rfl, hf, hBv⟩
  exact ⟨_, rfl, O, hh.yield ⟨hf.os, hf.tape, hf.output, hf.size, fun b hb _ => ⟨rfl, hf.same b hb (fun h => h)⟩, fun b h => .inl h, fun b h => Nat.lt_of_lt_of_le (hh.own b h).2 hf.size, fun h => h⟩ (dok_lt hd) (hB.flat hBv)⟩

/-! several slots are frozen at once -/
def St.setL (S : St) (ts : List Nat) (A : Asrt) : St := ⟨upds S.s (ts.map fun t => (t, A)), S.r, S.d⟩
def AllS (S : St) (A : Asrt) : List Nat → Prop
  | [] => True
  | t :: ts => S.s t = A ∧ AllS S A ts
theorem allS_mem {A : Asrt} : ∀ {ts : List Nat}, AllS S A ts → ∀ t ∈ ts, S.s t = A
  | [], _, t, h => by cases h
  | u :: ts, ⟨h1, h2⟩, t, h => by
    rcases List.mem_cons.1 h with rfl | h
    · exact h1
    · exact allS_mem h2 t h
theorem upds_const {A : Asrt} : ∀ (ts : List Nat) (s : Nat → Asrt) (t : Nat), (t ∈ ts ∧ upds s (ts.map fun t => (t, A)) t = A) ∨ (t ∉ ts ∧ upds s (ts.map fun t => (t, A)) t = s t)
  | [], s, t => .inr ⟨by simp, rfl⟩
  | u :: ts, s, t => by
    simp only [List.map_cons, upds]
    rcases upds_const ts (upd s u A) t with ⟨h1, h2⟩ | ⟨h1, h2⟩
    · exact .inl ⟨List.mem_cons_of_mem _ h1, h2⟩
    · by_cases e : t = u
      · subst e; exact .inl ⟨by simp, h2.trans (upd_same ..)⟩
      · exact .inr ⟨by simp [e, h1], h2.trans (upd_other _ _ e)⟩
theorem Hold.freezes {a : Act} {w : World} {ts : List Nat} {i : Nat} {E : TypeId} {k : Kd α} {l : List α} {v : Value} (hX : C.X = none_) (hs : AllS S (raw v) ts) (hr : S.r i = Row v E k l) (hh : Hold C S a w) : Hold C ((S.setL ts (rd (ksl k) l)).setr i emp) a w := by
  obtain ⟨O, hh⟩ := hh
  have h3 := hh.res i
  rw [hr] at h3
  obtain ⟨cl, hown, hc, hm⟩ := h3
  let O' : Nat → Nat := fun b => if O b = Ro i then 0 else O b
  have hO : ∀ b, O' b ≠ 0 → O b ≠ 0 ∧ O' b = O b := fun b h => by
    by_cases e : O b = Ro i
    · exact absurd (if_pos e) h
    · exact ⟨fun e0 => h (by simp only [O']; rw [if_neg e, e0]), if_neg e⟩
  have hext : Ext w (hid C O) none_ w (hid C O') none_ := ⟨Nat.le_refl _, fun b _ hn => ⟨fun h => hn (h.imp id fun h => (hO b h).1), rfl⟩, fun _ _ h => h.elim⟩
  have go : Goes C (fun q => q = Ro i) O w O' w := ⟨rfl, rfl, rfl, Nat.le_refl _, fun b hb hq => ⟨if_neg hq, rfl⟩, fun b h => .inl (hO b h).1, fun b h => (hh.own b (hO b h).1).2, fun h => Ro_pos i h.symm⟩
  refine ⟨O', hh.goes go rfl rfl rfl (fun s => ?_) (fun j => ?_)⟩
  · rcases upds_const (A := rd (ksl k) l) ts S.s s with ⟨h1, h2⟩ | ⟨h1, h2⟩
    · right
      simp only [St.setL, St.setr]
      rw [h2]
      have h5 : a.tmps.getD s undef = v := raw_eq (by have := hh.slot s; rwa [allS_mem hs s h1] at this)
      rw [h5]
      refine sl_rd (row_sl (H' := none_) hown (hc.mono hext) fun b hb => ?_)
      rintro (h | h)
      · have h5 := hm b hb
        have h6 := (hh.own b (by rw [h5]; exact Ro_pos i)).1
        rw [hX] at h6
        have h7 := hh.h0 b h
        rcases h6 with h6 | h6
        · omega
        · exact h6
      · exact h (if_pos (hm b hb))
    · exact .inl ⟨by simp only [St.setL, St.setr]; exact h2, So_ne_Ro s i, rfl⟩
  · by_cases e : j = i
    · subst e
      right
      simp only [St.setr, upd_same]
      trivial
    · exact .inl ⟨by simp only [St.setr]; rw [upd_other _ _ e]; rfl, fun h => e (Ro_inj h)⟩
theorem AOps.freezes {ops : Array Oper} {Q : Exit → St → Prop} {c : List Oper} (ts : List Nat) (i : Nat) {E : TypeId} {k : Kd α} {l : List α} {v : Value} (hX : C.X = none_) (hs : AllS S (raw v) ts) (hr : S.r i = Row v E k l) (h : AOps C ops Q c ((S.setL ts (rd (ksl k) l)).setr i emp)) : AOps C ops Q c S :=
  fun a w hh => h a w (hh.freezes hX hs hr)
theorem AW.freezes {Q : Exit → St → Prop} {c : Code} (ts : List Nat) (i : Nat) {E : TypeId} {k : Kd α} {l : List α} {v : Value} (hX : C.X = none_) (hs : AllS S (raw v) ts) (hr : S.r i = Row v E k l) (h : AW C c Q ((S.setL ts (rd (ksl k) l)).setr i emp)) : AW C c Q S :=
  fun a w hh => h a w (hh.freezes hX hs hr)

/-! numbers of 64 bits -/
section u64
variable {T U : TypeId} {x y : Operand} {m n : BitVec 64}
theorem wrapN (x : Nat) : IntKind.u64.wrap (x : Int) = ((x % 18446744073709551616 : Nat) : Int) := by
  simp [IntKind.wrap, IntKind.signed, IntKind.bits]
theorem wrap_ofInt (z : Int) : IntKind.u64.wrap z = ((BitVec.ofInt 64 z).toNat : Int) := by
  rw [BitVec.toNat_ofInt]
  simp only [IntKind.wrap, IntKind.signed, IntKind.bits]
  have := Int.emod_nonneg z (show (18446744073709551616 : Int) ≠ 0 by decide)
  simp
  omega
theorem addN (m n : BitVec 64) : BitVec.ofInt 64 ((m.toNat : Int) + (n.toNat : Int)) = m + n := by rw [BitVec.ofInt_add, ofInt_u64, ofInt_u64]
theorem mulN (m n : BitVec 64) : BitVec.ofInt 64 ((m.toNat : Int) * (n.toNat : Int)) = m * n := by rw [BitVec.ofInt_mul, ofInt_u64, ofInt_u64]
theorem subN (m n : BitVec 64) : BitVec.ofInt 64 ((m.toNat : Int) - (n.toNat : Int)) = m - n := by
  apply BitVec.eq_of_toNat_eq
  rw [BitVec.toNat_ofInt, BitVec.toNat_sub]
  have := m.isLt; have := n.isLt
  omega
theorem op_uadd (ho : o.op = .binOp .add T x y U) (hd : dok o C.N = true) (hx : Val C S x (rd ku64 m)) (hy : Val C S y (rd ku64 n)) : OpE C o S (S.put o.dst (rd ku64 (m + n))) :=
  OpE.plain (by simp [ho]) hd fun O a w hh => by
    have h1 := rd_u64 (hx.of hh); have h2 := rd_u64 (hy.of hh)
    refine ⟨.int .u64 (IntKind.u64.wrap ((m.toNat : Int) + (n.toNat : Int))), by simp [execOp, ho, h1, h2, binOp_guard, binOp, Op.intArith], u64_rd ?_⟩
    rw [wrap_ofInt, addN]
theorem op_usub (ho : o.op = .binOp .sub T x y U) (hd : dok o C.N = true) (hx : Val C S x (rd ku64 m)) (hy : Val C S y (rd ku64 n)) : OpE C o S (S.put o.dst (rd ku64 (m - n))) :=
  OpE.plain (by simp [ho]) hd fun O a w hh => by
    have h1 := rd_u64 (hx.of hh); have h2 := rd_u64 (hy.of hh)
    refine ⟨.int .u64 (IntKind.u64.wrap ((m.toNat : Int) - (n.toNat : Int))), by simp [execOp, ho, h1, h2, binOp_guard, binOp, Op.intArith], u64_rd ?_⟩
    rw [wrap_ofInt, subN]
theorem op_umul (ho : o.op = .binOp .mul T x y U) (hd : dok o C.N = true) (hx : Val C S x (rd ku64 m)) (hy : Val C S y (rd ku64 n)) : OpE C o S (S.put o.dst (rd ku64 (m * n))) :=
  OpE.plain (by simp [ho]) hd fun O a w hh => by
    have h1 := rd_u64 (hx.of hh); have h2 := rd_u64 (hy.of hh)
    refine ⟨.int .u64 (IntKind.u64.wrap ((m.toNat : Int) * (n.toNat : Int))), by simp [execOp, ho, h1, h2, binOp_guard, binOp, Op.intArith], u64_rd ?_⟩
    rw [wrap_ofInt, mulN]
def oushl (m : BitVec 64) (n : Int) : Option (BitVec 64) := bif decide (n < 0) then none else some (m <<< n.toNat)
def oushr (m : BitVec 64) (n : Int) : Option (BitVec 64) := bif decide (n < 0) then none else some (m >>> n.toNat)
theorem oushl_of {m r : BitVec 64} {n : Int} (h : oushl m n = some r) : ¬ n < 0 ∧ m <<< n.toNat = r := by
  unfold oushl at h
  by_cases e : n < 0
  · rw [decide_eq_true e] at h; cases h
  · rw [decide_eq_false e] at h; exact ⟨e, Option.some.inj h⟩
theorem oushr_of {m r : BitVec 64} {n : Int} (h : oushr m n = some r) : ¬ n < 0 ∧ m >>> n.toNat = r := by
  unfold oushr at h
  by_cases e : n < 0
  · rw [decide_eq_true e] at h; cases h
  · rw [decide_eq_false e] at h; exact ⟨e, Option.some.inj h⟩
theorem shl_min (m : BitVec 64) (k : Nat) : IntKind.u64.wrap ((m.toNat : Int) * 2 ^ (min k 64)) = ((m <<< k).toNat : Int) := by
  have e1 : ((m.toNat : Int) * 2 ^ (min k 64)) = ((m.toNat * 2 ^ (min k 64) : Nat) : Int) := by rw [Int.natCast_mul, Int.natCast_pow]; rfl
  rw [e1, wrapN, BitVec.toNat_shiftLeft, Nat.shiftLeft_eq]
  congr 1
  rcases Nat.lt_or_ge k 64 with h | h
  · rw [Nat.min_eq_left (by omega)]
  · rw [Nat.min_eq_right h]
    obtain ⟨j, rfl⟩ : ∃ j, k = j + 64 := ⟨k - 64, by omega⟩
    rw [Nat.pow_add, ← Nat.mul_assoc, Nat.mul_mod_left, Nat.mul_mod_left]
theorem shr_min (m : BitVec 64) (k : Nat) : ((m.toNat : Int).fdiv (2 ^ (min k 64))) = ((m >>> k).toNat : Int) := by
  rw [BitVec.toNat_ushiftRight, Nat.shiftRight_eq_div_pow]
  have e : ((2 : Int) ^ (min k 64)) = ((2 ^ (min k 64) : Nat) : Int) := by rw [Int.natCast_pow]; rfl
  rw [e, Int.fdiv_eq_ediv_of_nonneg _ (Int.natCast_nonneg _), ← Int.natCast_ediv]
  congr 1
  rcases Nat.lt_or_ge k 64 with h | h
  · rw [Nat.min_eq_left (by omega)]
  · rw [Nat.min_eq_right h]
    have hm := m.isLt
    rw [Nat.div_eq_of_lt hm, Nat.div_eq_of_lt (Nat.lt_of_lt_of_le hm (Nat.pow_le_pow_right (by decide) h))]
theorem op_ushl {r : BitVec 64} {jk : IntKind} {n : Int} (ho : o.op = .binOp .shl T x y U) (hd : dok o C.N = true) (hx : Val C S x (rd ku64 m)) (hy : Val C S y (rd (kint jk) n)) (h : oushl m n = some r) : OpE C o S (S.put o.dst (rd ku64 r)) :=
  OpE.plain (by simp [ho]) hd fun O a w hh => by
    obtain ⟨h0, rfl⟩ := oushl_of h
    have h1 := rd_u64 (hx.of hh); have h2 := (rd_int (hy.of hh)).1
    exact ⟨.int .u64 (IntKind.u64.wrap ((m.toNat : Int) * 2 ^ (min n.toNat 64))), by simp [execOp, ho, h1, h2, binOp_guard, binOp, Op.shift, h0, IntKind.bits], u64_rd (shl_min m n.toNat)⟩
theorem op_ushr {r : BitVec 64} {jk : IntKind} {n : Int} (ho : o.op = .binOp .shr T x y U) (hd : dok o C.N = true) (hx : Val C S x (rd ku64 m)) (hy : Val C S y (rd (kint jk) n)) (h : oushr m n = some r) : OpE C o S (S.put o.dst (rd ku64 r)) :=
  OpE.plain (by simp [ho]) hd fun O a w hh => by
    obtain ⟨h0, rfl⟩ := oushr_of h
    have h1 := rd_u64 (hx.of hh); have h2 := (rd_int (hy.of hh)).1
    exact ⟨.int .u64 ((m.toNat : Int).fdiv (2 ^ (min n.toNat 64))), by simp [execOp, ho, h1, h2, binOp_guard, binOp, Op.shift, h0, IntKind.bits], u64_rd (shr_min m n.toNat)⟩
theorem op_convu {n : Int} {ik : IntKind} (ho : o.op = .convert T U x) (hd : dok o C.N = true) (hT : (C.P.underlying T).isSome = true) (hU : C.P.underlying U = some (.int .u64)) (hx : Val C S x (rd (kint ik) n)) : OpE C o S (S.put o.dst (rd ku64 (BitVec.ofInt 64 n))) :=
  OpE.plain (by simp [ho]) hd fun O a w hh => by
    have h1 := rd_int (hx.of hh)
    obtain ⟨d, hd'⟩ := Option.isSome_iff_exists.1 hT
    refine ⟨.int .u64 (IntKind.u64.wrap n), ?_, u64_rd (wrap_ofInt n)⟩
    simp only [execOp, ho, h1.1, convert, Sem.run_bind, run_underlying hd', run_underlying hU, Result.andThen_ok]
    cases d <;> simp [Conv.intToInt]
theorem op_uconv {ik : IntKind} (ho : o.op = .convert T U x) (hd : dok o C.N = true) (hT : (C.P.underlying T).isSome = true) (hU : C.P.underlying U = some (.int ik)) (hx : Val C S x (rd ku64 m)) : OpE C o S (S.put o.dst (rd (kint ik) (ik.wrap (m.toNat : Int)))) :=
  OpE.plain (by simp [ho]) hd fun O a w hh => by
    have h1 := rd_u64 (hx.of hh)
    obtain ⟨d, hd'⟩ := Option.isSome_iff_exists.1 hT
    refine ⟨.int ik (ik.wrap (m.toNat : Int)), ?_, int_rd (has_wrap _ _)⟩
    simp only [execOp, ho, h1, convert, Sem.run_bind, run_underlying hd', run_underlying hU, Result.andThen_ok]
    cases d <;> simp [Conv.intToInt]
end u64
end lend
end Go.Wb
