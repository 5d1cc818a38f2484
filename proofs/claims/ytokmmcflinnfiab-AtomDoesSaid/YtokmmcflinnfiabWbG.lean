/- WbG: a part of the proof. -/
import Derived.Test.YtokmmcflinnfiabWbF
set_option linter.unusedVariables false
set_option linter.unusedSimpArgs false
namespace Go.Wb
open Go

section u64
variable {C : Ctx} {S S' : St} {o : Oper} {T U : TypeId} {x y : Operand} {m n : BitVec 64}

theorem ofInt_u64 (m : BitVec 64) : BitVec.ofInt 64 (m.toNat : Int) = m := by
  apply BitVec.eq_of_toNat_eq
  rw [BitVec.toNat_ofInt]
  have := m.isLt
  omega
theorem wrap_u64 (m : BitVec 64) : IntKind.u64.wrap (m.toNat : Int) = (m.toNat : Int) := by
  have := m.isLt
  simp [IntKind.wrap, IntKind.signed, IntKind.bits]
  omega

theorem op_and (ho : o.op = .binOp .and T x y U) (hd : dok o C.N = true) (hx : Val C S x (rd ku64 m)) (hy : Val C S y (rd ku64 n)) : OpE C o S (S.put o.dst (rd ku64 (m &&& n))) :=
  OpE.plain (by simp [ho]) hd fun O a w hh => by
    have h1 := rd_u64 (hx.of hh); have h2 := rd_u64 (hy.of hh)
    refine ⟨.int .u64 ((m &&& n).toNat : Int), ?_, u64_rd rfl⟩
    have e : Op.intBits .and .u64 (m.toNat : Int) (n.toNat : Int) = pure (.int .u64 ((m &&& n).toNat : Int)) := by
      show pure (Value.int .u64 (IntKind.u64.wrap ((BitVec.ofInt 64 (m.toNat : Int) &&& BitVec.ofInt 64 (n.toNat : Int)).toNat : Int))) = _
      rw [ofInt_u64, ofInt_u64, wrap_u64]
    simp only [execOp, ho, h1, h2, binOp]
    simp [binOp_guard, e]
theorem op_or (ho : o.op = .binOp .or T x y U) (hd : dok o C.N = true) (hx : Val C S x (rd ku64 m)) (hy : Val C S y (rd ku64 n)) : OpE C o S (S.put o.dst (rd ku64 (m ||| n))) :=
  OpE.plain (by simp [ho]) hd fun O a w hh => by
    have h1 := rd_u64 (hx.of hh); have h2 := rd_u64 (hy.of hh)
    refine ⟨.int .u64 ((m ||| n).toNat : Int), ?_, u64_rd rfl⟩
    have e : Op.intBits .or .u64 (m.toNat : Int) (n.toNat : Int) = pure (.int .u64 ((m ||| n).toNat : Int)) := by
      show pure (Value.int .u64 (IntKind.u64.wrap ((BitVec.ofInt 64 (m.toNat : Int) ||| BitVec.ofInt 64 (n.toNat : Int)).toNat : Int))) = _
      rw [ofInt_u64, ofInt_u64, wrap_u64]
    simp only [execOp, ho, h1, h2, binOp]
    simp [binOp_guard, e]
theorem op_xor (ho : o.op = .binOp .xor T x y U) (hd : dok o C.N = true) (hx : Val C S x (rd ku64 m)) (hy : Val C S y (rd ku64 n)) : OpE C o S (S.put o.dst (rd ku64 (m ^^^ n))) :=
  OpE.plain (by simp [ho]) hd fun O a w hh => by
    have h1 := rd_u64 (hx.of hh); have h2 := rd_u64 (hy.of hh)
    refine ⟨.int .u64 ((m ^^^ n).toNat : Int), ?_, u64_rd rfl⟩
    have e : Op.intBits .xor .u64 (m.toNat : Int) (n.toNat : Int) = pure (.int .u64 ((m ^^^ n).toNat : Int)) := by
      show pure (Value.int .u64 (IntKind.u64.wrap ((BitVec.ofInt 64 (m.toNat : Int) ^^^ BitVec.ofInt 64 (n.toNat : Int)).toNat : Int))) = _
      rw [ofInt_u64, ofInt_u64, wrap_u64]
    simp only [execOp, ho, h1, h2, binOp]
    simp [binOp_guard, e]
theorem op_andNot (ho : o.op = .binOp .andNot T x y U) (hd : dok o C.N = true) (hx : Val C S x (rd ku64 m)) (hy : Val C S y (rd ku64 n)) : OpE C o S (S.put o.dst (rd ku64 (m &&& ~~~n))) :=
  OpE.plain (by simp [ho]) hd fun O a w hh => by
    have h1 := rd_u64 (hx.of hh); have h2 := rd_u64 (hy.of hh)
    refine ⟨.int .u64 ((m &&& ~~~n).toNat : Int), ?_, u64_rd rfl⟩
    have e : Op.intBits .andNot .u64 (m.toNat : Int) (n.toNat : Int) = pure (.int .u64 ((m &&& ~~~n).toNat : Int)) := by
      show pure (Value.int .u64 (IntKind.u64.wrap ((BitVec.ofInt 64 (m.toNat : Int) &&& ~~~(BitVec.ofInt 64 (n.toNat : Int))).toNat : Int))) = _
      rw [ofInt_u64, ofInt_u64, wrap_u64]
    simp only [execOp, ho, h1, h2, binOp]
    simp [binOp_guard, e]
theorem op_eqlu (ho : o.op = .binOp .eql T x y U) (hd : dok o C.N = true) (hx : Val C S x (rd ku64 m)) (hy : Val C S y (rd ku64 n)) : OpE C o S (S.put o.dst (rd kbool (decide (m = n)))) :=
  OpE.plain (by simp [ho]) hd fun O a w hh => by
    have h1 := rd_u64 (hx.of hh); have h2 := rd_u64 (hy.of hh)
    have e : ((m.toNat : Int) == (n.toNat : Int)) = decide (m = n) := by
      by_cases e : m = n
      · simp [e]
      · have : ¬ (m.toNat : Int) = n.toNat := fun h => e (BitVec.eq_of_toNat_eq (by omega))
        simp [e, this]
    exact ⟨.bool ((m.toNat : Int) == (n.toNat : Int)), by simp [execOp, ho, h1, h2, binOp_guard, binOp, Op.intCmp], by rw [e]; exact bool_rd⟩
end u64

/-! ### build -/
section build
variable {C : Ctx} {S S' : St} {o : Oper} {α : Type}

/-- Where a type's parts lie. -/
def plOf (P : Program) (T : TypeId) : Nat → Option (Nat × Nat) :=
  match P.underlying T with
  | some (.struct fs) => match fs.toList.mapM (fun f => (P.info? f.type).map fun i => (f.offset, i.size)) with
    | some places => fun x => places.toArray[x]?
    | none => fun _ => none
  | some (.array _ e) => match P.info? e with
    | some ie => fun i => some (i * ie.size, ie.size)
    | none => fun _ => none
  | _ => fun _ => none
def bdOk (P : Program) (T : TypeId) : Bool :=
  match P.underlying T with
  | some (.struct fs) => (fs.toList.mapM (fun f => (P.info? f.type).map fun i => (f.offset, i.size))).isSome
  | some (.array _ e) => (P.info? e).isSome
  | _ => false

def Parts (C : Ctx) (S : St) {α : Type} (k : Kd α) (pl : Nat → Option (Nat × Nat)) : List (Nat × Operand) → α → α → Prop
  | [], z, x => z = x
  | (i, p) :: ps, z, x => ∃ (β : Type) (kf : Kd β) (L : Lens k kf) (y : β), pl i = some (L.off, kf.sz) ∧ Val C S p (rd kf y) ∧ Parts C S k pl ps (L.set z y) x

theorem fold_lay : ∀ (c : List Value) (off n : Nat) (cs : Array Value), off + n + c.length ≤ cs.size →
    ((c.zipIdx n).foldl (fun (cs : Array Value) (q : Value × Nat) => cs.setIfInBounds (off + q.2) q.1) cs).toList = lay cs.toList (off + n) c
  | [], off, n, cs, _ => by simp [lay]
  | v :: c, off, n, cs, h => by
    have h' : off + (n + 1) + c.length ≤ (cs.setIfInBounds (off + n) v).size := by simp at h ⊢; omega
    rw [List.zipIdx_cons, List.foldl_cons, fold_lay c off (n + 1) _ h']
    apply List.ext_getElem?
    intro i
    simp only [List.length_cons] at h
    rw [lay_get (by simp; omega), lay_get (by simp; omega)]
    simp only [List.length_cons, Array.toList_setIfInBounds]
    by_cases h1 : i < off + n
    · rw [if_pos (by omega), if_pos h1, List.getElem?_set_ne (by omega)]
    · rw [if_neg h1]
      by_cases h2 : i = off + n
      · subst h2
        rw [if_pos (by omega), if_pos (by omega), List.getElem?_set_self (by simp; omega), Nat.sub_self]
        rfl
      · rw [if_neg (by omega)]
        by_cases h3 : i < off + (n + 1) + c.length
        · rw [if_pos h3, if_pos (by omega)]
          have : i - (off + n) = (i - (off + (n + 1))) + 1 := by omega
          rw [this, List.getElem?_cons_succ]
        · rw [if_neg h3, if_neg (by omega), List.getElem?_set_ne (by omega)]

theorem fill_parts {O : Nat → Nat} {a : Act} {w : World} (hh : HoldO C S O a w) {k : Kd α} {pl : Nat → Option (Nat × Nat)} : ∀ {ps : List (Nat × Operand)} {z x : α} {cs : Array Value}, Parts C S k pl ps z x → k.C w (hid C O) z cs.toList →
    ∃ cs', Instr.fill pl cs (ps.map fun q => (q.1, a.eval q.2)) = some cs' ∧ k.C w (hid C O) x cs'.toList
  | [], z, x, cs, h, hc => ⟨cs, rfl, by have : z = x := h; rw [← this]; exact hc⟩
  | (i, p) :: ps, z, x, cs, h, hc => by
    obtain ⟨β, kf, L, y, hpl, hp, hps⟩ := h
    obtain ⟨c, h1, h2⟩ := hp.of hh
    have hce := mkv_cells' h1
    have hl := kf.len h1
    have hfit := L.fits
    have hkl := k.len hc
    have hsz : cs.size = k.sz := by rw [← hkl]; simp
    have hfold := fold_lay c L.off 0 cs (by rw [hl]; omega)
    rw [Nat.add_zero] at hfold
    have hnew := L.okset hc h1
    rw [← hfold] at hnew
    obtain ⟨cs', h3, h4⟩ := fill_parts hh hps hnew
    refine ⟨cs', ?_, h4⟩
    simp only [List.map_cons, Instr.fill, hpl, h2, hce]
    have hcond : ¬ (c.toArray.size ≠ kf.sz || decide (L.off + c.toArray.size > cs.size)) = true := by
      simp [hl]; omega
    rw [if_neg hcond]
    rw [← h3]
    congr 1
    rw [← Array.foldl_toList]
    have ez : c.toArray.zipIdx.toList = c.zipIdx := by simp [Array.toList_zipIdx]
    rw [ez]

theorem op_build {T : TypeId} {k : Kd α} {ps : List (Nat × Operand)} {z x : α} (ho : o.op = .build T ps.toArray) (hd : dok o C.N = true) (hk : k.agg = true) (hb : bdOk C.P T = true) (hz : Zr C.P T k z) (hp : Parts C S k (plOf C.P T) ps z x) :
    OpE C o S (S.put o.dst (rd k x)) :=
  OpE.plain (by simp [ho]) hd fun O a w hh => by
    obtain ⟨i', zv, hi', hzv, hzc⟩ := hz.out
    obtain ⟨cs', h3, h4⟩ := fill_parts hh hp (hzc w (hid C O))
    have hbuilt : C.P.built T (ps.map fun q => (q.1, a.eval q.2)) = some cs' := by
      unfold Program.built
      unfold bdOk at hb
      unfold plOf at h3
      split at hb
      · rename_i fs hu
        obtain ⟨places, hm⟩ := Option.isSome_iff_exists.1 hb
        simp only [hu, hm] at h3
        simp only [hi', hu, hzv, hm]; exact h3
      · rename_i n e hu
        obtain ⟨ie, hie⟩ := Option.isSome_iff_exists.1 hb
        simp only [hu, hie] at h3
        simp only [hi', hu, hzv, hie]; exact h3
      · cases hb
    refine ⟨.agg cs', ?_, cs'.toList, h4, by simp [mkv, hk]⟩
    have := run_build (P := C.P) w T (ps.map fun q => (q.1, a.eval q.2)).toArray cs' (by simpa using hbuilt)
    have e : ps.toArray.map (fun (q : Nat × Operand) => (q.1, a.eval q.2)) = (ps.map fun q => (q.1, a.eval q.2)).toArray := by simp
    simp only [execOp, ho, e, Sem.run_bind, this, Result.andThen_ok, Sem.run_pure]
end build

/-! ### What is handed back -/
section ret
variable {C : Ctx} {S : St} {fn : Func} {α β : Type}

def resF (tmps : Array Value) : ResultVar → Sem Value
  | .tmp t => pure (tmps.getD t undef)
  | .cell a t => do loadVar t (← asAddr (tmps.getD a undef))
/-- One result variable: what it holds. -/
def Out (C : Ctx) (S : St) (r : ResultVar) (A : Asrt) : Prop :=
  ∀ O a w, HoldO C S O a w → ∃ v, (resF a.tmps r).run C.P w = .ok v w ∧ A.R w (hid C O) none_ v

theorem out_tmp {t : Nat} {A : Asrt} [Dup A] (h : S.s t = A) : Out C S (.tmp t) A := fun O a w hh => ⟨_, rfl, (vt h).of hh⟩
theorem out_cell {T : TypeId} {p g i : Nat} {k : Kd α} {x : α} (h : S.s p = ptrL g (Lens.id k)) (hr : S.r i = Blk g T k x) (ht : Ty C.P T k) : Out C S (.cell p T) (rd k x) := fun O a w hh => by
  have h1 : a.tmps.getD p undef = .pointer (some ⟨g, 0, none⟩) := raw_ptr ((vt h).of hh)
  have h2 := hh.res i
  rw [hr] at h2
  obtain ⟨hm, cs, hg, hc⟩ := h2
  have hat : At w g 0 cs := At.row hg (by simp)
  refine ⟨mkv k.agg cs, ?_, cs, hc, rfl⟩
  simp only [resF, h1, asAddr, Sem.run_bind, Sem.run_pure, Result.andThen_ok]
  exact run_load_at ht hc hat

theorem pview {O : Nat → Nat} {w : World} {M M' : HS} (A : Asrt) {v : Value} (h : A.R w (hid C O) none_ v) (X' : HS) (hX : ∀ b, X' b → O b ≠ 0) : A.R w (join C.H0 X') none_ v :=
  A.mono ⟨Nat.le_refl _, fun b _ hn => ⟨fun h => hn (h.imp id (hX b)), rfl⟩, fun _ _ h => h.elim⟩ h

theorem ret1 {r : ResultVar} {A : Asrt} (hf : fn.results = #[r]) (hd : S.d = []) (h : Out C S r A) : RetOK C fn S (fun _ : Unit => A) (fun _ => emp) :=
  ⟨hd, fun O a w hh => by
    obtain ⟨v, h1, h2⟩ := h O a w hh
    refine ⟨v, (), none_, ?_, fun _ h => h.elim, pview (M := none_) (M' := none_) A h2 none_ (fun _ h => h.elim), trivial⟩
    have e : results fn a.tmps = (do let vs ← fn.results.mapM (resF a.tmps); pure (if h : vs.size = 1 then vs[0] else .tuple vs)) := rfl
    rw [e, hf]
    simp [h1]⟩
theorem ret2 {r r' : ResultVar} {A B : Asrt} (hf : fn.results = #[r, r']) (hd : S.d = []) (h : Out C S r A) (h' : Out C S r' B) : RetOK C fn S (fun _ : Unit => tup2 A B) (fun _ => emp) :=
  ⟨hd, fun O a w hh => by
    obtain ⟨v, h1, h2⟩ := h O a w hh
    obtain ⟨u, h3, h4⟩ := h' O a w hh
    refine ⟨.tuple #[v, u], (), none_, ?_, fun _ h => h.elim, ⟨v, u, rfl, pview (M := none_) (M' := none_) A h2 none_ (fun _ h => h.elim), pview (M := none_) (M' := none_) B h4 none_ (fun _ h => h.elim)⟩, trivial⟩
    have e : results fn a.tmps = (do let vs ← fn.results.mapM (resF a.tmps); pure (if h : vs.size = 1 then vs[0] else .tuple vs)) := rfl
    rw [e, hf]
    simp [h1, h3]⟩

theorem PCon.of {P : Program} {f : FuncId} {As : List Asrt} {B : Asrt} (h : Con P f As emp (fun _ : Unit => B) (fun _ => emp)) : PCon P f As B := by
  intro w H vs hH hA
  refine (h w H none_ vs hH (fun _ h => h.elim) hA trivial).mono ?_
  rintro e w' ⟨v, z, X', rfl, hf, hB, _⟩
  refine ⟨v, rfl, ⟨hf.os, hf.tape, hf.output, hf.size, hf.same, fun b h => h.elim⟩, B.mono ⟨Nat.le_refl _, fun b _ hj => ⟨fun hh => hj (.inl hh), rfl⟩, fun _ _ h => h.elim⟩ hB⟩
end ret
end Go.Wb
