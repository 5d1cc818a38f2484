/- WbE: a part of the proof. -/
import Derived.Test.YtokmmcflinnfiabWbD
set_option linter.unusedVariables false
set_option linter.unusedSimpArgs false
namespace Go.Wb
open Go

def isAggD : TypeDesc → Bool
  | .struct _ => true
  | .array _ _ => true
  | _ => false
/-- A Go type is laid out as a kind tells. -/
structure Ty {α : Type} (P : Program) (T : TypeId) (k : Kd α) : Prop where
  sz : (P.info? T).map (·.size) = some k.sz
  ag : (P.underlying T).map isAggD = some k.agg
/-- A kind's cells of a value that leads nowhere. -/
def KZ {α : Type} (k : Kd α) (z : α) (cs : List Value) : Prop := ∀ w H, k.C w H z cs
/-- A type's zero value is z. -/
def Zr {α : Type} (P : Program) (T : TypeId) (k : Kd α) (z : α) : Prop := ∃ cs, KZ k z cs ∧ (P.info? T).bind (·.zero) = some (mkv k.agg cs)
def fieldOf (P : Program) (T : TypeId) (i : Nat) : Option (Nat × Nat) :=
  match P.underlying T with
  | some (.struct fs) => (fs[i]?).bind fun f => (P.info? f.type).map fun ti => (f.offset, ti.size)
  | _ => none
/-- Its field number i is the part that a lens takes. -/
structure Fl {α β : Type} {k : Kd α} {kf : Kd β} (P : Program) (T : TypeId) (i : Nat) (L : Lens k kf) : Prop where
  at_ : fieldOf P T i = some (L.off, kf.sz)
  ne : Nat.beq kf.sz 0 = false
/-- A slice's type and its elements'. -/
structure Sl {α : Type} (P : Program) (T E : TypeId) (k : Kd α) : Prop where
  u : P.underlying T = some (.slice E)
  sz : (P.info? E).map (·.size) = some k.sz
/-- An array's type. -/
structure Ar {α : Type} (P : Program) (T E : TypeId) (n : Nat) (k : Kd α) : Prop where
  u : P.underlying T = some (.array n E)
  sz : (P.info? E).map (·.size) = some k.sz

theorem Ty.out {α : Type} {P : Program} {T : TypeId} {k : Kd α} (h : Ty P T k) : ∃ i d, P.info? T = some i ∧ P.underlying T = some d ∧ isAggD d = k.agg ∧ i.size = k.sz := by
  obtain ⟨i, h1, h2⟩ := Option.map_eq_some_iff.1 h.sz
  obtain ⟨d, h3, h4⟩ := Option.map_eq_some_iff.1 h.ag
  exact ⟨i, d, h1, h3, h4, h2⟩
theorem Zr.out {α : Type} {P : Program} {T : TypeId} {k : Kd α} {z : α} (h : Zr P T k z) : ∃ i zv, P.info? T = some i ∧ i.zero = some zv ∧ ∀ w H, k.C w H z zv.cells.toList := by
  obtain ⟨cs, h1, h2⟩ := h
  obtain ⟨i, h3, h4⟩ := Option.bind_eq_some_iff.1 h2
  refine ⟨i, _, h3, h4, fun w H => ?_⟩
  rw [mkv_cells (k.one (h1 w H)) (fun e => (k.len (h1 w H)).trans (k.flat e))]
  exact h1 w H
theorem Fl.out {α β : Type} {k : Kd α} {kf : Kd β} {P : Program} {T : TypeId} {i : Nat} {L : Lens k kf} (h : Fl P T i L) : ∃ fs f ti, P.underlying T = some (.struct fs) ∧ fs[i]? = some f ∧ f.offset = L.off ∧ P.info? f.type = some ti ∧ ti.size = kf.sz ∧ kf.sz ≠ 0 := by
  have h1 := h.at_
  unfold fieldOf at h1
  split at h1
  · rename_i fs hu
    obtain ⟨f, h2, h3⟩ := Option.bind_eq_some_iff.1 h1
    obtain ⟨ti, h4, h5⟩ := Option.map_eq_some_iff.1 h3
    simp only [Prod.mk.injEq] at h5
    exact ⟨fs, f, ti, hu, h2, h5.1, h4, h5.2, fun e => by have := h.ne; rw [e] at this; cases this⟩
  · cases h1
theorem Sl.out {α : Type} {P : Program} {T E : TypeId} {k : Kd α} (h : Sl P T E k) : P.underlying T = some (.slice E) ∧ ∃ i, P.info? E = some i ∧ i.size = k.sz :=
  ⟨h.u, Option.map_eq_some_iff.1 h.sz⟩
theorem Ar.out {α : Type} {P : Program} {T E : TypeId} {n : Nat} {k : Kd α} (h : Ar P T E n k) : P.underlying T = some (.array n E) ∧ ∃ i, P.info? E = some i ∧ i.size = k.sz :=
  ⟨h.u, Option.map_eq_some_iff.1 h.sz⟩

theorem kz_int (ik : IntKind) (h : ik.has 0) : KZ (kint ik) 0 [.int ik 0] := fun _ _ => ⟨rfl, h⟩
theorem kz_i64 : KZ (kint .i64) 0 [.int .i64 0] := kz_int _ ⟨by decide, by decide⟩
theorem kz_u64 : KZ ku64 0 [.int .u64 0] := fun _ _ => rfl
theorem kz_bool : KZ kbool false [.bool false] := fun _ _ => rfl
theorem kz_str : KZ kstr ⟨#[]⟩ [.string ⟨#[]⟩] := fun _ _ => ⟨rfl, by decide⟩
theorem kz_sl {α : Type} (k : Kd α) : KZ (ksl k) [] [.slice none 0 0] := fun _ _ => ⟨_, rfl, none, 0, rfl, Nat.le_refl _, by simp, fun h => absurd h (by simp)⟩
theorem kz_raw {v : Value} (h : v.oneCell' = true) : KZ kraw v [v] := fun _ _ => ⟨rfl, h⟩
theorem kz_unit : KZ kunit () [] := fun _ _ => rfl
theorem kz_pair {α β : Type} {k : Kd α} {m : Kd β} {x : α} {y : β} {c d : List Value} (h : KZ k x c) (h' : KZ m y d) : KZ (kpair k m) (x, y) (c ++ d) := fun w H => ⟨c, d, rfl, h w H, h' w H⟩
theorem kz_iso {α β : Type} {k : Kd β} {f : α → β} {z : α} {c : List Value} (h : KZ k (f z) c) : KZ (kiso k f) z c := fun w H => h w H
theorem kz_arr {α : Type} {k : Kd α} {z : α} {c : List Value} (n : Nat) (h : KZ k z c) : KZ (karr n k) (Vector.replicate n z) (List.replicate n c).flatten := fun w H => by
  show Cells k w H (Vector.replicate n z).toList _
  rw [Vector.toList_replicate]
  induction n with
  | zero => rfl
  | succ n ih => rw [List.replicate_succ, List.replicate_succ, List.flatten_cons]; exact ⟨c, _, rfl, h w H, ih⟩

theorem add_at (g off j : Nat) : (⟨g, off, none⟩ : Addr).add j = ⟨g, off + j, none⟩ := by
  unfold Addr.add
  split
  · rename_i h; subst h; rfl
  · rfl

section mem
variable {α β : Type} {P : Program} {w : World} {H : HS}

theorem At.row {w : World} {g off : Nat} {cur cs : List Value} {T : TypeId} {fr : Nat × Nat} (hg : w.heap[g]? = some (.cells cur.toArray T fr)) (h : cs = (cur.drop off).take cs.length) : At w g off cs := fun j u hu => by
  rw [h, List.getElem?_take] at hu
  split at hu
  · rw [List.getElem?_drop] at hu
    simp [World.cell?, hg, hu]
  · cases hu

theorem run_load_at {T : TypeId} {k : Kd α} {x : α} {g off : Nat} {cs : List Value} (ht : Ty P T k) (hc : k.C w H x cs) (hat : At w g off cs) : (loadVar T ⟨g, off, none⟩).run P w = .ok (mkv k.agg cs) w := by
  obtain ⟨i, d, hi, hu, ha, hs⟩ := ht.out
  have hl := k.len hc
  have hagg : (isAgg T).run P w = .ok k.agg w := by
    unfold isAgg
    rw [Sem.run_bind, run_underlying hu w]
    rw [← ha]
    cases d <;> simp [isAggD]
  cases hk : k.agg with
  | true =>
    have h1 : (loadCells ⟨g, off, none⟩ cs.length).run P w = .ok cs.toArray w :=
      run_loadCells_list (P := P) w ⟨g, off, none⟩ cs (fun j v hv => by rw [add_at]; exact hat j v hv)
    rw [hl, ← hs] at h1
    simp [loadVar, Sem.run_bind, hagg, hk, sizeOf, typeInfo, hi, h1, mkv]
  | false =>
    have h1 : cs.length = 1 := hl.trans (k.flat hk)
    match cs, h1 with
    | [c], _ =>
      have h2 := hat 0 c rfl
      rw [Nat.add_zero] at h2
      simp [loadVar, Sem.run_bind, hagg, hk, h2, mkv]

theorem mkv_cells' {k : Kd α} {x : α} {cs : List Value} (hc : k.C w H x cs) : (mkv k.agg cs).cells = cs.toArray := by
  have := mkv_cells (agg := k.agg) (k.one hc) (fun h => (k.len hc).trans (k.flat h))
  rw [← Array.toArray_toList (xs := (mkv k.agg cs).cells), this]

theorem run_store_at {T T' : TypeId} {k : Kd α} {x : α} {g off : Nat} {cur cs : List Value} (hg : w.heap[g]? = some (.cells cur.toArray T' (0, 0))) (ht : Ty P T k) (hc : k.C w H x cs) (hfit : off + k.sz ≤ cur.length) :
    (storeVar T ⟨g, off, none⟩ (mkv k.agg cs)).run P w = .ok () (w.setRow g (lay cur off cs).toArray) := by
  obtain ⟨i, d, hi, hu, ha, hs⟩ := ht.out
  have hl := k.len hc
  have h1 := run_storeCells_at P g off T' cs 0 cur.toArray w hg (by simp; omega) (k.one hc)
  simp only [Nat.add_zero, List.toList_toArray] at h1
  have e : (List.take off cur ++ cs ++ List.drop (off + cs.length) cur) = lay cur off cs := by simp [lay]
  rw [e] at h1
  have h2 := mkv_cells' hc
  simp [storeVar, sizeOf, typeInfo, hi, h2, hs, hl, h1]
end mem

section opers
variable {C : Ctx} {S S' : St} {o : Oper} {α β γ : Type}

theorem raw_ptr {α β : Type} {k : Kd α} {kf : Kd β} {g : Nat} {L : Lens k kf} {w : World} {H M : HS} {v : Value} (h : (ptrL g L).R w H M v) : v = .pointer (some ⟨g, L.off, none⟩) := h

/-- load of a part of an own block -/
theorem op_load {T T' : TypeId} {k : Kd α} {kf : Kd β} {L : Lens k kf} {g i : Nat} {x : α} {p : Operand} (ho : o.op = .load T p) (hd : dok o C.N = true) (ht : Ty C.P T kf) (hp : Val C S p (ptrL g L)) (hr : S.r i = Blk g T' k x) :
    OpE C o S (S.put o.dst (rd kf (L.get x))) :=
  OpE.plain (by simp [ho]) hd fun O a w hh => by
    have h1 := raw_ptr (hp.of hh)
    have h2 := hh.res i
    rw [hr] at h2
    obtain ⟨hm, cs, hg, hc⟩ := h2
    have h3 := L.okget hc
    have hat : At w g L.off ((cs.drop L.off).take kf.sz) := At.row hg (by rw [kf.len h3])
    exact ⟨_, by simp [execOp, ho, h1, Instr.loadAt, Instr.sureAddr, run_load_at ht h3 hat], _, h3, rfl⟩
/-- load of what is seen -/
theorem op_loadp {T : TypeId} {k : Kd α} {x : α} {p : Operand} (ho : o.op = .load T p) (hd : dok o C.N = true) (ht : Ty C.P T k) (hp : Val C S p (rp k x)) : OpE C o S (S.put o.dst (rd k x)) :=
  OpE.plain (by simp [ho]) hd fun O a w hh => by
    obtain ⟨b, off, cs, h1, hb, hn, hc, hat⟩ := hp.of hh
    exact ⟨_, by simp [execOp, ho, h1, Instr.loadAt, Instr.sureAddr, run_load_at ht hc hat], _, hc, rfl⟩

theorem lay_fits {k : Kd α} {kf : Kd β} {L : Lens k kf} {w : World} {H : HS} {x : α} {cs : List Value} (hc : k.C w H x cs) : L.off + kf.sz ≤ cs.length := by rw [k.len hc]; exact L.fits

/-- A store into an own block. -/
theorem goes_setRow {O : Nat → Nat} {a : Act} {w : World} (hh : HoldO C S O a w) {g : Nat} (hg : O g ≠ 0) (cs : Array Value) : Goes C (fun q => q = O g) O w O (w.setRow g cs) where
  os := rfl
  tape := rfl
  output := rfl
  size := by simp
  same := fun b hb hq => ⟨rfl, setRow_other w g b cs (fun e => hq (by rw [e]))⟩
  own := fun b h => .inl h
  lt := fun b h => by have := (hh.own b h).2; simpa using this
  zero := fun h => hg h.symm

theorem op_store {T T' : TypeId} {k : Kd α} {kf : Kd β} {L : Lens k kf} {g i : Nat} {x : α} {y : β} {p q : Operand} (ho : o.op = .store T p q) (hd : o.dst = none) (ht : Ty C.P T kf) (hp : Val C S p (ptrL g L)) (hr : S.r i = Blk g T' k x) (hq : Val C S q (rd kf y)) :
    OpE C o S (S.setr i (Blk g T' k (L.set x y))) :=
  OpE.skip (by simp [ho]) fun O a w hh => by
    have h1 := raw_ptr (hp.of hh)
    obtain ⟨c, h4, h5⟩ := hq.of hh
    have h2 := hh.res i
    rw [hr] at h2
    obtain ⟨hm, cs, hg, hc⟩ := h2
    have hrun := run_store_at hg ht h4 (lay_fits (L := L) hc)
    refine ⟨w.setRow g (lay cs L.off c).toArray, by simp [execOp, ho, h1, h5, Instr.storeAt, Instr.sureAddr, hrun], O, ?_⟩
    rw [hd]
    have hOg : O g = Ro i := hm
    have go := goes_setRow hh (g := g) (by rw [hOg]; exact Ro_pos i) (lay cs L.off c).toArray
    have hx : Ext w (hid C O) none_ (w.setRow g (lay cs L.off c).toArray) (hid C O) none_ := ⟨by simp, fun b hb hn => ⟨hn, setRow_other w g b _ (fun e => hn (.inr (by rw [e, hOg]; exact Ro_pos i)))⟩, fun _ _ h => h.elim⟩
    refine hh.goes go rfl rfl rfl (fun t => .inl ⟨rfl, ?_, rfl⟩) (fun j => ?_)
    · rw [hOg]; exact So_ne_Ro t i
    · by_cases e : j = i
      · subst e
        right
        simp only [St.setr, upd_same]
        exact ⟨hm, _, setRow_heap w g _ _ _ _ hg, k.mono hx (L.okset hc h4)⟩
      · left
        refine ⟨by simp only [St.setr]; exact upd_other _ _ e, ?_⟩
        rw [hOg]; exact fun h => e (Ro_inj h)

/-! field and element addresses -/
theorem run_field {P : Program} {w : World} {T : TypeId} {i : Nat} {k : Kd α} {kf : Kd β} {L : Lens k kf} (h : Fl P T i L) (g off : Nat) : (Instr.fieldAt T (.pointer (some ⟨g, off, none⟩)) i).run P w = .ok (.pointer (some ⟨g, off + L.off, none⟩)) w := by
  obtain ⟨fs, f, ti, hu, hf, hoff, hi, hs, h0⟩ := h.out
  simp [Instr.fieldAt, run_underlying hu, hf, Instr.sureAddr, fieldPlace, sizeOf, typeInfo, hi, hs, h0, hoff, add_at]

theorem op_field {T : TypeId} {n : Nat} {k : Kd α} {kf : Kd β} {kg : Kd γ} {L : Lens k kf} (M : Lens kf kg) {g : Nat} {p : Operand} (ho : o.op = .fieldAddr T p n) (hd : dok o C.N = true) (hf : Fl C.P T n M) (hp : Val C S p (ptrL g L)) :
    OpE C o S (S.put o.dst (ptrL g (L.comp M))) :=
  OpE.plain (by simp [ho]) hd fun O a w hh => by
    have h1 := raw_ptr (hp.of hh)
    exact ⟨.pointer (some ⟨g, L.off + M.off, none⟩), by simp [execOp, ho, h1, run_field hf], rfl⟩
theorem op_fieldp {T : TypeId} {n : Nat} {kf : Kd β} {kg : Kd γ} (M : Lens kf kg) {x : β} {p : Operand} (ho : o.op = .fieldAddr T p n) (hd : dok o C.N = true) (hf : Fl C.P T n M) (hp : Val C S p (rp kf x)) :
    OpE C o S (S.put o.dst (rp kg (M.get x))) :=
  OpE.plain (by simp [ho]) hd fun O a w hh => by
    obtain ⟨b, off, cs, h1, hb, hn, hc, hat⟩ := hp.of hh
    exact ⟨.pointer (some ⟨b, off + M.off, none⟩), by simp [execOp, ho, h1, run_field hf], _, _, _, rfl, hb, hn, M.okget hc, hat.sub _ _⟩

/-- an array's element, own -/
theorem op_index {T E : TypeId} {n : Nat} {k : Kd α} {kf : Kd β} {L : Lens k (karr n kf)} {g : Nat} {i : Int} {p q : Operand} {ik : IntKind} (ho : o.op = .indexAddr T p q) (hd : dok o C.N = true) (ht : Ar C.P T E n kf) (hp : Val C S p (ptrL g L)) (hq : Val C S q (rd (kint ik) i)) (h0 : 0 ≤ i) (hi : i.toNat < n) :
    OpE C o S (S.put o.dst (ptrL g (L.comp (Lens.idx n kf i.toNat hi)))) :=
  OpE.plain (by simp [ho]) hd fun O a w hh => by
    have h1 := raw_ptr (hp.of hh)
    have h2 := (rd_int (hq.of hh)).1
    obtain ⟨hu, ti, hti, hs⟩ := ht.out
    have h3 : (0 : Int) ≤ i ∧ i < n := ⟨h0, by omega⟩
    exact ⟨.pointer (some ⟨g, L.off + i.toNat * kf.sz, none⟩), by simp [execOp, ho, h1, h2, Instr.indexAt, asIntOf, run_underlying hu, Instr.sureAddr, h3, sizeOf, typeInfo, hti, hs, add_at], rfl⟩
/-- an array's element, seen -/
theorem op_indexp {T E : TypeId} {n : Nat} {kf : Kd β} {x : Vector β n} {i : Int} {p q : Operand} {ik : IntKind} (ho : o.op = .indexAddr T p q) (hd : dok o C.N = true) (ht : Ar C.P T E n kf) (hp : Val C S p (rp (karr n kf) x)) (hq : Val C S q (rd (kint ik) i)) (h0 : 0 ≤ i) (hi : i.toNat < n) :
    OpE C o S (S.put o.dst (rp kf x[i.toNat])) :=
  OpE.plain (by simp [ho]) hd fun O a w hh => by
    obtain ⟨b, off, cs, h1, hb, hn, hc, hat⟩ := hp.of hh
    have h2 := (rd_int (hq.of hh)).1
    obtain ⟨hu, ti, hti, hs⟩ := ht.out
    have h3 : (0 : Int) ≤ i ∧ i < n := ⟨h0, by omega⟩
    exact ⟨.pointer (some ⟨b, off + i.toNat * kf.sz, none⟩), by simp [execOp, ho, h1, h2, Instr.indexAt, asIntOf, run_underlying hu, Instr.sureAddr, h3, sizeOf, typeInfo, hti, hs, add_at], _, _, _, rfl, hb, hn, (Lens.idx n kf i.toNat hi).okget hc, hat.sub _ _⟩
/-- a slice's element, seen -/
theorem op_indexs {T E : TypeId} {k : Kd α} {l : List α} {i : Int} {p q : Operand} {ik : IntKind} (ho : o.op = .indexAddr T p q) (hd : dok o C.N = true) (ht : Sl C.P T E k) (hp : Val C S p (rd (ksl k) l)) (hq : Val C S q (rd (kint ik) i)) (h0 : 0 ≤ i) (hi : i.toNat < l.length) :
    OpE C o S (S.put o.dst (rp k l[i.toNat])) :=
  OpE.plain (by simp [ho]) hd fun O a w hh => by
    obtain ⟨A, c, h1, hlc, hc63, hcells⟩ := rd_sl (hp.of hh)
    obtain ⟨b, off, cl, rfl, hb, hn, hc, hat⟩ := hcells (by omega)
    have h2 := (rd_int (hq.of hh)).1
    obtain ⟨hu, ti, hti, hs⟩ := ht.out
    have h3 : (0 : Int) ≤ i ∧ i < l.length := ⟨h0, by omega⟩
    exact ⟨.pointer (some ⟨b, off + i.toNat * k.sz, none⟩), by simp [execOp, ho, h1, h2, Instr.indexAt, asIntOf, run_underlying hu, Instr.sureAddr, h3, sizeOf, typeInfo, hti, hs, add_at], _, _, _, rfl, hb, hn, hc.get _ hi, hat.sub _ _⟩
theorem op_nilCheck {α β : Type} {k : Kd α} {kf : Kd β} {L : Lens k kf} {g : Nat} {p : Operand} (ho : o.op = .nilCheck p) (hd : dok o C.N = true) (hp : Val C S p (ptrL g L)) : OpE C o S (S.put o.dst (ptrL g L)) :=
  OpE.plain (by simp [ho]) hd fun O a w hh => by
    have h1 := raw_ptr (hp.of hh)
    exact ⟨_, by simp [execOp, ho, h1], rfl⟩

/-! new blocks -/
theorem goes_alloc {O : Nat → Nat} {a : Act} {w : World} (hh : HoldO C S O a w) (q : Nat) (hq : q ≠ 0) (ob : Obj) : Goes C (fun t => t = q) O w (fun b => if b = w.heap.size then q else O b) (w.alloc ob) where
  os := rfl
  tape := rfl
  output := rfl
  size := by simp
  same := fun b hb _ => ⟨by rw [if_neg (by omega)], heap_alloc_old w ob b hb⟩
  own := fun b h => by
    by_cases e : b = w.heap.size
    · right; omega
    · rw [if_neg e] at h; exact .inl h
  lt := fun b h => by
    by_cases e : b = w.heap.size
    · simp [e]
    · rw [if_neg e] at h; have := (hh.own b h).2; simp; omega
  zero := fun h => hq h.symm

theorem hold_box {O : Nat → Nat} {a : Act} {w : World} {T : TypeId} {k : Kd α} {x : α} {cs : List Value} (i : Nat) (hh : HoldO C S O a w) (hd : dok o C.N = true) (hc : k.C w (hid C O) x cs) :
    Hold C ((S.put o.dst (ptrL w.heap.size (Lens.id k))).setr i (Blk w.heap.size T k x)) (a.put o.dst (.pointer (some ⟨w.heap.size, 0, none⟩))) (w.alloc (.cells cs.toArray T)) := by
  have go := goes_alloc hh (Ro i) (Ro_pos i) (.cells cs.toArray T)
  refine ⟨_, hh.goes go (put_defers ..) (by cases o.dst <;> rfl) (put_size ..) (fun t => ?_) (fun j => ?_)⟩
  · cases hdst : o.dst with
    | none => exact .inl ⟨rfl, So_ne_Ro t i, rfl⟩
    | some d =>
      by_cases e : t = d
      · subst e
        right
        have hlt : t < a.tmps.size := hh.n ▸ dok_lt hd t hdst
        rw [put_same hlt]
        simp only [St.put, St.set, St.setr, upd_same]
        rfl
      · exact .inl ⟨by simp only [St.put, St.set, St.setr]; exact upd_other _ _ e, So_ne_Ro t i, put_other e _⟩
  · by_cases e : j = i
    · subst e
      right
      simp only [St.setr, upd_same]
      refine ⟨if_pos rfl, cs, heap_alloc_new w _, k.mono ⟨by simp, fun b hb hn => ⟨?_, heap_alloc_old w _ b hb⟩, fun _ _ h => h.elim⟩ hc⟩
      rintro (h | h)
      · exact hn (.inl h)
      · rw [if_neg (by omega)] at h; exact hn (.inr h)
    · exact .inl ⟨by simp only [St.setr]; rw [upd_other _ _ e]; cases o.dst <;> rfl, fun h => e (Ro_inj h)⟩

theorem OpT.value {K : St → Prop} (hno : ∀ c, o.op ≠ .defer c) (h : ∀ O a w, HoldO C S O a w → ∃ v w' S', (execOp a.eval o).run C.P w = .ok (.value v) w' ∧ K S' ∧ Hold C S' (a.put o.dst v) w') : OpT C o S K := by
  rintro a w ⟨O, hh⟩
  obtain ⟨v, w', S', h1, h2, h3⟩ := h O a w hh
  refine ⟨fun _ _ => trivial, ?_⟩
  rw [Oper.semAt_eq _ _ _ hno, h1]
  exact ⟨S', h2, h3⟩

theorem op_box {T : TypeId} {k : Kd α} {x : α} {p : Operand} (i : Nat) (ho : o.op = .box T p) (hd : dok o C.N = true) (hp : Val C S p (rd k x)) :
    OpT C o S (fun S' => ∃ g, S' = (S.put o.dst (ptrL g (Lens.id k))).setr i (Blk g T k x)) :=
  OpT.value (by simp [ho]) fun O a w hh => by
    obtain ⟨cs, hc, hv⟩ := hp.of hh
    refine ⟨.pointer (some ⟨w.heap.size, 0, none⟩), w.alloc (.cells cs.toArray T), _, ?_, ⟨w.heap.size, rfl⟩, hold_box i hh hd hc⟩
    simp [execOp, ho, hv, Instr.box, newVar, newRow, mkv_cells' hc]
theorem op_alloc {T : TypeId} {k : Kd α} {z : α} (i : Nat) (ho : o.op = .alloc T) (hd : dok o C.N = true) (hz : Zr C.P T k z) :
    OpT C o S (fun S' => ∃ g, S' = (S.put o.dst (ptrL g (Lens.id k))).setr i (Blk g T k z)) :=
  OpT.value (by simp [ho]) fun O a w hh => by
    obtain ⟨ti, zv, hi, hzv, hc⟩ := hz.out
    have hc' := hc w (hid C O)
    refine ⟨.pointer (some ⟨w.heap.size, 0, none⟩), w.alloc (.cells zv.cells.toList.toArray T), _, ?_, ⟨w.heap.size, rfl⟩, hold_box i hh hd hc'⟩
    simp [execOp, ho, Instr.alloc, zeroValue, typeInfo, hi, hzv, newVar, newRow]

/-! several values, lengths -/
theorem op_fst {A B : Asrt} {p : Operand} (ho : o.op = .extract p 0) (hd : dok o C.N = true) (hp : Val C S p (tup2 A B)) : OpE C o S (S.put o.dst A) :=
  OpE.plain (by simp [ho]) hd fun O a w hh => by
    obtain ⟨x, y, h1, hx, hy⟩ := hp.of hh
    exact ⟨x, by simp [execOp, ho, h1, Instr.extract], hx⟩
theorem op_snd {A B : Asrt} {p : Operand} (ho : o.op = .extract p 1) (hd : dok o C.N = true) (hp : Val C S p (tup2 A B)) : OpE C o S (S.put o.dst B) :=
  OpE.plain (by simp [ho]) hd fun O a w hh => by
    obtain ⟨x, y, h1, hx, hy⟩ := hp.of hh
    exact ⟨y, by simp [execOp, ho, h1, Instr.extract], hy⟩
theorem op_len {T : TypeId} {E : TypeId} {k : Kd α} {l : List α} {p : Operand} {ts : Array TypeId} (ho : o.op = .call { callee := .builtin .len, args := #[p], argTypes := #[T] }) (hd : dok o C.N = true) (ht : Sl C.P T E k) (hp : Val C S p (rd (ksl k) l)) :
    OpE C o S (S.put o.dst (rd (kint .i64) (l.length : Int))) :=
  OpE.plain (by simp [ho]) hd fun O a w hh => by
    obtain ⟨A, c, h1, hlc, hc63, hcells⟩ := rd_sl (hp.of hh)
    refine ⟨.int .i64 l.length, ?_, int_rd ⟨by simp [IntKind.min, IntKind.signed, IntKind.bits]; try omega, by simp [IntKind.max, IntKind.signed, IntKind.bits]; omega⟩⟩
    simp [execOp, ho, resolve, invoke, builtin, Builtin.len_, h1, run_underlying ht.u, goInt]
end opers
end Go.Wb
