/- WbJ: a part of the proof. -/
import Derived.Test.YtokmmcflinnfiabWbI
set_option linter.unusedVariables false
set_option linter.unusedSimpArgs false
namespace Go.Wb
open Go

section rows
variable {C : Ctx} {S S' : St} {o : Oper} {α β γ : Type}

/-! literal slices -/
theorem madeCells_flatten (z : Array Value) (h : 0 < z.size) : ∀ n, (madeCells z (n * z.size)).toList = (List.replicate n z.toList).flatten := by
  intro n
  apply List.ext_getElem?
  intro j
  simp only [madeCells, Array.toList_map, List.getElem?_map]
  have hr : (Array.range (n * z.size)).toList = List.range (n * z.size) := by simp
  rw [hr]
  by_cases hj : j < n * z.size
  · rw [List.getElem?_range hj]
    have hlt : j % z.size < z.size := Nat.mod_lt _ h
    simp only [Option.map_some]
    have : ∀ (n j : Nat), j < n * z.size → (List.replicate n z.toList).flatten[j]? = z[j % z.size]? := by
      intro n
      induction n with
      | zero => intro j hj; omega
      | succ n ih =>
        intro j hj
        rw [List.replicate_succ, List.flatten_cons, List.getElem?_append]
        by_cases hc : j < z.toList.length
        · rw [if_pos hc, Nat.mod_eq_of_lt (by simpa using hc)]; simp
        · rw [if_neg hc]
          simp only [Array.length_toList] at hc ⊢
          rw [ih (j - z.size) (by rw [Nat.succ_mul] at hj; omega), ← Nat.mod_eq_sub_mod (by omega)]
    rw [this n j hj, Array.getElem?_eq_getElem hlt]
    simp [getElem!_pos, hlt]
  · rw [List.getElem?_eq_none (by simpa using hj), List.getElem?_eq_none]
    · rfl
    · simp
      have : ∀ n, ((List.replicate n z.toList).flatten).length = n * z.size := by
        intro n
        induction n with
        | zero => simp
        | succ n ih => simp
      omega

theorem slice_new {O : Nat → Nat} {a : Act} {w : World} {E : TypeId} {k : Kd α} {l : List α} {cl : List Value} (i : Nat) (hh : HoldO C S O a w) (hd : dok o C.N = true) (hc : Cells k w (hid C O) l cl) (hlen : l.length ≤ 9223372036854775807) :
    Hold C ((S.put o.dst (raw (.slice (some ⟨w.heap.size, 0, none⟩) l.length l.length))).setr i (Row (.slice (some ⟨w.heap.size, 0, none⟩) l.length l.length) E k l)) (a.put o.dst (.slice (some ⟨w.heap.size, 0, none⟩) l.length l.length)) (w.alloc (.cells cl.toArray E)) := by
  have t : Turns O i w (.slice none 0 0) (.slice (some ⟨w.heap.size, 0, none⟩) l.length l.length) (w.alloc (.cells cl.toArray E)) :=
    ⟨World.grownBy_alloc w _ _, fun b h => by simp [Value.ownBlock] at h, .inr rfl, fun b h => by simp [Value.ownBlock] at h; subst h; simp⟩
  have hl := hc.len
  refine hold_turn hh t hd _ rfl (cl := cl) ?_ (hc.mono t.ext)
  have := World.ownsRow_lit (base := 0) (e := E) (size := k.sz) w cl.toArray l.length (Nat.zero_le _) (by simpa [maxLen] using hlen) (by simpa using hl)
  simpa using this

theorem run_buildSlice {O : Nat → Nat} {a : Act} {w : World} {T E : TypeId} {n : Nat} {k : Kd α} {ps : List (Nat × Operand)} {z : α} {x : Vector α n} (hh : HoldO C S O a w) (ht : Sl C.P T E k) (hz : Zr C.P E k z) (hn : Nat.ble (n * k.sz) 16777216 = true) (hpos : Nat.blt 0 k.sz = true)
    (hp : Parts C S (karr n k) (fun i => some (i * k.sz, k.sz)) ps (Vector.replicate n z) x) : ∃ cl, (Instr.buildSlice T n (ps.map fun q => (q.1, a.eval q.2)).toArray).run C.P w = .ok (.slice (some ⟨w.heap.size, 0, none⟩) n n) (w.alloc (.cells cl.toArray E)) ∧ Cells k w (hid C O) x.toList cl := by
  obtain ⟨hu, ti, hti, hs⟩ := ht.out
  obtain ⟨ti', zv, hti', hzv, hzc⟩ := hz.out
  obtain rfl : ti = ti' := by rw [hti] at hti'; exact Option.some.inj hti'
  have hz0 := hzc w (hid C O)
  have hzl := k.len hz0
  have hsz : zv.cells.size = k.sz := by simpa using hzl
  have hn' : n * k.sz ≤ 16777216 := Nat.le_of_ble_eq_true hn
  have hpos' : 0 < k.sz := by simpa using hpos
  have hmade : (madeCells zv.cells (n * k.sz)).toList = (List.replicate n zv.cells.toList).flatten := by rw [← hsz]; exact madeCells_flatten _ (by omega) n
  have hcells : (karr n k).C w (hid C O) (Vector.replicate n z) (madeCells zv.cells (n * k.sz)).toList := by
    rw [hmade]
    have hkz : ∀ n, Cells k w (hid C O) (List.replicate n z) (List.replicate n zv.cells.toList).flatten := by
      intro n
      induction n with
      | zero => rfl
      | succ n ih => rw [List.replicate_succ, List.replicate_succ, List.flatten_cons]; exact ⟨_, _, rfl, hz0, ih⟩
    show Cells k _ _ (Vector.replicate n z).toList _
    rw [Vector.toList_replicate]
    exact hkz n
  obtain ⟨cs', h3, h4⟩ := fill_parts hh hp hcells
  refine ⟨cs'.toList, ?_, h4⟩
  have hle : ¬ (n * k.sz > 2 ^ 24) := by simp; omega
  by_cases h0 : n * k.sz = 0
  · have hmm : madeCells zv.cells (n * k.sz) = #[] := by simp [h0, madeCells]
    rw [hmm] at h3
    have hr0 : Array.range 0 = #[] := rfl
    simp [Instr.buildSlice, run_underlying hu, sizeOf, typeInfo, hti, hs, h0, h3, newRow, hr0]
  · simp only [Instr.buildSlice, Sem.run_bind, run_underlying hu, Result.andThen_ok, sizeOf, typeInfo, run_program, hti, hs, hle, if_false, h0, Sem.run_pure, zeroValue, hzv, List.toList_toArray]
    have hmm : ((Array.range (n * k.sz)).map (fun x => zv.cells[x % zv.cells.size]!)) = madeCells zv.cells (n * k.sz) := rfl
    simp [hmm, h3, newRow]

theorem op_buildSlice {T E : TypeId} {n : Nat} {k : Kd α} {ps : List (Nat × Operand)} {z : α} {x : Vector α n} {l : List α} (i : Nat) (ho : o.op = .buildSlice T n ps.toArray) (hd : dok o C.N = true) (ht : Sl C.P T E k) (hz : Zr C.P E k z) (hn : Nat.ble (n * k.sz) 16777216 = true) (hpos : Nat.blt 0 k.sz = true)
    (hp : Parts C S (karr n k) (fun i => some (i * k.sz, k.sz)) ps (Vector.replicate n z) x) (hl : x.toList = l) :
    OpT C o S (fun S' => ∃ v, S' = (S.put o.dst (raw v)).setr i (Row v E k l)) :=
  OpT.value (by simp [ho]) fun O a w hh => by
    obtain ⟨cl, h1, h2⟩ := run_buildSlice hh ht hz hn hpos hp
    rw [hl] at h2
    have hln : l.length = n := by rw [← hl]; simp
    have hn' : n * k.sz ≤ 16777216 := Nat.le_of_ble_eq_true hn
    have hpos' : 0 < k.sz := by simpa using hpos
    have hle : n ≤ n * k.sz := Nat.le_mul_of_pos_right _ hpos'
    have h3 := slice_new (E := E) i hh hd h2 (by omega)
    refine ⟨_, _, _, ?_, ⟨_, rfl⟩, h3⟩
    have e : ps.toArray.map (fun (q : Nat × Operand) => (q.1, a.eval q.2)) = (ps.map fun q => (q.1, a.eval q.2)).toArray := by simp
    simp only [execOp, ho, e, Sem.run_bind, h1, Result.andThen_ok, Sem.run_pure, hln]

/-- a literal slice that is only read -/
theorem op_buildSliceR {T E : TypeId} {n : Nat} {k : Kd α} {ps : List (Nat × Operand)} {z : α} {x : Vector α n} {l : List α} (ho : o.op = .buildSlice T n ps.toArray) (hd : dok o C.N = true) (ht : Sl C.P T E k) (hz : Zr C.P E k z) (hn : Nat.ble (n * k.sz) 16777216 = true) (hpos : Nat.blt 0 k.sz = true)
    (hp : Parts C S (karr n k) (fun i => some (i * k.sz, k.sz)) ps (Vector.replicate n z) x) (hl : x.toList = l) :
    OpE C o S (S.put o.dst (rd (ksl k) l)) :=
  OpE.value (by simp [ho]) fun O a w hh => by
    obtain ⟨cl, h1, h2⟩ := run_buildSlice hh ht hz hn hpos hp
    rw [hl] at h2
    have hln : l.length = n := by rw [← hl]; simp
    have hn' : n * k.sz ≤ 16777216 := Nat.le_of_ble_eq_true hn
    have hpos' : 0 < k.sz := by simpa using hpos
    have hle : n ≤ n * k.sz := Nat.le_mul_of_pos_right _ hpos'
    have hcl := h2.len
    refine ⟨_, _, ?_, O, hh.yield (A := rd (ksl k) l) (v := .slice (some ⟨w.heap.size, 0, none⟩) n n) (w' := w.alloc (.cells cl.toArray E)) ⟨rfl, rfl, rfl, by simp, fun b hb _ => ⟨rfl, heap_alloc_old w _ b hb⟩, fun b h => .inl h, fun b h => by have := (hh.own b h).2; simp; omega, fun h => h⟩ (dok_lt hd) (sl_rd ?_)⟩
    · have e : ps.toArray.map (fun (q : Nat × Operand) => (q.1, a.eval q.2)) = (ps.map fun q => (q.1, a.eval q.2)).toArray := by simp
      simp only [execOp, ho, e, Sem.run_bind, h1, Result.andThen_ok, Sem.run_pure]
    · refine ⟨some ⟨w.heap.size, 0, none⟩, n, by rw [hln], by omega, by omega, fun _ => ⟨w.heap.size, 0, cl, rfl, by simp, ?_, h2.mono ⟨by simp, fun b hb hn => ⟨hn, heap_alloc_old w _ b hb⟩, fun _ _ h => h.elim⟩, At.row (heap_alloc_new w _) (by simp)⟩⟩
      intro h
      have := hh.hid_lt _ h
      omega

/-! slices cut -/
theorem sl_cut {k : Kd α} {w : World} {H : HS} {l : List α} {v : Value} (h : SlC k w H l v) (lo hi : Nat) (h1 : lo ≤ hi) (h2 : hi ≤ l.length) : ∃ A c, v = .slice A l.length c ∧ l.length ≤ c ∧ ∀ m, hi ≤ m → m ≤ c → SlC k w H ((l.take hi).drop lo) (.slice (if m = lo then A else A.map (·.add (lo * k.sz))) (hi - lo) (m - lo)) := by
  obtain ⟨A, c, rfl, hlc, hc63, hcells⟩ := h
  refine ⟨A, c, rfl, hlc, fun m hm1 hm2 => ?_⟩
  have hln : ((l.take hi).drop lo).length = hi - lo := by simp; omega
  refine ⟨_, m - lo, by rw [hln], by omega, by omega, fun hp => ?_⟩
  rw [hln] at hp
  obtain ⟨b, off, cl, rfl, hb, hn, hc, hat⟩ := hcells (by omega)
  rw [if_neg (by omega)]
  refine ⟨b, off + lo * k.sz, ((cl.take (hi * k.sz)).drop (lo * k.sz)), by simp [add_at], hb, hn, ?_, ?_⟩
  · exact (hc.take hi h2).drop lo (by simp; omega)
  · intro j u hu
    rw [List.getElem?_drop, List.getElem?_take] at hu
    split at hu
    · rw [Nat.add_assoc]; exact hat _ _ hu
    · cases hu

def sliceOps (lo hi mx : Option Operand) : Unit := ()

theorem run_slice_gen {P : Program} {w : World} {T E : TypeId} {k : Kd α} (ht : Sl P T E k) (A : Option Addr) (n c lo hi m : Nat) (x y z : Option Value)
    (hb : (Instr.sliceBounds true n c x y z).run P w = .ok (lo, hi, m) w) :
    (Instr.sliceAt T (.slice A n c) x y z).run P w = .ok (.slice (if m = lo then A else A.map (·.add (lo * k.sz))) (hi - lo) (m - lo)) w := by
  obtain ⟨hu, ti, hti, hs⟩ := ht.out
  simp [Instr.sliceAt, Instr.slice, run_underlying hu, hb, sizeOf, typeInfo, hti, hs]

section slicing
variable {T E : TypeId} {k : Kd α} {l : List α} {p q r : Operand} {ik jk : IntKind} {lo hi : Int}
/-- x[lo:hi] -/
theorem op_slice_lh (ho : o.op = .slice T p (some q) (some r) none) (hd : dok o C.N = true) (ht : Sl C.P T E k) (hp : Val C S p (rd (ksl k) l)) (hq : Val C S q (rd (kint ik) lo)) (hr : Val C S r (rd (kint jk) hi)) (h0 : 0 ≤ lo) (h1 : lo ≤ hi) (h2 : hi.toNat ≤ l.length) :
    OpE C o S (S.put o.dst (rd (ksl k) ((l.take hi.toNat).drop lo.toNat))) :=
  OpE.plain (by simp [ho]) hd fun O a w hh => by
    obtain ⟨A, c, h3, hlc, h4⟩ := sl_cut (rd_sl (hp.of hh)) lo.toNat hi.toNat (by omega) h2
    have h5 := (rd_int (hq.of hh)).1; have h6 := (rd_int (hr.of hh)).1
    refine ⟨_, ?_, sl_rd (h4 c (by omega) (Nat.le_refl _))⟩
    have hb : (Instr.sliceBounds true l.length c (some (.int ik lo)) (some (.int jk hi)) none).run C.P w = .ok (lo.toNat, hi.toNat, c) w := by
      simp [Instr.sliceBounds, run_sliceBound _ _ _ _ _ h0 (show lo ≤ (hi.toNat : Int) by omega), run_sliceBound _ _ _ _ _ (show 0 ≤ hi by omega) (show hi ≤ (c : Int) by omega)]
    simp [execOp, ho, h3, h5, h6, run_slice_gen ht A _ _ _ _ _ _ _ _ hb]
/-- x[:hi] -/
theorem op_slice_h (ho : o.op = .slice T p none (some r) none) (hd : dok o C.N = true) (ht : Sl C.P T E k) (hp : Val C S p (rd (ksl k) l)) (hr : Val C S r (rd (kint jk) hi)) (h1 : 0 ≤ hi) (h2 : hi.toNat ≤ l.length) :
    OpE C o S (S.put o.dst (rd (ksl k) (l.take hi.toNat))) :=
  OpE.plain (by simp [ho]) hd fun O a w hh => by
    obtain ⟨A, c, h3, hlc, h4⟩ := sl_cut (rd_sl (hp.of hh)) 0 hi.toNat (by omega) h2
    have h6 := (rd_int (hr.of hh)).1
    refine ⟨_, ?_, sl_rd (by simpa using h4 c (by omega) (Nat.le_refl _))⟩
    have hb : (Instr.sliceBounds true l.length c none (some (.int jk hi)) none).run C.P w = .ok (0, hi.toNat, c) w := by
      simp [Instr.sliceBounds, run_sliceBound _ _ _ _ _ (show 0 ≤ hi by omega) (show hi ≤ (c : Int) by omega)]
    have := run_slice_gen ht A _ _ _ _ _ _ _ _ hb
    simp only [Nat.zero_mul, Nat.sub_zero] at this
    simp [execOp, ho, h3, h6, this]
/-- x[lo:] -/
theorem op_slice_l (ho : o.op = .slice T p (some q) none none) (hd : dok o C.N = true) (ht : Sl C.P T E k) (hp : Val C S p (rd (ksl k) l)) (hq : Val C S q (rd (kint ik) lo)) (h0 : 0 ≤ lo) (h2 : lo.toNat ≤ l.length) :
    OpE C o S (S.put o.dst (rd (ksl k) (l.drop lo.toNat))) :=
  OpE.plain (by simp [ho]) hd fun O a w hh => by
    obtain ⟨A, c, h3, hlc, h4⟩ := sl_cut (rd_sl (hp.of hh)) lo.toNat l.length (by omega) (Nat.le_refl _)
    have h5 := (rd_int (hq.of hh)).1
    refine ⟨_, ?_, sl_rd (by simpa using h4 c hlc (Nat.le_refl _))⟩
    have hb : (Instr.sliceBounds true l.length c (some (.int ik lo)) none none).run C.P w = .ok (lo.toNat, l.length, c) w := by
      simp [Instr.sliceBounds, run_sliceBound _ _ _ _ _ h0 (show lo ≤ (l.length : Int) by omega)]
    simp [execOp, ho, h3, h5, run_slice_gen ht A _ _ _ _ _ _ _ _ hb]
/-- what has no room behind it -/
def fsl (k : Kd α) (l : List α) : Asrt := ⟨fun w H M v => SlC k w H l v ∧ ∃ A, v = .slice A l.length l.length, fun h ⟨h1, h2⟩ => ⟨rd_sl ((rd (ksl k) l).mono h (sl_rd h1)), h2⟩⟩
instance (k : Kd α) (l : List α) : Dup (fsl k l) := ⟨fun h => h⟩
theorem vfsl {x : Operand} (h : Val C S x (fsl k l)) : Val C S x (rd (ksl k) l) := fun O a w hh => sl_rd (h O a w hh).1
/-- x[:hi:hi] -/
theorem op_slice_full {s : Operand} {hk : IntKind} (ho : o.op = .slice T p none (some r) (some s)) (hd : dok o C.N = true) (ht : Sl C.P T E k) (hp : Val C S p (rd (ksl k) l)) (hr : Val C S r (rd (kint jk) hi)) (hs : Val C S s (rd (kint hk) hi)) (h1 : 0 ≤ hi) (h2 : hi.toNat ≤ l.length) :
    OpE C o S (S.put o.dst (fsl k (l.take hi.toNat))) :=
  OpE.plain (by simp [ho]) hd fun O a w hh => by
    obtain ⟨A, c, h3, hlc, h4⟩ := sl_cut (rd_sl (hp.of hh)) 0 hi.toNat (by omega) h2
    have h6 := (rd_int (hr.of hh)).1
    have h7 := (rd_int (hs.of hh)).1
    have h8 := h4 hi.toNat (Nat.le_refl _) (by omega)
    simp only [Nat.sub_zero, List.drop_zero] at h8
    refine ⟨_, ?_, h8, _, by rw [List.length_take, Nat.min_eq_left h2]⟩
    have hb : (Instr.sliceBounds true l.length c none (some (.int jk hi)) (some (.int hk hi))).run C.P w = .ok (0, hi.toNat, hi.toNat) w := by
      simp [Instr.sliceBounds, run_sliceBound _ _ _ _ _ (show 0 ≤ hi by omega) (show hi ≤ (c : Int) by omega), run_sliceBound _ _ _ _ _ (show 0 ≤ hi by omega) (show hi ≤ (hi.toNat : Int) by omega)]
    have := run_slice_gen ht A _ _ _ _ _ _ _ _ hb
    simp only [Nat.sub_zero] at this
    simp [execOp, ho, h3, h6, h7, this]
end slicing

end rows
end Go.Wb
