/- WbW: a part of the proof. -/
import Derived.Test.YtokmmcflinnfiabWbV
import Derived.Laws.StructEq
import Derived.ChangeKeysEq
set_option linter.unusedVariables false
set_option linter.unusedSimpArgs false
namespace Go.Wb
open Go

/-! ### Structs and arrays compared -/
section eqs
variable {α β : Type} {P : Program}
/-- == at a type, n deep, answers whether the data are the same -/
def EqK [DecidableEq α] (P : Program) (n : Nat) (t : TypeId) (k : Kd α) : Prop :=
  ∀ d, n ≤ d → ∀ (w : World) (H : HS) x y cs ds, k.C w H x cs → k.C w H y ds → (Op.equalIn d t (mkv k.agg cs) (mkv k.agg ds)).run P w = .ok (decide (x = y)) w
theorem EqK.le [DecidableEq α] {m n : Nat} {t : TypeId} {k : Kd α} (h : EqK P m t k) (hmn : m ≤ n) : EqK P n t k := fun d hd => h d (Nat.le_trans hmn hd)
theorem eqk_int {t : TypeId} {ik : IntKind} (h : P.underlying t = some (.int ik)) : EqK P 1 t (kint ik) := by
  rintro d hd w H x y _ _ ⟨rfl, _⟩ ⟨rfl, _⟩
  obtain ⟨d, rfl⟩ : ∃ m, d = m + 1 := ⟨d - 1, by omega⟩
  exact (run_equalIn_int w d t ik ik x y h).trans (by rw [show (x == y) = decide (x = y) from rfl])
theorem eqk_u64 {t : TypeId} (h : P.underlying t = some (.int .u64)) : EqK P 1 t ku64 := by
  rintro d hd w H x y _ _ rfl rfl
  obtain ⟨d, rfl⟩ : ∃ m, d = m + 1 := ⟨d - 1, by omega⟩
  refine (run_equalIn_int w d t .u64 .u64 _ _ h).trans ?_
  congr 1
  rw [Bool.eq_iff_iff]
  simp only [beq_iff_eq, decide_eq_true_eq]
  constructor
  · intro e
    exact BitVec.eq_of_toNat_eq (by exact_mod_cast e)
  · rintro rfl; rfl
theorem eqk_bool {t : TypeId} (h : P.underlying t = some .bool) : EqK P 1 t kbool := by
  rintro d hd w H x y _ _ rfl rfl
  obtain ⟨d, rfl⟩ : ∃ m, d = m + 1 := ⟨d - 1, by omega⟩
  refine (run_equalIn_bool' w d t x y h).trans ?_
  cases x <;> cases y <;> rfl
/-- fields, one behind the other -/
def EqF [DecidableEq α] (P : Program) (n : Nat) (l : List (TypeId × Nat)) (o : Nat) (k : Kd α) : Prop :=
  ∀ (fs : List Field), fs.map (fun f => (f.type, f.offset)) = l → (∀ f ∈ fs, f.name ≠ "_") → ∀ d, n ≤ d → ∀ (w : World) (H : HS) x y (xs ys : List Value), k.C w H x (xs.drop o) → k.C w H y (ys.drop o) →
    (Op.eqFields d xs.toArray ys.toArray fs).run P w = .ok (decide (x = y)) w
theorem eqf_one [DecidableEq α] {n : Nat} {t : TypeId} {o : Nat} {k : Kd α} (h : EqK P n t k) (ht : Ty P t k) : EqF P n [(t, o)] o k := by
  intro fs hfs hn d hd w H x y xs ys hx hy
  obtain ⟨f, rfl⟩ : ∃ f, fs = [f] := by
    cases fs with
    | nil => cases hfs
    | cons f l => cases l with
      | nil => exact ⟨f, rfl⟩
      | cons => cases hfs
  simp only [List.map_cons, List.map_nil, List.cons.injEq, Prod.mk.injEq, and_true] at hfs
  obtain ⟨rfl, rfl⟩ := hfs
  have hname := hn f (by simp)
  have lx := k.len hx
  have ly := k.len hy
  have p1 := run_part (P := P) ht hx (List.take_of_length_le (by omega) : (xs.drop f.offset).take k.sz = _)
  have p2 := run_part (P := P) ht hy (List.take_of_length_le (by omega) : (ys.drop f.offset).take k.sz = _)
  have h3 := h d hd w H x y _ _ hx hy
  simp only [Op.eqFields, Sem.run_bind, Sem.run_ite, hname, ne_eq, not_false_eq_true, if_true, p1, p2, h3, Result.andThen_ok]
  cases decide (x = y) <;> simp
theorem eqf_cons [DecidableEq α] [DecidableEq β] {n : Nat} {t : TypeId} {o : Nat} {l : List (TypeId × Nat)} {k : Kd α} {m : Kd β} (h : EqK P n t k) (ht : Ty P t k) (hr : EqF P n l (o + k.sz) m) : EqF P n ((t, o) :: l) o (kpair k m) := by
  intro fs hfs hn d hd w H x y xs ys hx hy
  cases fs with
  | nil => cases hfs
  | cons f fs =>
    simp only [List.map_cons, List.cons.injEq, Prod.mk.injEq] at hfs
    obtain ⟨⟨rfl, rfl⟩, hfs⟩ := hfs
    obtain ⟨c1, c2, e1, hx1, hx2⟩ := hx
    obtain ⟨d1, d2, e2, hy1, hy2⟩ := hy
    have hname := hn f (by simp)
    have lx := k.len hx1
    have ly := k.len hy1
    have p1 := run_part (P := P) (off := f.offset) (cs := xs) ht hx1 (by rw [e1, List.take_append_of_le_length (by omega), List.take_of_length_le (by omega)])
    have p2 := run_part (P := P) (off := f.offset) (cs := ys) ht hy1 (by rw [e2, List.take_append_of_le_length (by omega), List.take_of_length_le (by omega)])
    have q1 : xs.drop (f.offset + k.sz) = c2 := by rw [← List.drop_drop, e1, List.drop_append_of_le_length (by omega), List.drop_of_length_le (by omega)]; rfl
    have q2 : ys.drop (f.offset + k.sz) = d2 := by rw [← List.drop_drop, e2, List.drop_append_of_le_length (by omega), List.drop_of_length_le (by omega)]; rfl
    have h3 := h d hd w H x.1 y.1 _ _ hx1 hy1
    have h4 := hr fs hfs (fun f hf => hn f (by simp [hf])) d hd w H x.2 y.2 xs ys (by rw [q1]; exact hx2) (by rw [q2]; exact hy2)
    simp only [Op.eqFields, Sem.run_bind, Sem.run_ite, hname, ne_eq, not_false_eq_true, if_true, p1, p2, h3, h4, Result.andThen_ok]
    by_cases h5 : x.1 = y.1
    · have : decide (x = y) = decide (x.2 = y.2) := by
        rw [decide_eq_decide, Prod.ext_iff]; simp [h5]
      simp [h5, this]
    · have : decide (x = y) = false := by
        rw [decide_eq_false_iff_not, Prod.ext_iff]; simp [h5]
      simp [h5, this]
def stE (P : Program) (T : TypeId) : Option (List (TypeId × Nat)) := match P.underlying T with
  | some (.struct fs) => bif fs.all (fun f => f.name != "_") then some (fs.toList.map fun f => (f.type, f.offset)) else none
  | _ => none
theorem eqk_st [DecidableEq α] [DecidableEq β] {t : TypeId} {n : Nat} {l : List (TypeId × Nat)} {k : Kd β} {f : α → β} (hf : ∀ x y, f x = f y → x = y) (hs : stE P t = some l) (hp : P.stoodInHeld t = false) (h : EqF P n l 0 k) : EqK P (n + 1) t (kiso k f) := by
  rintro d hd w H x y cs ds hx hy
  obtain ⟨d, rfl⟩ : ∃ m, d = m + 1 := ⟨d - 1, by omega⟩
  unfold stE at hs
  split at hs
  · rename_i fs hu
    cases hn : fs.all (fun f => f.name != "_") with
    | true =>
      rw [hn] at hs
      have hfo : P.fieldsOf t = fs := by unfold Program.fieldsOf; rw [hu]
      have h1 := run_equalIn_struct (P := P) w d t cs.toArray ds.toArray (by rw [hu, hfo]) hp
      rw [hfo] at h1
      refine h1.trans ?_
      rw [h fs.toList (Option.some.inj hs) (fun f hf => by simpa using (Array.all_eq_true_iff_forall_mem.1 hn) f (by simpa using hf)) d (by omega) w H (f x) (f y) cs ds hx hy]
      congr 1
      rw [decide_eq_decide]
      exact ⟨hf x y, fun e => by rw [e]⟩
    | false => rw [hn] at hs; cases hs
  · cases hs
/-- elements, one behind the other -/
theorem eqi [DecidableEq α] {n : Nat} {e : TypeId} {k : Kd α} (h : EqK P n e k) (ht : Ty P e k) (hc : P.cellsOf e = k.sz) (d : Nat) (hd : n ≤ d) (w : World) (H : HS) (xs ys : List Value) : ∀ (l m : List α) (i : Nat), l.length = m.length → Cells k w H l (xs.drop (i * k.sz)) → Cells k w H m (ys.drop (i * k.sz)) →
    (Op.eqItems d e (P.cellsOf e) xs.toArray ys.toArray (List.range' i l.length)).run P w = .ok (decide (l = m)) w
  | [], [], i, _, _, _ => by simp [Op.eqItems]
  | x :: l, y :: m, i, hl, hx, hy => by
    obtain ⟨c1, c2, e1, hx1, hx2⟩ := hx
    obtain ⟨d1, d2, e2, hy1, hy2⟩ := hy
    have lx := k.len hx1
    have ly := k.len hy1
    have p1 := run_part (P := P) (off := i * k.sz) (cs := xs) ht hx1 (by rw [e1, List.take_append_of_le_length (by omega), List.take_of_length_le (by omega)])
    have p2 := run_part (P := P) (off := i * k.sz) (cs := ys) ht hy1 (by rw [e2, List.take_append_of_le_length (by omega), List.take_of_length_le (by omega)])
    have q1 : xs.drop ((i + 1) * k.sz) = c2 := by rw [Nat.add_mul, Nat.one_mul, ← List.drop_drop, e1, List.drop_append_of_le_length (by omega), List.drop_of_length_le (by omega)]; rfl
    have q2 : ys.drop ((i + 1) * k.sz) = d2 := by rw [Nat.add_mul, Nat.one_mul, ← List.drop_drop, e2, List.drop_append_of_le_length (by omega), List.drop_of_length_le (by omega)]; rfl
    have h3 := h d hd w H x y _ _ hx1 hy1
    have h4 := eqi h ht hc d hd w H xs ys l m (i + 1) (by simpa using hl) (by rw [q1]; exact hx2) (by rw [q2]; exact hy2)
    rw [hc] at h4 ⊢
    rw [List.length_cons, List.range'_succ]
    simp only [Op.eqItems, Sem.run_bind, Sem.run_ite, p1, p2, h3, h4, Result.andThen_ok]
    by_cases h5 : x = y
    · simp [h5]
    · simp [h5]
theorem eqk_arr [DecidableEq α] {t e : TypeId} {n m : Nat} {k : Kd α} (h : EqK P n e k) (ht : Ty P e k) (ha : Ar P t e m k) : EqK P (n + 1) t (karr m k) := by
  rintro d hd w H x y cs ds hx hy
  obtain ⟨d, rfl⟩ : ∃ m, d = m + 1 := ⟨d - 1, by omega⟩
  obtain ⟨i, hi, hs⟩ := ha.out.2
  have hc : P.cellsOf e = k.sz := by unfold Program.cellsOf; rw [hi]; exact hs
  have h1 := run_equalIn_array (P := P) w d cs.toArray ds.toArray ha.u hi
  have h2 := eqi h ht hc d (by omega) w H cs ds x.toList y.toList 0 (by simp) (by rw [Nat.zero_mul, List.drop_zero]; exact hx) (by rw [Nat.zero_mul, List.drop_zero]; exact hy)
  rw [List.range_eq_range'] at h1
  simp only [Vector.length_toList] at h2
  refine h1.trans (h2.trans ?_)
  congr 1
  rw [decide_eq_decide]
  exact ⟨fun e => Vector.toList_inj.1 e, fun e => by rw [e]⟩
end eqs
section opers
variable {C : Ctx} {S : St} {α : Type} {o : Oper} {T U : TypeId} {x y : Operand} {m n : α} {k : Kd α}
theorem op_eqlk [DecidableEq α] {q : Nat} (ho : o.op = .binOp .eql T x y U) (hd : dok o C.N = true) (he : EqK C.P q T k) (hq : q ≤ 10000) (ha : k.agg = true) (hg : C.P.eqGuardType C.P.depth T = false) (hx : Val C S x (rd k m)) (hy : Val C S y (rd k n)) : OpE C o S (S.put o.dst (rd kbool (decide (m = n)))) :=
  OpE.plain (by simp [ho]) hd fun O a w hh => by
    obtain ⟨cs, hc, h1⟩ := hx.of hh
    obtain ⟨ds, hds, h2⟩ := hy.of hh
    have h3 := he 10000 hq w _ m n cs ds hc hds
    rw [ha] at h1 h2 h3
    simp only [mkv, cond_true] at h1 h2 h3
    refine ⟨.bool (decide (m = n)), ?_, bool_rd⟩
    have hgu := run_eqGuard_agg (P := C.P) w .eql T x y cs.toArray ds.toArray hg
    have hb := run_eql_struct (P := C.P) w T cs.toArray ds.toArray
    rw [h3] at hb
    simp [execOp, ho, h1, h2, hgu, hb]
theorem op_neqk [DecidableEq α] {q : Nat} (ho : o.op = .binOp .neq T x y U) (hd : dok o C.N = true) (he : EqK C.P q T k) (hq : q ≤ 10000) (ha : k.agg = true) (hg : C.P.eqGuardType C.P.depth T = false) (hx : Val C S x (rd k m)) (hy : Val C S y (rd k n)) : OpE C o S (S.put o.dst (rd kbool (decide (m ≠ n)))) :=
  OpE.plain (by simp [ho]) hd fun O a w hh => by
    obtain ⟨cs, hc, h1⟩ := hx.of hh
    obtain ⟨ds, hds, h2⟩ := hy.of hh
    have h3 := he 10000 hq w _ m n cs ds hc hds
    rw [ha] at h1 h2 h3
    simp only [mkv, cond_true] at h1 h2 h3
    refine ⟨.bool (decide (m ≠ n)), ?_, bool_rd⟩
    have hgu := run_eqGuard_agg (P := C.P) w .neq T x y cs.toArray ds.toArray hg
    have hb := run_neq_struct (P := C.P) w T cs.toArray ds.toArray
    rw [h3] at hb
    simp [execOp, ho, h1, h2, hgu, hb]
end opers
end Go.Wb
