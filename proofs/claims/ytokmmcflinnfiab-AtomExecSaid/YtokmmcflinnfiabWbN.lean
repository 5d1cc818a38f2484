/- WbN: a part of the proof. -/
import Derived.Test.YtokmmcflinnfiabWbM
import Derived.Laws.Small
set_option linter.unusedVariables false
set_option linter.unusedSimpArgs false
namespace Go.Wb
open Go

/-! ### Steps that may fail -/
theorem bsome {α β : Type _} {x : Option α} {f : α → Option β} {r : β} (h : x.bind f = some r) : ∃ y, x = some y ∧ f y = some r := by
  cases x with
  | none => cases h
  | some y => exact ⟨y, rfl, h⟩
theorem cond_t {α : Type _} {t : Bool} {x y : α} {r : α} (ht : t = true) (h : (bif t then x else y) = r) : x = r := by subst ht; exact h
theorem cond_f {α : Type _} {t : Bool} {x y : α} {r : α} (ht : t = false) (h : (bif t then x else y) = r) : y = r := by subst ht; exact h
/-- Only if t. -/
def opt {α : Type _} [Inhabited α] (t : Bool) (x : Option α) : Option α := bif t then x else some default
theorem opt_t {α : Type _} [Inhabited α] {t : Bool} {x : Option α} {r : α} (h : opt t x = some r) (ht : (t == true) = true) : x = some r := by
  cases t with
  | true => exact h
  | false => cases ht
theorem opt_f {α : Type _} [Inhabited α] {t : Bool} {x : Option α} {r : α} (h : opt (!t) x = some r) (ht : (t == false) = true) : x = some r := by
  cases t with
  | false => exact h
  | true => cases ht
def lget {α : Type} (l : List α) (i : Int) : Option α := bif decide (0 ≤ i) then l[i.toNat]? else none
theorem lget_of {α : Type} {l : List α} {i : Int} {x : α} (h : lget l i = some x) : 0 ≤ i ∧ l[i.toNat]? = some x := by
  unfold lget at h
  cases hc : decide (0 ≤ i) with
  | true => exact ⟨of_decide_eq_true hc, by rwa [hc] at h⟩
  | false => rw [hc] at h; cases h
def chk (n : Nat) (i : Int) : Option (_root_.Fin n) := if h : 0 ≤ i ∧ i.toNat < n then some ⟨i.toNat, h.2⟩ else none
theorem chk_of {n : Nat} {i : Int} {j : _root_.Fin n} (h : chk n i = some j) : 0 ≤ i ∧ i.toNat = j.1 := by
  unfold chk at h
  split at h
  · rename_i h'
    cases h
    exact ⟨h'.1, rfl⟩
  · cases h
def omod (m n : Int) : Option Int := bif decide (n = 0) then none else some (m.tmod n)
theorem omod_of {m n r : Int} (h : omod m n = some r) : n ≠ 0 ∧ m.tmod n = r := by
  unfold omod at h
  by_cases e : n = 0
  · rw [decide_eq_true e] at h; cases h
  · rw [decide_eq_false e] at h; exact ⟨e, Option.some.inj h⟩
def oquo (ik : IntKind) (m n : Int) : Option Int := bif decide (n = 0) then none else some (ik.wrap (m.tdiv n))
theorem oquo_of {ik : IntKind} {m n r : Int} (h : oquo ik m n = some r) : n ≠ 0 ∧ ik.wrap (m.tdiv n) = r := by
  unfold oquo at h
  by_cases e : n = 0
  · rw [decide_eq_true e] at h; cases h
  · rw [decide_eq_false e] at h; exact ⟨e, Option.some.inj h⟩
def oshl (ik : IntKind) (m n : Int) : Option Int := bif decide (n < 0) then none else some (ik.wrap (m * 2 ^ (min n.toNat ik.bits)))
def oshr (ik : IntKind) (m n : Int) : Option Int := bif decide (n < 0) then none else some (m.fdiv (2 ^ (min n.toNat ik.bits)))
theorem oshl_of {ik : IntKind} {m n r : Int} (h : oshl ik m n = some r) : ¬ n < 0 ∧ ik.wrap (m * 2 ^ (min n.toNat ik.bits)) = r := by
  unfold oshl at h
  by_cases e : n < 0
  · rw [decide_eq_true e] at h; cases h
  · rw [decide_eq_false e] at h; exact ⟨e, Option.some.inj h⟩
theorem oshr_of {ik : IntKind} {m n r : Int} (h : oshr ik m n = some r) : ¬ n < 0 ∧ m.fdiv (2 ^ (min n.toNat ik.bits)) = r := by
  unfold oshr at h
  by_cases e : n < 0
  · rw [decide_eq_true e] at h; cases h
  · rw [decide_eq_false e] at h; exact ⟨e, Option.some.inj h⟩
/-- A list that has grown, if it may. -/
def appd {α : Type} (l m : List α) : Option (List α) := bif Nat.ble (l.length + m.length) lim then some (l ++ m) else none
theorem appd_of {α : Type} {l m r : List α} (h : appd l m = some r) : l.length + m.length ≤ lim ∧ l ++ m = r := by
  unfold appd at h
  cases hc : Nat.ble (l.length + m.length) lim with
  | true => rw [hc] at h; exact ⟨Nat.le_of_ble_eq_true hc, Option.some.inj h⟩
  | false => rw [hc] at h; cases h
/-- l[lo:hi] -/
def oslice {α : Type} (l : List α) (lo hi : Int) : Option (List α) := bif decide (0 ≤ lo) && (decide (lo ≤ hi) && Nat.ble hi.toNat l.length) then some ((l.take hi.toNat).drop lo.toNat) else none
theorem oslice_of {α : Type} {l r : List α} {lo hi : Int} (h : oslice l lo hi = some r) : 0 ≤ lo ∧ lo ≤ hi ∧ hi.toNat ≤ l.length ∧ (l.take hi.toNat).drop lo.toNat = r := by
  unfold oslice at h
  cases hc : (decide (0 ≤ lo) && (decide (lo ≤ hi) && Nat.ble hi.toNat l.length)) with
  | true =>
    rw [hc] at h
    simp only [Bool.and_eq_true, decide_eq_true_eq] at hc
    exact ⟨hc.1, hc.2.1, Nat.le_of_ble_eq_true hc.2.2, Option.some.inj h⟩
  | false => rw [hc] at h; cases h
def otake {α : Type} (l : List α) (hi : Int) : Option (List α) := bif decide (0 ≤ hi) && Nat.ble hi.toNat l.length then some (l.take hi.toNat) else none
theorem otake_of {α : Type} {l r : List α} {hi : Int} (h : otake l hi = some r) : 0 ≤ hi ∧ hi.toNat ≤ l.length ∧ l.take hi.toNat = r := by
  unfold otake at h
  cases hc : (decide (0 ≤ hi) && Nat.ble hi.toNat l.length) with
  | true =>
    rw [hc] at h
    simp only [Bool.and_eq_true, decide_eq_true_eq] at hc
    exact ⟨hc.1, Nat.le_of_ble_eq_true hc.2, Option.some.inj h⟩
  | false => rw [hc] at h; cases h
def odrop {α : Type} (l : List α) (lo : Int) : Option (List α) := bif decide (0 ≤ lo) && Nat.ble lo.toNat l.length then some (l.drop lo.toNat) else none
theorem odrop_of {α : Type} {l r : List α} {lo : Int} (h : odrop l lo = some r) : 0 ≤ lo ∧ lo.toNat ≤ l.length ∧ l.drop lo.toNat = r := by
  unfold odrop at h
  cases hc : (decide (0 ≤ lo) && Nat.ble lo.toNat l.length) with
  | true =>
    rw [hc] at h
    simp only [Bool.and_eq_true, decide_eq_true_eq] at hc
    exact ⟨hc.1, Nat.le_of_ble_eq_true hc.2, Option.some.inj h⟩
  | false => rw [hc] at h; cases h

/-! ### What is left of a list behind its first i -/
structure Sfx {α : Type} (L : List α) (i : Nat) (l : List α) : Prop where
  e : L.drop i = l
theorem Sfx.start {α : Type} (L : List α) : Sfx L 0 L := ⟨rfl⟩
theorem Sfx.len {α : Type} {L l : List α} {i : Nat} (h : Sfx L i l) (hl : l ≠ []) : i < L.length := by
  rcases Nat.lt_or_ge i L.length with h1 | h1
  · exact h1
  · exact absurd (h.e ▸ List.drop_of_length_le h1) hl
theorem Sfx.nil {α : Type} {L : List α} {i : Nat} (h : Sfx L i []) : ¬ ((i : Int) < (L.length : Int)) := by
  have := List.drop_eq_nil_iff.1 h.e; omega
theorem Sfx.cons {α : Type} {L l : List α} {x : α} {i : Nat} (h : Sfx L i (x :: l)) : ((i : Int) < (L.length : Int)) := by
  have := h.len (by simp); omega
theorem Sfx.get {α : Type} {L l : List α} {x : α} {i : Nat} (h : Sfx L i (x :: l)) : L[i]? = some x := by
  have h1 := congrArg (fun m : List α => m[0]?) h.e
  simpa [List.getElem?_drop] using h1
theorem Sfx.lget {α : Type} {L l : List α} {x : α} {i : Nat} (h : Sfx L i (x :: l)) : lget L (i : Int) = some x := by
  unfold Go.Wb.lget
  rw [decide_eq_true (by omega)]
  exact h.get
theorem Sfx.next {α : Type} {L l : List α} {x : α} {i : Nat} (h : Sfx L i (x :: l)) : Sfx L (i + 1) l := ⟨by
  have h1 := congrArg (fun m : List α => m.drop 1) h.e
  simpa [List.drop_drop, Nat.add_comm] using h1⟩

/-! ### Control -/
def ress (M : List (Nat × Res)) : Nat → Res := upds (fun _ => emp) M
def FitS (S : St) : List (Nat × Asrt) → Prop
  | [] => True
  | (t, A) :: L => S.s t = A ∧ FitS S L
def FitR (S : St) : List (Nat × Res) → Prop
  | [] => True
  | (t, A) :: L => S.r t = A ∧ FitR S L
theorem fitS_slot {S : St} : ∀ {L : List (Nat × Asrt)} {s : Nat → Asrt}, FitS S L → (∀ t, s t = S.s t ∨ s t = top) → ∀ t, upds s L t = S.s t ∨ upds s L t = top
  | [], _, _, h, t => h t
  | (d, A) :: L, s, ⟨h1, h2⟩, h, t => fitS_slot h2 (s := upd s d A) (fun u => by
    by_cases e : u = d
    · subst e; rw [upd_same]; exact .inl h1.symm
    · rw [upd_other _ _ e]; exact h u) t
theorem fitR_res {S : St} : ∀ {L : List (Nat × Res)} {s : Nat → Res}, FitR S L → (∀ t, s t = S.r t ∨ s t = emp) → ∀ t, upds s L t = S.r t ∨ upds s L t = emp
  | [], _, _, h, t => h t
  | (d, A) :: L, s, ⟨h1, h2⟩, h, t => fitR_res h2 (s := upd s d A) (fun u => by
    by_cases e : u = d
    · subst e; rw [upd_same]; exact .inl h1.symm
    · rw [upd_other _ _ e]; exact h u) t
structure Fit (S : St) (d : List Nat) (L : List (Nat × Asrt)) (M : List (Nat × Res)) : Prop where
  d : S.d = d
  s : FitS S L
  r : FitR S M

section control
variable {C : Ctx} {Q : Exit → St → Prop} {S : St}
theorem AW.fit {c : Code} {d : List Nat} {L : List (Nat × Asrt)} {M : List (Nat × Res)} (f : Fit S d L M) (h : AW C c Q ⟨slots L, ress M, d⟩) : AW C c Q S :=
  AW.weak f.d.symm (fitS_slot f.s (fun _ => .inr rfl)) (fitR_res f.r (fun _ => .inr rfl)) h
theorem AW.cond {t : Operand} {b : Bool} {x y : Code} (hc : Val C S t (rd kbool b)) (ht : b = true → AW C x Q S) (hf : b = false → AW C y Q S) : AW C (.cond t x y) Q S := by
  rintro a w ⟨O, hh⟩
  have h1 := rd_bool (hc.of hh)
  exact wpIn_cond_split h1 (fun e => ht e a w ⟨O, hh⟩) (fun e => hf e a w ⟨O, hh⟩)
theorem AW.join {ν : Type} (G : ν → Prop) (L : ν → List (Nat × Asrt)) (M : ν → List (Nat × Res)) {d : List Nat} {x y : Code} (hx : AW C x (nextQ (fun S' => ∃ n, G n ∧ Fit S' d (L n) (M n)) Q) S) (hy : ∀ n, G n → AW C y Q ⟨slots (L n), ress (M n), d⟩) : AW C (.seq x y) Q S :=
  AW.seq (hx.mono fun e S' h => match e, h with
    | .normal, ⟨n, h1, h2⟩ => AW.fit h2 (hy n h1)
    | .exit _, h => h
    | .goto _, h => h
    | .ret, h => h
    | .panic _, h => h
    | .outgrown, h => h)
theorem AW.loopG {ν : Type} (G : ν → Prop) (m : ν → Nat) (L : ν → List (Nat × Asrt)) (M : ν → List (Nat × Res)) {d : List Nat} {c : Code} (n0 : ν) (h0 : G n0) (f0 : Fit S d (L n0) (M n0))
    (hr : ∀ n, G n → AW C c (nextQ (fun S' => ∃ n', m n' < m n ∧ G n' ∧ Fit S' d (L n') (M n')) Q) ⟨slots (L n), ress (M n), d⟩) : AW C (.loop c) Q S := by
  refine AW.loop (fun k S' => ∃ n, m n = k ∧ G n ∧ Fit S' d (L n) (M n)) ⟨n0, rfl, h0, f0⟩ ?_
  rintro k S' ⟨n, rfl, h1, h2⟩
  refine AW.fit h2 ((hr n h1).mono fun e S' h => ?_)
  cases e with
  | normal =>
    obtain ⟨n', h3, h4, h5⟩ := h
    exact ⟨_, h3, n', rfl, h4, h5⟩
  | _ => exact h
end control

/-! ### More operations -/
section opers
variable {C : Ctx} {S S' : St} {o : Oper} {α β γ : Type}

def hasB (ik : IntKind) (n : Int) : Bool := decide (ik.min ≤ n) && decide (n ≤ ik.max)
theorem hasB_of {ik : IntKind} {n : Int} (h : hasB ik n = true) : ik.has n := by
  simp only [hasB, Bool.and_eq_true, decide_eq_true_eq] at h
  exact h
theorem vk {ik : IntKind} {n : Int} (h : hasB ik n = true) : Val C S (.const (.int ik n)) (rd (kint ik) n) := vi (hasB_of h)
theorem vku {n : Int} (x : BitVec 64) (h : (x.toNat : Int) = n) : Val C S (.const (.int .u64 n)) (rd ku64 x) := vu h

theorem op_indexs' {T E : TypeId} {k : Kd α} {l : List α} {i : Int} {x : α} {p q : Operand} {ik : IntKind} (ho : o.op = .indexAddr T p q) (hd : dok o C.N = true) (ht : Sl C.P T E k) (hp : Val C S p (rd (ksl k) l)) (hq : Val C S q (rd (kint ik) i)) (hx : lget l i = some x) :
    OpE C o S (S.put o.dst (rp k x)) := by
  obtain ⟨h0, h1⟩ := lget_of hx
  obtain ⟨h2, h3⟩ := List.getElem?_eq_some_iff.1 h1
  have := op_indexs (S := S) ho hd ht hp hq h0 h2
  rwa [h3] at this
theorem op_index' {T E : TypeId} {n : Nat} {k : Kd α} {kf : Kd β} {L : Lens k (karr n kf)} {g : Nat} {i : Int} {j : _root_.Fin n} {p q : Operand} {ik : IntKind} (ho : o.op = .indexAddr T p q) (hd : dok o C.N = true) (ht : Ar C.P T E n kf) (hp : Val C S p (ptrL g L)) (hq : Val C S q (rd (kint ik) i)) (hj : chk n i = some j) :
    OpE C o S (S.put o.dst (ptrL g (L.comp (Lens.idx n kf j.1 j.2)))) := by
  obtain ⟨h0, h1⟩ := chk_of hj
  have h2 : i.toNat < n := by omega
  have := op_index (S := S) ho hd ht hp hq h0 h2
  have e : (⟨i.toNat, h2⟩ : _root_.Fin n) = j := _root_.Fin.ext h1
  subst e
  exact this
theorem op_indexp' {T E : TypeId} {n : Nat} {kf : Kd β} {x : Vector β n} {i : Int} {j : _root_.Fin n} {p q : Operand} {ik : IntKind} (ho : o.op = .indexAddr T p q) (hd : dok o C.N = true) (ht : Ar C.P T E n kf) (hp : Val C S p (rp (karr n kf) x)) (hq : Val C S q (rd (kint ik) i)) (hj : chk n i = some j) :
    OpE C o S (S.put o.dst (rp kf (x.get j))) := by
  obtain ⟨h0, h1⟩ := chk_of hj
  have h2 : i.toNat < n := by omega
  have := op_indexp (S := S) ho hd ht hp hq h0 h2
  have e : (⟨i.toNat, h2⟩ : _root_.Fin n) = j := _root_.Fin.ext h1
  subst e
  exact this
/-- an own slice's element -/
theorem op_indexo' {T E : TypeId} {k : Kd α} {l : List α} {v : Value} {n : Int} {x : α} {p q : Operand} {ik : IntKind} (i : Nat) (ho : o.op = .indexAddr T p q) (hd : dok o C.N = true) (ht : Sl C.P T E k) (hp : Val C S p (raw v)) (hr : S.r i = Row v E k l) (hq : Val C S q (rd (kint ik) n)) (hx : lget l n = some x) :
    OpE C o S (S.put o.dst (erp v n.toNat (Lens.id k))) := by
  obtain ⟨h0, h1⟩ := lget_of hx
  exact op_indexo i ho hd ht hp hr hq h0 (List.getElem?_eq_some_iff.1 h1).1
theorem op_loado' {T E : TypeId} {n : Nat} {k : Kd α} {kf : Kd β} {L : Lens k kf} {l : List α} {x : α} {v : Value} {p : Operand} (i : Nat) (ho : o.op = .load T p) (hd : dok o C.N = true) (ht : Ty C.P T kf) (hp : Val C S p (erp v n L)) (hr : S.r i = Row v E k l) (hx : l[n]? = some x) :
    OpE C o S (S.put o.dst (rd kf (L.get x))) := by
  obtain ⟨h1, h2⟩ := List.getElem?_eq_some_iff.1 hx
  have := op_loado (S := S) i ho hd ht hp hr h1
  rwa [h2] at this
theorem op_storeo' {T E : TypeId} {n : Nat} {k : Kd α} {kf : Kd β} {L : Lens k kf} {l : List α} {x : α} {y : β} {v : Value} {p q : Operand} (i : Nat) (ho : o.op = .store T p q) (hd : o.dst = none) (ht : Ty C.P T kf) (hp : Val C S p (erp v n L)) (hr : S.r i = Row v E k l) (hx : l[n]? = some x) (hq : Val C S q (rd kf y)) :
    OpE C o S (S.setr i (Row v E k (l.set n (L.set x y)))) := by
  obtain ⟨h1, h2⟩ := List.getElem?_eq_some_iff.1 hx
  have := op_storeo (S := S) i ho hd ht hp hr h1 hq
  rwa [h2] at this

section ints
variable {T U : TypeId} {x y : Operand} {ik : IntKind} {m n r : Int}
/-- A loop's counter goes on. -/
theorem wrap_has {ik : IntKind} {n : Int} (h : ik.has n) : ik.wrap n = n := by
  obtain ⟨h1, h2⟩ := h
  cases ik <;> simp [IntKind.min, IntKind.max, IntKind.wrap, IntKind.signed, IntKind.bits] at * <;> omega
theorem op_incr {i : Nat} {t : Nat} (ho : o.op = .binOp .add T x y U) (hd : dok o C.N = true) (hx : Val C S x (rd (kint ik) (i : Int))) (hy : Val C S y (rd (kint ik) 1)) (hn : Val C S (.tmp t) (rd (kint ik) n)) (hl : (i : Int) < n) : OpE C o S (S.put o.dst (rd (kint ik) ((i + 1 : Nat) : Int))) :=
  OpE.plain (by simp [ho]) hd fun O a w hh => by
    have h1 := rd_int (hx.of hh); have h2 := (rd_int (hy.of hh)).1
    have h3 := (rd_int (hn.of hh)).2
    have h4 : ik.has ((i + 1 : Nat) : Int) := ⟨by have := h1.2.1; omega, by have := h3.2; omega⟩
    have e : ik.wrap ((i : Int) + 1) = ((i + 1 : Nat) : Int) := by
      rw [show ((i : Int) + 1) = ((i + 1 : Nat) : Int) by omega]
      exact wrap_has h4
    exact ⟨_, by simp [execOp, ho, h1.1, h2, binOp_guard, binOp, Op.intArith]; rfl, by rw [e]; exact int_rd h4⟩
theorem op_incrc {i : Nat} {c : Int} (ho : o.op = .binOp .add T x y U) (hd : dok o C.N = true) (hx : Val C S x (rd (kint ik) (i : Int))) (hy : Val C S y (rd (kint ik) 1)) (hn : hasB ik c = true) (hl : (i : Int) < c) : OpE C o S (S.put o.dst (rd (kint ik) ((i + 1 : Nat) : Int))) :=
  OpE.plain (by simp [ho]) hd fun O a w hh => by
    have h1 := rd_int (hx.of hh); have h2 := (rd_int (hy.of hh)).1
    have h3 := hasB_of hn
    have h4 : ik.has ((i + 1 : Nat) : Int) := ⟨by have := h1.2.1; omega, by have := h3.2; omega⟩
    have e : ik.wrap ((i : Int) + 1) = ((i + 1 : Nat) : Int) := by
      rw [show ((i : Int) + 1) = ((i + 1 : Nat) : Int) by omega]
      exact wrap_has h4
    exact ⟨_, by simp [execOp, ho, h1.1, h2, binOp_guard, binOp, Op.intArith]; rfl, by rw [e]; exact int_rd h4⟩
theorem tmod_has {m n : Int} (h : ik.has m) : ik.has (m.tmod n) := by
  have h0 : ik.min ≤ 0 := by cases ik <;> decide
  have h1 : 0 ≤ ik.max := by cases ik <;> decide
  obtain ⟨h2, h3⟩ := h
  rcases Int.le_total 0 m with hm | hm
  · have := Int.tmod_nonneg n hm
    have h5 : m.tmod n ≤ m := by
      have e := Int.tmod_add_tdiv_mul m n
      have h6 : 0 ≤ (m.tdiv n) * n := by
        rcases Int.le_total 0 n with hn | hn
        · exact Int.mul_nonneg (Int.tdiv_nonneg hm hn) hn
        · have : m.tdiv n ≤ 0 := by
            have := Int.tdiv_nonneg hm (b := -n) (by omega)
            rw [Int.tdiv_neg] at this; omega
          have := Int.mul_nonneg (a := -(m.tdiv n)) (b := -n) (by omega) (by omega)
          rwa [Int.neg_mul_neg] at this
      omega
    exact ⟨by omega, by omega⟩
  · have e : m.tmod n = -((-m).tmod n) := by rw [Int.neg_tmod]; omega
    have := Int.tmod_nonneg n (a := -m) (by omega)
    have h5 : (-m).tmod n ≤ -m := by
      have e := Int.tmod_add_tdiv_mul (-m) n
      have hm' : 0 ≤ -m := by omega
      have h6 : 0 ≤ ((-m).tdiv n) * n := by
        rcases Int.le_total 0 n with hn | hn
        · exact Int.mul_nonneg (Int.tdiv_nonneg hm' hn) hn
        · have : (-m).tdiv n ≤ 0 := by
            have := Int.tdiv_nonneg hm' (b := -n) (by omega)
            rw [Int.tdiv_neg] at this; omega
          have := Int.mul_nonneg (a := -((-m).tdiv n)) (b := -n) (by omega) (by omega)
          rwa [Int.neg_mul_neg] at this
      omega
    exact ⟨by omega, by omega⟩
theorem op_rem (ho : o.op = .binOp .rem T x y U) (hd : dok o C.N = true) (hx : Val C S x (rd (kint ik) m)) (hy : Val C S y (rd (kint ik) n)) (h : omod m n = some r) : OpE C o S (S.put o.dst (rd (kint ik) r)) :=
  OpE.plain (by simp [ho]) hd fun O a w hh => by
    obtain ⟨h0, rfl⟩ := omod_of h
    have h1 := rd_int (hx.of hh); have h2 := (rd_int (hy.of hh)).1
    exact ⟨_, by simp [execOp, ho, h1.1, h2, binOp_guard, binOp, Op.intDiv, h0], int_rd (tmod_has h1.2)⟩
theorem op_quo (ho : o.op = .binOp .quo T x y U) (hd : dok o C.N = true) (hx : Val C S x (rd (kint ik) m)) (hy : Val C S y (rd (kint ik) n)) (h : oquo ik m n = some r) : OpE C o S (S.put o.dst (rd (kint ik) r)) :=
  OpE.plain (by simp [ho]) hd fun O a w hh => by
    obtain ⟨h0, rfl⟩ := oquo_of h
    have h1 := rd_int (hx.of hh); have h2 := (rd_int (hy.of hh)).1
    exact ⟨_, by simp [execOp, ho, h1.1, h2, binOp_guard, binOp, Op.intDiv, h0], int_rd (has_wrap _ _)⟩
theorem fdiv_has {m : Int} {k : Nat} (h : ik.has m) : ik.has (m.fdiv (2 ^ k)) := by
  have h0 : ik.min ≤ 0 := by cases ik <;> decide
  have h1 : 0 ≤ ik.max := by cases ik <;> decide
  obtain ⟨h2, h3⟩ := h
  have hp : (1 : Int) ≤ 2 ^ k := by
    have := Nat.one_le_two_pow (n := k)
    have e : ((2 ^ k : Nat) : Int) = (2 : Int) ^ k := by simp
    omega
  rw [Int.fdiv_eq_ediv_of_nonneg _ (by omega)]
  rcases Int.le_total 0 m with hm | hm
  · have := Int.ediv_nonneg hm (b := 2 ^ k) (by omega)
    have := Int.ediv_le_self (2 ^ k) hm
    exact ⟨by omega, by omega⟩
  · have e1 : m / 2 ^ k ≤ 0 := by
      have := Int.ediv_le_ediv (c := 2 ^ k) (by omega) hm
      simpa using this
    have e2 : m ≤ m / 2 ^ k := by
      rw [Int.le_ediv_iff_mul_le (by omega)]
      have := Int.mul_le_mul_of_nonneg_left (c := -m) hp (by omega)
      have e3 : -m * 2 ^ k = -(m * 2 ^ k) := Int.neg_mul _ _
      omega
    exact ⟨by omega, by omega⟩
theorem op_shl {jk : IntKind} (ho : o.op = .binOp .shl T x y U) (hd : dok o C.N = true) (hx : Val C S x (rd (kint ik) m)) (hy : Val C S y (rd (kint jk) n)) (h : oshl ik m n = some r) : OpE C o S (S.put o.dst (rd (kint ik) r)) :=
  OpE.plain (by simp [ho]) hd fun O a w hh => by
    obtain ⟨h0, rfl⟩ := oshl_of h
    have h1 := rd_int (hx.of hh); have h2 := (rd_int (hy.of hh)).1
    exact ⟨_, by simp [execOp, ho, h1.1, h2, binOp_guard, binOp, Op.shift, h0], int_rd (has_wrap _ _)⟩
theorem op_shr {jk : IntKind} (ho : o.op = .binOp .shr T x y U) (hd : dok o C.N = true) (hx : Val C S x (rd (kint ik) m)) (hy : Val C S y (rd (kint jk) n)) (h : oshr ik m n = some r) : OpE C o S (S.put o.dst (rd (kint ik) r)) :=
  OpE.plain (by simp [ho]) hd fun O a w hh => by
    obtain ⟨h0, rfl⟩ := oshr_of h
    have h1 := rd_int (hx.of hh); have h2 := (rd_int (hy.of hh)).1
    exact ⟨_, by simp [execOp, ho, h1.1, h2, binOp_guard, binOp, Op.shift, h0], int_rd (fdiv_has h1.2)⟩
/-- bits of integers -/
def ibits (op : BinOp) (ik : IntKind) (m n : Int) : Int :=
  let a := BitVec.ofInt ik.bits m
  let b := BitVec.ofInt ik.bits n
  match op with
  | .and => ik.wrap (a &&& b).toNat
  | .or => ik.wrap (a ||| b).toNat
  | .xor => ik.wrap (a ^^^ b).toNat
  | _ => ik.wrap (a &&& ~~~b).toNat
theorem op_iand (ho : o.op = .binOp .and T x y U) (hd : dok o C.N = true) (hx : Val C S x (rd (kint ik) m)) (hy : Val C S y (rd (kint ik) n)) : OpE C o S (S.put o.dst (rd (kint ik) (ibits .and ik m n))) :=
  OpE.plain (by simp [ho]) hd fun O a w hh => by
    have h1 := rd_int (hx.of hh); have h2 := (rd_int (hy.of hh)).1
    exact ⟨_, by simp only [execOp, ho, h1.1, h2, binOp]; simp [binOp_guard]; rfl, int_rd (has_wrap _ _)⟩
theorem op_ior (ho : o.op = .binOp .or T x y U) (hd : dok o C.N = true) (hx : Val C S x (rd (kint ik) m)) (hy : Val C S y (rd (kint ik) n)) : OpE C o S (S.put o.dst (rd (kint ik) (ibits .or ik m n))) :=
  OpE.plain (by simp [ho]) hd fun O a w hh => by
    have h1 := rd_int (hx.of hh); have h2 := (rd_int (hy.of hh)).1
    exact ⟨_, by simp only [execOp, ho, h1.1, h2, binOp]; simp [binOp_guard]; rfl, int_rd (has_wrap _ _)⟩
theorem op_ixor (ho : o.op = .binOp .xor T x y U) (hd : dok o C.N = true) (hx : Val C S x (rd (kint ik) m)) (hy : Val C S y (rd (kint ik) n)) : OpE C o S (S.put o.dst (rd (kint ik) (ibits .xor ik m n))) :=
  OpE.plain (by simp [ho]) hd fun O a w hh => by
    have h1 := rd_int (hx.of hh); have h2 := (rd_int (hy.of hh)).1
    exact ⟨_, by simp only [execOp, ho, h1.1, h2, binOp]; simp [binOp_guard]; rfl, int_rd (has_wrap _ _)⟩
theorem op_iandnot (ho : o.op = .binOp .andNot T x y U) (hd : dok o C.N = true) (hx : Val C S x (rd (kint ik) m)) (hy : Val C S y (rd (kint ik) n)) : OpE C o S (S.put o.dst (rd (kint ik) (ibits .andNot ik m n))) :=
  OpE.plain (by simp [ho]) hd fun O a w hh => by
    have h1 := rd_int (hx.of hh); have h2 := (rd_int (hy.of hh)).1
    exact ⟨_, by simp only [execOp, ho, h1.1, h2, binOp]; simp [binOp_guard]; rfl, int_rd (has_wrap _ _)⟩
theorem op_neg (ho : o.op = .unOp .neg T x) (hd : dok o C.N = true) (hx : Val C S x (rd (kint ik) m)) : OpE C o S (S.put o.dst (rd (kint ik) (ik.wrap (0 - m)))) :=
  OpE.plain (by simp [ho]) hd fun O a w hh => by
    have h1 := rd_int (hx.of hh)
    exact ⟨_, by simp only [execOp, ho, h1.1, Op.unary, Op.intArith]; simp, int_rd (has_wrap _ _)⟩
/-- min, max of two -/
def imin (m n : Int) : Int := bif decide (n < m) then n else m
def imax (m n : Int) : Int := bif decide (n > m) then n else m
theorem op_min (ho : o.op = .call { callee := .builtin .min, args := #[x, y], argTypes := #[T, U] }) (hd : dok o C.N = true) (hx : Val C S x (rd (kint ik) m)) (hy : Val C S y (rd (kint ik) n)) : OpE C o S (S.put o.dst (rd (kint ik) (imin m n))) :=
  OpE.plain (by simp [ho]) hd fun O a w hh => by
    have h1 := rd_int (hx.of hh); have h2 := rd_int (hy.of hh)
    have e : (if n < m then n else m) = imin m n := by unfold imin; by_cases e : n < m <;> simp [e]
    refine ⟨.int ik (imin m n), ?_, int_rd ?_⟩
    · simp [execOp, ho, resolve, invoke, builtin, Builtin.min_, Builtin.min2, h1.1, h2.1, e]
    · unfold imin; cases decide (n < m); exact h1.2; exact h2.2
theorem op_max (ho : o.op = .call { callee := .builtin .max, args := #[x, y], argTypes := #[T, U] }) (hd : dok o C.N = true) (hx : Val C S x (rd (kint ik) m)) (hy : Val C S y (rd (kint ik) n)) : OpE C o S (S.put o.dst (rd (kint ik) (imax m n))) :=
  OpE.plain (by simp [ho]) hd fun O a w hh => by
    have h1 := rd_int (hx.of hh); have h2 := rd_int (hy.of hh)
    have e : (if m < n then n else m) = imax m n := by unfold imax; by_cases e : m < n <;> simp [e]
    refine ⟨.int ik (imax m n), ?_, int_rd ?_⟩
    · simp [execOp, ho, resolve, invoke, builtin, Builtin.max_, Builtin.max2, h1.1, h2.1, e]
    · unfold imax; cases decide (n > m); exact h1.2; exact h2.2
/-- int to int -/
theorem op_conv {jk : IntKind} (ho : o.op = .convert T U x) (hd : dok o C.N = true) (hT : (C.P.underlying T).isSome = true) (hU : C.P.underlying U = some (.int jk)) (hx : Val C S x (rd (kint ik) m)) : OpE C o S (S.put o.dst (rd (kint jk) (jk.wrap m))) :=
  OpE.plain (by simp [ho]) hd fun O a w hh => by
    have h1 := rd_int (hx.of hh)
    obtain ⟨d, hd'⟩ := Option.isSome_iff_exists.1 hT
    refine ⟨.int jk (jk.wrap m), ?_, int_rd (has_wrap _ _)⟩
    simp only [execOp, ho, h1.1, convert, Sem.run_bind, run_underlying hd', run_underlying hU, Result.andThen_ok]
    cases d <;> simp [Conv.intToInt]
end ints

/-! truth -/
section bools
variable {T U : TypeId} {x y c : Operand} {m n : Bool}
/-- x && y -/
theorem op_all {o : Oper} (ho : o.op = .pick c x (.const (.bool false))) (hd : dok o C.N = true) (hc : Val C S c (rd kbool m)) (hx : Val C S x (gd (m == true) (rd kbool n))) : OpE C o S (S.put o.dst (rd kbool (m && n))) :=
  OpE.plain (by simp [ho]) hd fun O a w hh => by
    have h1 := rd_bool (hc.of hh)
    cases m with
    | true =>
      refine ⟨a.eval x, by simp [execOp, ho, h1, asBool], ?_⟩
      exact hx.of hh rfl
    | false => exact ⟨a.eval (.const (.bool false)), by simp [execOp, ho, h1, asBool], bool_rd⟩
/-- x || y -/
theorem op_any {o : Oper} (ho : o.op = .pick c (.const (.bool true)) x) (hd : dok o C.N = true) (hc : Val C S c (rd kbool m)) (hx : Val C S x (gd (m == false) (rd kbool n))) : OpE C o S (S.put o.dst (rd kbool (m || n))) :=
  OpE.plain (by simp [ho]) hd fun O a w hh => by
    have h1 := rd_bool (hc.of hh)
    cases m with
    | false =>
      refine ⟨a.eval x, by simp [execOp, ho, h1, asBool], ?_⟩
      exact hx.of hh rfl
    | true => exact ⟨a.eval (.const (.bool true)), by simp [execOp, ho, h1, asBool], bool_rd⟩
theorem op_eqlb (ho : o.op = .binOp .eql T x y U) (hd : dok o C.N = true) (hT : C.P.underlying T = some .bool) (hx : Val C S x (rd kbool m)) (hy : Val C S y (rd kbool n)) : OpE C o S (S.put o.dst (rd kbool (m == n))) :=
  OpE.plain (by simp [ho]) hd fun O a w hh => by
    have h1 := rd_bool (hx.of hh); have h2 := rd_bool (hy.of hh)
    refine ⟨.bool (m == n), ?_, bool_rd⟩
    have hg : ∀ op : BinOp, (eqGuard op T x y (.bool m) (.bool n)).run C.P w = .ok () w := fun op => by cases op <;> rfl
    simp [execOp, ho, h1, h2, hg, binOp, run_equal_bool w T m n hT]
theorem op_neqb (ho : o.op = .binOp .neq T x y U) (hd : dok o C.N = true) (hT : C.P.underlying T = some .bool) (hx : Val C S x (rd kbool m)) (hy : Val C S y (rd kbool n)) : OpE C o S (S.put o.dst (rd kbool (!(m == n)))) :=
  OpE.plain (by simp [ho]) hd fun O a w hh => by
    have h1 := rd_bool (hx.of hh); have h2 := rd_bool (hy.of hh)
    refine ⟨.bool (!(m == n)), ?_, bool_rd⟩
    have hg : ∀ op : BinOp, (eqGuard op T x y (.bool m) (.bool n)).run C.P w = .ok () w := fun op => by cases op <;> rfl
    simp [execOp, ho, h1, h2, hg, binOp, run_equal_bool w T m n hT]
end bools
end opers
end Go.Wb
