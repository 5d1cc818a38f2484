/- WbC: a part of the proof. -/
import Derived.Test.YtokmmcflinnfiabWbB
import Derived.Laws.CopyRow
set_option linter.unusedVariables false
set_option linter.unusedSimpArgs false
namespace Go.Wb
open Go

/-! ### Kinds -/
section kinds
variable {α β : Type}

def kint (ik : IntKind) : Kd Int where
  sz := 1
  agg := false
  C := fun _ _ x cs => cs = [.int ik x] ∧ ik.has x
  len := by rintro w H x cs ⟨rfl, _⟩; rfl
  one := by rintro w H x cs ⟨rfl, _⟩ v hv; simp at hv; subst hv; rfl
  flat := fun _ => rfl
  mono := fun _ h => h

def ku64 : Kd (BitVec 64) where
  sz := 1
  agg := false
  C := fun _ _ x cs => cs = [.int .u64 (x.toNat : Int)]
  len := by rintro w H x cs rfl; rfl
  one := by rintro w H x cs rfl v hv; simp at hv; subst hv; rfl
  flat := fun _ => rfl
  mono := fun _ h => h

def kbool : Kd Bool where
  sz := 1
  agg := false
  C := fun _ _ x cs => cs = [.bool x]
  len := by rintro w H x cs rfl; rfl
  one := by rintro w H x cs rfl v hv; simp at hv; subst hv; rfl
  flat := fun _ => rfl
  mono := fun _ h => h

def kstr : Kd ByteArray where
  sz := 1
  agg := false
  C := fun _ _ x cs => cs = [.string x] ∧ x.size ≤ 9223372036854775807
  len := by rintro w H x cs ⟨rfl, _⟩; rfl
  one := by rintro w H x cs ⟨rfl, _⟩ v hv; simp at hv; subst hv; rfl
  flat := fun _ => rfl
  mono := fun _ h => h

/-- A cell's value itself. -/
def kraw : Kd Value where
  sz := 1
  agg := false
  C := fun _ _ x cs => cs = [x] ∧ x.oneCell' = true
  len := by rintro w H x cs ⟨rfl, _⟩; rfl
  one := by rintro w H x cs ⟨rfl, h⟩ v hv; simp at hv; subst hv; exact h
  flat := fun _ => rfl
  mono := fun _ h => h

/-- Elements one behind the other. -/
def Cells (k : Kd α) (w : World) (H : HS) : List α → List Value → Prop
  | [], cs => cs = []
  | x :: l, cs => ∃ c1 c2, cs = c1 ++ c2 ∧ k.C w H x c1 ∧ Cells k w H l c2

theorem Cells.len {k : Kd α} {w : World} {H : HS} : ∀ {l : List α} {cs : List Value}, Cells k w H l cs → cs.length = l.length * k.sz
  | [], _, h => by simp [Cells] at h; simp [h]
  | x :: l, _, h => by
    obtain ⟨c1, c2, rfl, h1, h2⟩ := h
    rw [List.length_append, k.len h1, Cells.len h2, List.length_cons, Nat.add_mul, Nat.one_mul, Nat.add_comm]
theorem Cells.one {k : Kd α} {w : World} {H : HS} : ∀ {l : List α} {cs : List Value}, Cells k w H l cs → ∀ v ∈ cs, v.oneCell' = true
  | [], _, h, v, hv => by simp [Cells] at h; subst h; cases hv
  | x :: l, _, h, v, hv => by
    obtain ⟨c1, c2, rfl, h1, h2⟩ := h
    rcases List.mem_append.1 hv with h | h
    · exact k.one h1 v h
    · exact Cells.one h2 v h
theorem Cells.mono {k : Kd α} {w w' : World} {H H' : HS} (e : Ext w H none_ w' H' none_) : ∀ {l : List α} {cs : List Value}, Cells k w H l cs → Cells k w' H' l cs
  | [], _, h => h
  | x :: l, _, h => by
    obtain ⟨c1, c2, rfl, h1, h2⟩ := h
    exact ⟨c1, c2, rfl, k.mono e h1, Cells.mono e h2⟩
theorem Cells.append {k : Kd α} {w : World} {H : HS} : ∀ {l m : List α} {cs ds : List Value}, Cells k w H l cs → Cells k w H m ds → Cells k w H (l ++ m) (cs ++ ds)
  | [], _, _, _, h, h' => by simp [Cells] at h; subst h; exact h'
  | x :: l, _, _, _, h, h' => by
    obtain ⟨c1, c2, rfl, h1, h2⟩ := h
    exact ⟨c1, _, List.append_assoc .., h1, Cells.append h2 h'⟩
theorem Cells.single {k : Kd α} {w : World} {H : HS} {x : α} {cs : List Value} (h : k.C w H x cs) : Cells k w H [x] cs := ⟨cs, [], by simp, h, rfl⟩
theorem Cells.split {k : Kd α} {w : World} {H : HS} : ∀ {l m : List α} {cs : List Value}, Cells k w H (l ++ m) cs → Cells k w H l (cs.take (l.length * k.sz)) ∧ Cells k w H m (cs.drop (l.length * k.sz))
  | [], _, _, h => by simpa [Cells] using h
  | x :: l, m, _, h => by
    obtain ⟨c1, c2, rfl, h1, h2⟩ := h
    have hl := k.len h1
    obtain ⟨h3, h4⟩ := Cells.split (l := l) h2
    have e1 : (x :: l).length * k.sz = c1.length + l.length * k.sz := by rw [List.length_cons, Nat.add_mul, Nat.one_mul, hl, Nat.add_comm]
    rw [e1]
    refine ⟨⟨c1, c2.take (l.length * k.sz), ?_, h1, h3⟩, ?_⟩
    · rw [List.take_append, List.take_of_length_le (by omega)]; simp
    · rw [List.drop_append, List.drop_of_length_le (by omega)]; simpa using h4
theorem Cells.get {k : Kd α} {w : World} {H : HS} {l : List α} {cs : List Value} (h : Cells k w H l cs) (i : Nat) (hi : i < l.length) : k.C w H l[i] ((cs.drop (i * k.sz)).take k.sz) := by
  have e : l = l.take i ++ (l[i] :: l.drop (i + 1)) := by simp
  rw [e] at h
  obtain ⟨-, h2⟩ := h.split
  have hl : (l.take i).length = i := by rw [List.length_take]; omega
  rw [hl] at h2
  obtain ⟨c1, c2, e2, h3, -⟩ := h2
  rw [e2]
  have := k.len h3
  rw [List.take_append, List.take_of_length_le (by omega)]
  simpa [this] using h3
theorem Cells.take {k : Kd α} {w : World} {H : HS} {l : List α} {cs : List Value} (h : Cells k w H l cs) (i : Nat) (hi : i ≤ l.length) : Cells k w H (l.take i) (cs.take (i * k.sz)) := by
  have e : l = l.take i ++ l.drop i := by simp
  rw [e] at h
  have := h.split.1
  rwa [List.length_take, Nat.min_eq_left hi] at this
theorem Cells.drop {k : Kd α} {w : World} {H : HS} {l : List α} {cs : List Value} (h : Cells k w H l cs) (i : Nat) (hi : i ≤ l.length) : Cells k w H (l.drop i) (cs.drop (i * k.sz)) := by
  have e : l = l.take i ++ l.drop i := by simp
  rw [e] at h
  have := h.split.2
  rwa [List.length_take, Nat.min_eq_left hi] at this
/-- Cells laid over others. -/
def lay (cs : List Value) (off : Nat) (c : List Value) : List Value := cs.take off ++ (c ++ cs.drop (off + c.length))
theorem Cells.set {k : Kd α} {w : World} {H : HS} {l : List α} {cs c : List Value} {y : α} (h : Cells k w H l cs) (i : Nat) (hi : i < l.length) (hy : k.C w H y c) : Cells k w H (l.set i y) (lay cs (i * k.sz) c) := by
  have h1 := h.take i (by omega)
  have h2 := h.drop (i + 1) (by omega)
  have e : l.set i y = l.take i ++ ([y] ++ l.drop (i + 1)) := by
    rw [List.set_eq_take_append_cons_drop, if_pos hi]; rfl
  rw [e]
  unfold lay
  rw [k.len hy, ← Nat.succ_mul]
  exact h1.append ((Cells.single hy).append h2)

/-- Where cells lie. -/
def At (w : World) (b off : Nat) (cs : List Value) : Prop := ∀ (j : Nat) u, cs[j]? = some u → w.cell? ⟨b, off + j, none⟩ = some u
theorem At.sub {w : World} {b off : Nat} {cs : List Value} (h : At w b off cs) (i n : Nat) : At w b (off + i) ((cs.drop i).take n) := fun j u hu => by
  rw [List.getElem?_take] at hu
  split at hu
  · rw [List.getElem?_drop] at hu
    rw [Nat.add_assoc]; exact h _ _ hu
  · cases hu
theorem At.mono {w w' : World} {b off : Nat} {cs : List Value} (h : At w b off cs) (e : w'.heap[b]? = w.heap[b]?) : At w' b off cs := fun j u hu => (World.cell?_of_block (w := w) (a := ⟨b, off + j, none⟩) e).trans (h j u hu)

/-- What a slice's value tells: the list l lies there, and is seen. -/
def SlC (k : Kd α) (w : World) (H : HS) (l : List α) (v : Value) : Prop :=
  ∃ A c, v = .slice A l.length c ∧ l.length ≤ c ∧ c ≤ 9223372036854775807 ∧
    (0 < l.length → ∃ b off cl, A = some ⟨b, off, none⟩ ∧ b < w.heap.size ∧ ¬ H b ∧ Cells k w H l cl ∧ At w b off cl)

def ksl (k : Kd α) : Kd (List α) where
  sz := 1
  agg := false
  C := fun w H l cs => ∃ v, cs = [v] ∧ SlC k w H l v
  len := by rintro w H x cs ⟨v, rfl, _⟩; rfl
  one := by rintro w H x cs ⟨v, rfl, A, c, rfl, _⟩ u hu; simp at hu; subst hu; rfl
  flat := fun _ => rfl
  mono := by
    rintro w H w' H' l cs e ⟨v, rfl, A, c, rfl, h1, h2, h3⟩
    refine ⟨_, rfl, A, c, rfl, h1, h2, fun hp => ?_⟩
    obtain ⟨b, off, cl, rfl, hb, hn, hc, hat⟩ := h3 hp
    obtain ⟨hn', hs⟩ := e.vis b hb hn
    exact ⟨b, off, cl, rfl, Nat.lt_of_lt_of_le hb e.size, hn', hc.mono e, hat.mono hs⟩

def kpair (k : Kd α) (m : Kd β) : Kd (α × β) where
  sz := k.sz + m.sz
  agg := true
  C := fun w H x cs => ∃ c1 c2, cs = c1 ++ c2 ∧ k.C w H x.1 c1 ∧ m.C w H x.2 c2
  len := by rintro w H x cs ⟨c1, c2, rfl, h1, h2⟩; rw [List.length_append, k.len h1, m.len h2]
  one := by
    rintro w H x cs ⟨c1, c2, rfl, h1, h2⟩ v hv
    rcases List.mem_append.1 hv with h | h
    · exact k.one h1 v h
    · exact m.one h2 v h
  flat := fun h => by cases h
  mono := by
    rintro w H w' H' x cs e ⟨c1, c2, rfl, h1, h2⟩
    exact ⟨c1, c2, rfl, k.mono e h1, m.mono e h2⟩

def kiso (k : Kd β) (f : α → β) : Kd α where
  sz := k.sz
  agg := true
  C := fun w H x cs => k.C w H (f x) cs
  len := fun h => k.len h
  one := fun h => k.one h
  flat := fun h => by cases h
  mono := fun e h => k.mono e h

def karr (n : Nat) (k : Kd α) : Kd (Vector α n) where
  sz := n * k.sz
  agg := true
  C := fun w H x cs => Cells k w H x.toList cs
  len := fun h => by rw [h.len]; simp
  one := fun h => h.one
  flat := fun h => by cases h
  mono := fun e h => h.mono e

/-- Nothing in it. -/
def kunit : Kd Unit where
  sz := 0
  agg := true
  C := fun _ _ _ cs => cs = []
  len := by rintro w H x cs rfl; rfl
  one := by rintro w H x cs rfl v hv; cases hv
  flat := fun h => by cases h
  mono := fun _ h => h
end kinds

/-! ### Parts of kinds -/
structure Lens {α β : Type} (k : Kd α) (kf : Kd β) where
  off : Nat
  get : α → β
  set : α → β → α
  fits : off + kf.sz ≤ k.sz
  okget : ∀ {w H x cs}, k.C w H x cs → kf.C w H (get x) ((cs.drop off).take kf.sz)
  okset : ∀ {w H x y cs c}, k.C w H x cs → kf.C w H y c → k.C w H (set x y) (lay cs off c)

section lenses
variable {α β γ : Type}
theorem lay_length {cs c : List Value} {off : Nat} (h : off + c.length ≤ cs.length) : (lay cs off c).length = cs.length := by
  simp [lay]; omega
theorem lay_get {cs c : List Value} {off : Nat} (h : off + c.length ≤ cs.length) (i : Nat) : (lay cs off c)[i]? = if i < off then cs[i]? else if i < off + c.length then c[i - off]? else cs[i]? := by
  unfold lay
  rw [List.getElem?_append, List.length_take, Nat.min_eq_left (by omega)]
  by_cases h1 : i < off
  · simp [h1]
  · rw [if_neg h1, if_neg h1, List.getElem?_append]
    by_cases h2 : i < off + c.length
    · rw [if_pos h2, if_pos (by omega)]
    · rw [if_neg h2, if_neg (by omega), List.getElem?_drop]
      congr 1
      omega
theorem lay_lay {cs c : List Value} {o1 o2 n : Nat} (h : o1 + n ≤ cs.length) (h2 : o2 + c.length ≤ n) : lay cs o1 (lay ((cs.drop o1).take n) o2 c) = lay cs (o1 + o2) c := by
  have hl : ((cs.drop o1).take n).length = n := by simp; omega
  have hl2 : (lay ((cs.drop o1).take n) o2 c).length = n := by rw [lay_length (by omega), hl]
  apply List.ext_getElem?
  intro i
  rw [lay_get (cs := cs) (off := o1) (by omega), lay_get (cs := cs) (c := c) (off := o1 + o2) (by omega), hl2]
  by_cases h1 : i < o1
  · rw [if_pos h1, if_pos (by omega)]
  · rw [if_neg h1]
    by_cases h3 : i < o1 + n
    · rw [if_pos h3, lay_get (cs := (cs.drop o1).take n) (c := c) (off := o2) (by omega)]
      by_cases h4 : i - o1 < o2
      · rw [if_pos h4, if_pos (by omega), List.getElem?_take, if_pos (by omega), List.getElem?_drop]
        congr 1
        omega
      · rw [if_neg h4, if_neg (show ¬ i < o1 + o2 by omega)]
        by_cases h5 : i - o1 < o2 + c.length
        · rw [if_pos h5, if_pos (by omega)]
          congr 1
          omega
        · rw [if_neg h5, if_neg (by omega), List.getElem?_take, if_pos (by omega), List.getElem?_drop]
          congr 1
          omega
    · rw [if_neg h3, if_neg (by omega), if_neg (by omega)]
theorem lay_whole {cs c : List Value} (h : c.length = cs.length) : lay cs 0 c = c := by
  unfold lay
  rw [List.take_zero, List.nil_append, Nat.zero_add, List.drop_of_length_le (by omega), List.append_nil]

def Lens.id (k : Kd α) : Lens k k where
  off := 0
  get := fun x => x
  set := fun _ y => y
  fits := by omega
  okget := fun h => by rw [List.drop_zero, List.take_of_length_le (by rw [k.len h]; omega)]; exact h
  okset := fun h h' => by rw [lay_whole (by rw [k.len h, k.len h'])]; exact h'

def Lens.comp {k : Kd α} {m : Kd β} {p : Kd γ} (L : Lens k m) (M : Lens m p) : Lens k p where
  off := L.off + M.off
  get := fun x => M.get (L.get x)
  set := fun x y => L.set x (M.set (L.get x) y)
  fits := by have := L.fits; have := M.fits; omega
  okget := fun h => by
    have h1 := M.okget (L.okget h)
    rwa [List.drop_take, List.drop_drop, List.take_take, Nat.min_eq_left (by have := M.fits; omega)] at h1
  okset := fun h h' => by
    have h1 := L.okset h (M.okset (L.okget h) h')
    rwa [lay_lay (by rw [k.len h]; exact L.fits) (by rw [p.len h']; exact M.fits)] at h1

def Lens.fst (k : Kd α) (m : Kd β) : Lens (kpair k m) k where
  off := 0
  get := fun x => x.1
  set := fun x y => (y, x.2)
  fits := by show 0 + k.sz ≤ k.sz + m.sz; omega
  okget := by
    rintro w H x cs ⟨c1, c2, rfl, h1, h2⟩
    rw [List.drop_zero, List.take_append, List.take_of_length_le (by rw [k.len h1]; omega), k.len h1, Nat.sub_self, List.take_zero, List.append_nil]
    exact h1
  okset := by
    rintro w H x y cs c ⟨c1, c2, rfl, h1, h2⟩ h3
    refine ⟨c, c2, ?_, h3, h2⟩
    unfold lay
    rw [List.take_zero, List.nil_append, Nat.zero_add, List.drop_append, List.drop_of_length_le (by rw [k.len h1, k.len h3]; omega), k.len h3, k.len h1, Nat.sub_self]
    simp

def Lens.snd (k : Kd α) (m : Kd β) : Lens (kpair k m) m where
  off := k.sz
  get := fun x => x.2
  set := fun x y => (x.1, y)
  fits := by show k.sz + m.sz ≤ k.sz + m.sz; omega
  okget := by
    rintro w H x cs ⟨c1, c2, rfl, h1, h2⟩
    rw [List.drop_append, List.drop_of_length_le (by rw [k.len h1]; omega), k.len h1, Nat.sub_self, List.drop_zero, List.nil_append, List.take_of_length_le (by rw [m.len h2]; omega)]
    exact h2
  okset := by
    rintro w H x y cs c ⟨c1, c2, rfl, h1, h2⟩ h3
    refine ⟨c1, c, ?_, h1, h3⟩
    unfold lay
    rw [List.take_append, List.take_of_length_le (by rw [k.len h1]; omega), k.len h1, Nat.sub_self, List.take_zero, List.append_nil, List.drop_of_length_le (by simp [k.len h1, m.len h2, m.len h3])]
    simp

/-- A structure's own fields out of the nested pair's. -/
def Lens.iso {k : Kd β} {f : α → β} {p : Kd γ} (L : Lens k p) (get : α → γ) (set : α → γ → α) (hg : ∀ x, L.get (f x) = get x) (hs : ∀ x y, f (set x y) = L.set (f x) y) : Lens (kiso k f) p where
  off := L.off
  get := get
  set := set
  fits := L.fits
  okget := fun {w H x cs} h => by rw [← hg]; exact L.okget (k := k) (x := f x) h
  okset := fun {w H x y cs c} h h' => by show k.C w H (f (set x y)) _; rw [hs]; exact L.okset (x := f x) h h'

def Lens.idx (n : Nat) (k : Kd α) (i : Nat) (h : i < n) : Lens (karr n k) k where
  off := i * k.sz
  get := fun x => x[i]
  set := fun x y => x.set i y
  fits := by
    show i * k.sz + k.sz ≤ n * k.sz
    rw [← Nat.succ_mul]; exact Nat.mul_le_mul_right _ h
  okget := fun {w H x cs} hc => by
    have := Cells.get (k := k) (l := x.toList) hc i (by simpa using h)
    simpa using this
  okset := fun {w H x y cs c} hc hy => by
    have := Cells.set (k := k) (l := x.toList) hc i (by simpa using h) hy
    show Cells k w H (x.set i y).toList _
    simpa [Vector.toList_set] using this
end lenses
end Go.Wb
