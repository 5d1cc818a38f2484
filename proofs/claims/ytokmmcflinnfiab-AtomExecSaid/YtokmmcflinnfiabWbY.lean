/- WbY: a part of the proof. -/
import Derived.Test.YtokmmcflinnfiabWbF
import Derived.WalkKit
import Derived.ProofKit
import Derived.OpenShut
import Derived.Carry
import Derived.JoinedOf
set_option linter.unusedVariables false
set_option linter.unusedSimpArgs false
namespace Go.Wb
open Go

/-! ### What was read is a datum of a kind -/
/-- Of whatever the reader reads at a type, a kind's datum. -/
def Rdb {α : Type} (P : Program) (T : TypeId) (k : Kd α) : Prop :=
  ∀ (H : Type) (enc : TypeId × Value → H) (w : World) (fuel : Nat) (cs : List Value) (y : DataW H × List MemPlace), DataW.trod enc P w 0 (fun _ => true) true fuel T cs = some y → ∃ x, k.C w none_ x cs

section readers
variable {P : Program} {T E : TypeId} {α β γ : Type}
theorem rdb_bool (h : P.underlying T = some .bool) : Rdb P T kbool := by
  intro H enc w fuel cs y hy
  cases fuel with
  | zero => simp [DataW.trod] at hy
  | succ n =>
    unfold DataW.trod at hy
    rw [h] at hy
    match cs, hy with
    | [.bool b], _ => exact ⟨b, rfl⟩
theorem rdb_int {ik : IntKind} (h : P.underlying T = some (.int ik)) : Rdb P T (kint ik) := by
  intro H enc w fuel cs y hy
  cases fuel with
  | zero => simp [DataW.trod] at hy
  | succ n =>
    unfold DataW.trod at hy
    rw [h] at hy
    match cs, hy with
    | [.int k' n], hy =>
      simp only at hy
      split at hy
      · rename_i hc
        obtain ⟨rfl, hw⟩ := hc
        simp only [Lit.wf, Bool.and_eq_true, decide_eq_true_eq] at hw
        exact ⟨n, rfl, hw⟩
      · cases hy
theorem rdb_u64 (h : P.underlying T = some (.int .u64)) : Rdb P T ku64 := by
  intro H enc w fuel cs y hy
  obtain ⟨n, rfl, hn⟩ := rdb_int h H enc w fuel cs y hy
  refine ⟨BitVec.ofInt 64 n, ?_⟩
  show [Value.int .u64 n] = [Value.int .u64 ((BitVec.ofInt 64 n).toNat : Int)]
  have h1 : 0 ≤ n := by simpa [IntKind.min, IntKind.signed, IntKind.bits] using hn.1
  have h2 : n ≤ 18446744073709551615 := by simpa [IntKind.max, IntKind.signed, IntKind.bits] using hn.2
  have : ((BitVec.ofInt 64 n).toNat : Int) = n := by rw [BitVec.toNat_ofInt]; omega
  rw [this]
theorem rdb_str (h : P.underlying T = some .string) : Rdb P T kstr := by
  intro H enc w fuel cs y hy
  cases fuel with
  | zero => simp [DataW.trod] at hy
  | succ n =>
    unfold DataW.trod at hy
    rw [h] at hy
    match cs, hy with
    | [.string s], hy =>
      simp only at hy
      split at hy
      · rename_i hc
        exact ⟨s, rfl, by simpa [maxLen] using hc⟩
      · cases hy

theorem cells?_of {w : World} {a : Addr} {n : Nat} {cs : List Value} (h : w.cells? 0 a n = some cs) : cs.length = n ∧ ∀ (j : Nat) u, cs[j]? = some u → w.cell? (a.add j) = some u := by
  unfold World.cells? at h
  rw [if_pos (Nat.zero_le _)] at h
  have hl : cs.length = n := by simpa using mapM_some_length h
  refine ⟨hl, fun j u hu => ?_⟩
  have hj : j < n := by rw [← hl]; exact (List.getElem?_eq_some_iff.1 hu).1
  have key : ∀ (l : List Nat) (r : List Value), l.mapM (fun i => w.cell? (a.add i)) = some r → ∀ (j : Nat) i u, l[j]? = some i → r[j]? = some u → w.cell? (a.add i) = some u := by
    intro l
    induction l with
    | nil => intro r _ j i u hi; simp at hi
    | cons x l ih =>
      intro r hr j i u hi hu
      rw [List.mapM_cons] at hr
      simp only [Option.bind_eq_bind, Option.bind_eq_some_iff] at hr
      obtain ⟨y, hy, ys, hys, e⟩ := hr
      have e' : y :: ys = r := by simpa using e
      subst e'
      cases j with
      | zero => simp at hi hu; subst hi; subst hu; exact hy
      | succ j => exact ih ys hys j i u (by simpa using hi) (by simpa using hu)
  exact key _ _ h j j u (by simp [hj]) hu

theorem rdb_sl {k : Kd α} (h : P.underlying T = some (.slice E)) (hz : P.cellsOf E = k.sz) (hpos : Nat.blt 0 k.sz = true) (he : Rdb P E k) : Rdb P T (ksl k) := by
  intro H enc w fuel cs y hy
  have hpos' : 0 < k.sz := by simpa using hpos
  cases fuel with
  | zero => simp [DataW.trod] at hy
  | succ n =>
    unfold DataW.trod at hy
    rw [h] at hy
    match cs, hy with
    | [.slice none 0 0], hy => exact ⟨[], _, rfl, none, 0, rfl, Nat.le_refl _, by simp, fun h => absurd h (by simp)⟩
    | [.slice none 0 (c + 1)], hy => simp at hy
    | [.slice none (l + 1) c], hy => simp at hy
    | [.slice (some a) len cap], hy =>
      simp only at hy
      split at hy
      · rename_i hc
        obtain ⟨_, hlc, hcm⟩ := hc
        simp only [Option.map_eq_some_iff, Option.bind_eq_some_iff] at hy
        obtain ⟨elems, hel, _⟩ := hy
        have hone : ∀ i, i < len → ∃ cs z, w.cells? 0 (a.add (i * k.sz)) k.sz = some cs ∧ DataW.trod enc P w 0 (fun _ => true) true n E cs = some z := by
          have key : ∀ (l : List Nat) (r : List (DataW H × List MemPlace)), l.mapM (fun i => (w.cells? 0 (a.add (i * P.cellsOf E)) (P.cellsOf E)).bind (DataW.trod enc P w 0 (fun _ => true) true n E)) = some r → ∀ i ∈ l, ∃ z, (w.cells? 0 (a.add (i * P.cellsOf E)) (P.cellsOf E)).bind (DataW.trod enc P w 0 (fun _ => true) true n E) = some z := by
            intro l
            induction l with
            | nil => intro r _ i hi; cases hi
            | cons x l ih =>
              intro r hr i hi
              rw [List.mapM_cons] at hr
              simp only [Option.bind_eq_bind] at hr
              obtain ⟨y, hy, hr⟩ := Option.bind_eq_some_iff.1 hr
              obtain ⟨ys, hys, _⟩ := Option.bind_eq_some_iff.1 hr
              rcases List.mem_cons.1 hi with rfl | hi
              · exact ⟨y, hy⟩
              · exact ih ys hys i hi
          intro i hi
          obtain ⟨z, hz'⟩ := key _ _ hel i (List.mem_range.2 hi)
          obtain ⟨cs, h1, h2⟩ := Option.bind_eq_some_iff.1 hz'
          rw [hz] at h1
          exact ⟨cs, z, h1, h2⟩
        by_cases h0 : len = 0
        · subst h0
          exact ⟨[], _, rfl, some a, cap, rfl, Nat.zero_le _, by simpa [maxLen] using hcm, fun h => absurd h (by simp)⟩
        · obtain ⟨cs0, z0, hc0, _⟩ := hone 0 (by omega)
          obtain ⟨hl0, hg0⟩ := cells?_of hc0
          have hspot : a.spot = none ∧ a.block < w.heap.size := by
            obtain ⟨u, hu⟩ : ∃ u, cs0[0]? = some u := ⟨cs0[0], List.getElem?_eq_getElem (by omega)⟩
            have := hg0 0 u hu
            have e0 : (a.add (0 * k.sz)).add 0 = a := by simp [Addr.add]
            rw [e0] at this
            unfold World.cell? at this
            split at this
            · rename_i hb
              refine ⟨?_, (Array.getElem?_eq_some_iff.1 hb).1⟩
              cases hs : a.spot with
              | none => rfl
              | some s => rw [hs] at this; simp at this
            · cases this
          have hadd : ∀ i j, (a.add (i * k.sz)).add j = ⟨a.block, a.off + i * k.sz + j, none⟩ := fun i j => by
            obtain ⟨ab, ao, asp⟩ := a
            have hsp : asp = none := hspot.1
            subst hsp
            unfold Addr.add
            by_cases h1 : i * k.sz = 0 <;> by_cases h2 : j = 0 <;> simp [h1, h2]
          have build : ∀ m, m ≤ len → ∃ l cl, l.length = m ∧ Cells k w none_ l cl ∧ At w a.block a.off cl := by
            intro m
            induction m with
            | zero => intro _; exact ⟨[], [], rfl, rfl, fun j u hu => by simp at hu⟩
            | succ m ih =>
              intro hm
              obtain ⟨l, cl, hl, hcl, hat⟩ := ih (by omega)
              obtain ⟨cs, z, hc, htr⟩ := hone m (by omega)
              obtain ⟨hlen, hg⟩ := cells?_of hc
              obtain ⟨x, hx⟩ := he H enc w n cs z htr
              have hcll := hcl.len
              refine ⟨l ++ [x], cl ++ cs, by simp [hl], hcl.append (Cells.single hx), fun j u hu => ?_⟩
              rw [List.getElem?_append] at hu
              split at hu
              · exact hat j u hu
              · rename_i hj
                have h5 := hg _ _ hu
                rw [hadd] at h5
                have e : a.off + m * k.sz + (j - cl.length) = a.off + j := by rw [hcll, hl] at hj ⊢; omega
                rwa [e] at h5
          obtain ⟨l, cl, hl, hcl, hat⟩ := build len (Nat.le_refl _)
          subst hl
          refine ⟨l, _, rfl, some a, cap, rfl, hlc, by simpa [maxLen] using hcm, fun _ => ⟨a.block, a.off, cl, ?_, hspot.2, fun h => h, hcl, hat⟩⟩
          obtain ⟨ab, ao, asp⟩ := a
          have hsp : asp = none := hspot.1
          subst hsp
          rfl
      · cases hy

/-- A structure's fields: types and places. -/
def stF (P : Program) (T : TypeId) : Option (List (TypeId × Nat)) := match P.underlying T with
  | some (.struct fs) => some (fs.toList.map fun f => (f.type, f.offset))
  | _ => none
def FRd {α : Type} (P : Program) (l : List (TypeId × Nat)) (o : Nat) (k : Kd α) : Prop :=
  ∀ (H : Type) (enc : TypeId × Value → H) (w : World) (fuel : Nat) (cs : List Value), (∀ p ∈ l, ∃ y, DataW.trod enc P w 0 (fun _ => true) true fuel p.1 ((cs.drop p.2).take (P.cellsOf p.1)) = some y) → cs.length = o + k.sz → ∃ x, k.C w none_ x (cs.drop o)
theorem frd_one {t : TypeId} {o : Nat} {k : Kd α} (h : Rdb P t k) (hz : P.cellsOf t = k.sz) : FRd P [(t, o)] o k := by
  intro H enc w fuel cs hl hlen
  obtain ⟨y, hy⟩ := hl (t, o) (by simp)
  simp only at hy
  rw [hz, List.take_of_length_le (by rw [List.length_drop]; omega)] at hy
  exact h H enc w fuel _ y hy
theorem frd_cons {t : TypeId} {o : Nat} {l : List (TypeId × Nat)} {k : Kd α} {m : Kd β} (h : Rdb P t k) (hz : P.cellsOf t = k.sz) (hr : FRd P l (o + k.sz) m) : FRd P ((t, o) :: l) o (kpair k m) := by
  intro H enc w fuel cs hl hlen
  obtain ⟨y, hy⟩ := hl (t, o) (by simp)
  simp only at hy
  rw [hz] at hy
  obtain ⟨x1, h1⟩ := h H enc w fuel _ y hy
  obtain ⟨x2, h2⟩ := hr H enc w fuel cs (fun p hp => hl p (by simp [hp])) (by rw [hlen]; show o + (k.sz + m.sz) = _; omega)
  refine ⟨(x1, x2), (cs.drop o).take k.sz, cs.drop (o + k.sz), ?_, h1, h2⟩
  rw [← List.drop_drop, List.take_append_drop]
theorem frd_nil {o : Nat} : FRd P [] o kunit := fun H enc w fuel cs _ hlen => ⟨(), by
  show cs.drop o = []
  rw [List.drop_of_length_le]
  have : kunit.sz = 0 := rfl
  omega⟩
theorem rdb_st {l : List (TypeId × Nat)} {k : Kd β} {f : α → β} (g : β → α) (hs : stF P T = some l) (hz : P.cellsOf T = k.sz) (hg : ∀ y, f (g y) = y) (hf : FRd P l 0 k) : Rdb P T (kiso k f) := by
  intro H enc w fuel cs y hy
  unfold stF at hs
  split at hs
  · rename_i fs hu
    cases fuel with
    | zero => simp [DataW.trod] at hy
    | succ n =>
      unfold DataW.trod at hy
      rw [hu] at hy
      simp only at hy
      split at hy
      · rename_i hlen
        obtain ⟨xs, hx, _⟩ := Option.map_eq_some_iff.1 hy
        have key : ∀ (l : List Field) (r : List (DataW H × List MemPlace)), l.mapM (fun f => DataW.trod enc P w 0 (fun _ => true) true n f.type ((cs.drop f.offset).take (P.cellsOf f.type))) = some r → ∀ f ∈ l, ∃ z, DataW.trod enc P w 0 (fun _ => true) true n f.type ((cs.drop f.offset).take (P.cellsOf f.type)) = some z := by
          intro l
          induction l with
          | nil => intro r _ i hi; cases hi
          | cons x l ih =>
            intro r hr i hi
            rw [List.mapM_cons] at hr
            simp only [Option.bind_eq_bind] at hr
            obtain ⟨y, hy, hr⟩ := Option.bind_eq_some_iff.1 hr
            obtain ⟨ys, hys, _⟩ := Option.bind_eq_some_iff.1 hr
            rcases List.mem_cons.1 hi with rfl | hi
            · exact ⟨y, hy⟩
            · exact ih ys hys i hi
        have hs' := Option.some.inj hs
        obtain ⟨x, hx'⟩ := hf H enc w n cs (fun p hp => by
          rw [← hs'] at hp
          obtain ⟨f, hf, rfl⟩ := List.mem_map.1 hp
          exact key _ _ hx f hf) (by rw [hlen, hz]; omega)
        exact ⟨g x, by show k.C w none_ (f (g x)) cs; rw [hg]; simpa using hx'⟩
      · cases hy
  · cases hs
theorem rdb_arr {n : Nat} {k : Kd α} (h : P.underlying T = some (.array n E)) (hz : P.cellsOf E = k.sz) (hT : P.cellsOf T = n * k.sz) (he : Rdb P E k) : Rdb P T (karr n k) := by
  intro H enc w fuel cs y hy
  cases fuel with
  | zero => simp [DataW.trod] at hy
  | succ m =>
    unfold DataW.trod at hy
    rw [h] at hy
    simp only at hy
    split at hy
    · rename_i hlen
      obtain ⟨xs, hx, _⟩ := Option.map_eq_some_iff.1 hy
      have key : ∀ (l : List Nat) (r : List (DataW H × List MemPlace)), l.mapM (fun i => DataW.trod enc P w 0 (fun _ => true) true m E ((cs.drop (i * P.cellsOf E)).take (P.cellsOf E))) = some r → ∀ f ∈ l, ∃ z, DataW.trod enc P w 0 (fun _ => true) true m E ((cs.drop (f * P.cellsOf E)).take (P.cellsOf E)) = some z := by
        intro l
        induction l with
        | nil => intro r _ i hi; cases hi
        | cons x l ih =>
          intro r hr i hi
          rw [List.mapM_cons] at hr
          simp only [Option.bind_eq_bind] at hr
          obtain ⟨y, hy, hr⟩ := Option.bind_eq_some_iff.1 hr
          obtain ⟨ys, hys, _⟩ := Option.bind_eq_some_iff.1 hr
          rcases List.mem_cons.1 hi with rfl | hi
          · exact ⟨y, hy⟩
          · exact ih ys hys i hi
      have build : ∀ j, j ≤ n → ∃ l : List α, l.length = j ∧ Cells k w none_ l (cs.take (j * k.sz)) := by
        intro j
        induction j with
        | zero => intro _; exact ⟨[], rfl, by simp [Cells]⟩
        | succ j ih =>
          intro hj
          obtain ⟨l, hl, hc⟩ := ih (by omega)
          obtain ⟨z, hz'⟩ := key _ _ hx j (List.mem_range.2 (by omega))
          rw [hz] at hz'
          obtain ⟨x, hx'⟩ := he H enc w m _ z hz'
          refine ⟨l ++ [x], by simp [hl], ?_⟩
          have := hc.append (Cells.single hx')
          rwa [← List.take_add, ← Nat.succ_mul] at this
      obtain ⟨l, hl, hc⟩ := build n (Nat.le_refl _)
      rw [List.take_of_length_le (by rw [hlen, hT]; exact Nat.le_refl _)] at hc
      refine ⟨⟨l.toArray, by simpa using hl⟩, ?_⟩
      show Cells k w none_ (Vector.toList ⟨l.toArray, _⟩) cs
      simpa using hc
    · cases hy

theorem Rdb.val {k : Kd α} {H : Type} {enc : TypeId × Value → H} {W : World} {base : Nat} {v : Value} {d : DataW H} {ps : List MemPlace} (h : Rdb P T k) (ht : Ty P T k) (hok : Value.okWide P W .any base T v) (hd : DataW.Trod enc P W 0 (fun _ => true) true T v d ps) : ∃ x, (rd k x).R W none_ none_ v := by
  obtain ⟨n, hn⟩ := hd
  obtain ⟨x, hx⟩ := h H enc W n _ _ hn
  obtain ⟨i, ds, _, hu, ha, _⟩ := ht.out
  refine ⟨x, _, hx, ?_⟩
  unfold Value.okWide at hok
  rw [hu] at hok
  cases hk : k.agg with
  | true =>
    rw [hk] at ha
    cases ds <;> simp [isAggD] at ha <;> (obtain ⟨cs, rfl, _⟩ := hok; simp [mkv, Value.cells])
  | false =>
    rw [hk] at ha
    have hna : ∀ cs, v ≠ .agg cs := by
      rintro cs rfl
      cases ds <;> simp [isAggD] at ha <;> simp [Cell.okWide, Cell.ok, hu] at hok
    cases v <;> first | exact absurd rfl (hna _) | simp [mkv, Value.cells]
end readers

/-! ### Behind the call -/
section row
open Go.ChangeShapes Go.WideShapes Go.ChangeAt Go.RowKit
variable {H : Type} {enc : TypeId × Value → H} {P : Program} {W W' : World}
theorem Fin.sameAt (h : Fin W none_ W' none_) {p : MemPlace} (hp : p.block < W.heap.size) : W.sameAt W' p := by
  have e := h.same p.block hp (fun h => h)
  cases p with
  | cell b o => simp only [MemPlace.block] at e; simp [World.sameAt, World.cell?, e]
  | map b => simp only [MemPlace.block] at e; simp [World.sameAt, e]
theorem Fin.kept (h : Fin W none_ W' none_) (may : MemPlace → Prop) : W.keptBut W' may := by
  refine ⟨h.os, h.output, fun i hi => ?_⟩
  have := (World.keptBut_refl W may).2.2 i hi
  rw [h.same i hi (fun h => h)]
  exact this
theorem trod_again {ts : List TypeId} {vs : List Value} {ds : List (DataW H)} {ps : List MemPlace} {sp : Nat → Bool} (hl : laidOutB P = true) (hT : (ts.all fun t => P.readableRec t && decide (t < P.types.size)) = true) (h : DataW.TrodAll enc P W 0 (fun _ => true) true ts vs ds ps)
    (hf : Fin W none_ W' none_) (hlt : ∀ p ∈ ps, p.block < W.heap.size) (hs : ∀ p ∈ ps, sp p.block = true) : DataW.TrodAll enc P W' 0 sp true ts vs ds ps := by
  induction ts generalizing vs ds ps with
  | nil => cases vs <;> cases ds <;> first | exact h | exact h.elim
  | cons t ts ih =>
    cases vs with
    | nil => exact h.elim
    | cons v vs =>
      cases ds with
      | nil => exact h.elim
      | cons d ds =>
        obtain ⟨p, q, h1, h2, rfl⟩ := h
        simp only [List.all_cons, Bool.and_eq_true, decide_eq_true_eq] at hT
        exact ⟨p, q, WideElems.Trod_stays hl hT.1.1 hT.1.2 h1 (fun x hx => hf.sameAt (hlt x (by simp [hx]))) (fun x hx => hs x (by simp [hx])), ih hT.2 h2 (fun x hx => hlt x (by simp [hx])) (fun x hx => hs x (by simp [hx])), rfl⟩

/-- A law's row: it returned true, and nothing that was there has turned. -/
theorem law_post {fn : Func} {s : ChangeSpec} {apart fresh handsOn again : Bool} {args : Array Value} {ds : List (DataW H)} {before : List MemPlace} {tb : TypeId} (hl : laidOutB P = true) (hT : (fn.params.toList.all fun t => P.readableRec t && decide (t < P.types.size)) = true)
    (hv : s.vars = []) (hr : fn.resultTypes = #[tb]) (hb : P.underlying tb = some .bool) (hW : DataW.Whole enc P fn.params.toList s.vars apart W args.toList ds [] before) (hfn : s.fn H (ds ++ []) = { results := [.lit (.bool true)], args := ds }) (hf : Fin W none_ W' none_) :
    s.post enc P fn apart fresh handsOn again W args (.bool true) W' := by
  have hlt := hW.lt
  have hW0 := hW
  obtain ⟨p, q, hA, hV, hps, hz, hn⟩ := hW
  rw [hv] at hV
  obtain ⟨_, rfl⟩ := trodVars_none hV
  have hpp : before = p := by simpa using hps
  subst hpp
  have hres : ∀ b sp hd, DataW.TrodAll enc P W' b sp hd fn.resultTypes.toList ((Value.bool true).resultList fn.resultTypes.size) (s.fn H (ds ++ [])).results [] := fun b sp hd => by
    rw [hr, hfn]
    exact trodAll_mk1 (shut_bool hb true)
  have hargs : ∀ sp : Nat → Bool, (∀ x ∈ before, sp x.block = true) → DataW.TrodAll enc P W' 0 sp true fn.params.toList args.toList (s.fn H (ds ++ [])).args before := fun sp hs => by
    rw [hfn]
    exact trod_again hl hT hA hf hlt hs
  have hvars : ∀ sp, DataW.TrodVars enc P W' sp s.vars (s.fn H (ds ++ [])).vars [] := fun sp => by rw [hv, hfn]; rfl
  have hfz : ∀ b off, MemPlace.cell b off ∈ before → W'.frozen? ⟨b, off, none⟩ = false := fun b off hb => by
    have h1 := hz b off (by simpa using hb)
    have h2 := hf.same b (hlt _ hb) (fun h => h)
    unfold World.frozen? at h1 ⊢
    simp only [h2]
    exact h1
  refine ⟨ds, [], before, [], before, [], hW0, hres _ _ _, hargs _ (fun x hx => by simpa using hlt x hx), hvars _, hf.kept _, fun _ => ?_⟩
  refine ⟨?_, _, _, ([] ++ before) ++ [], ⟨[] ++ before, [], trodAll_append (hargs _ (fun _ _ => rfl)) (hres _ _ _), hvars _, rfl, fun b off hp => hfz b off (by simpa using hp), fun ha => ?_⟩, fun x hx _ => by simpa using hx⟩
  · exact Go.RowKit.ok_one hr rfl (okWide_bool_mk hb _)
  · have := hn ha
    simpa using this
end row
end Go.Wb
