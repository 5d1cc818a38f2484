/- LawD: a part of the proof. -/
import Derived.Test.YtokmmcflinnfiaaLawW
import Derived.Test.YtokmmcflinnfiaaWbXC
set_option linter.unusedVariables false
set_option linter.unusedSimpArgs false
namespace Go.Proofs.Ytokmmcflinnfiaa.W
open Go Go.Wb

/-! ### terns and cubes -/
abbrev Cube := Vector Tern 24
abbrev Header := Vector Wide 24
def tclean (t : Tern) : Tern := ⟨wand t.Value t.Mask, t.Mask⟩
theorem F119_eq (t : Tern) : F119 t = some (tclean t) := rfl
theorem F128_eq (t : Tern) : F128 t = some (tclean t) := rfl
def cclean (c : Cube) : Cube := Vector.ofFn fun i => tclean (ve c i.1)
theorem ve_cclean (c : Cube) (i : Nat) (h : i < 24) : ve (cclean c) i = tclean (ve c i) := ve_ofFn (fun i => tclean (ve c i)) i h
theorem F117_l1_eq (f : Int → Option (Tern × Bool)) (g : Nat → Tern) (hf : ∀ i : Nat, i < 24 → f (i : Int) = some (g i, true)) (b : Cube) : ∀ (m i : Nat), i + m = 24 → F117_l1 f m i (upto g b i) = some (Vector.ofFn (fun i => g i.1), true)
  | 0, i, h => by
    have : i = 24 := by omega
    subst this
    rw [F117_l1, upto_all]
  | m + 1, i, h => by
    rw [F117_l1, hf i (by omega), Option.bind_some, Bool.not_true, cond_false, chk_nat (by omega), Option.bind_some]
    show F117_l1 f m (i + 1) (Vector.set (upto g b i) i (g i) _) = _
    rw [upto_set g b i (by omega), F117_l1_eq f g hf b m (i + 1) (by omega)]
theorem F79_eq (c : Cube) : F79 c = some (cclean c) := by
  unfold F79 F117
  have := F117_l1_eq (fun x => F118 x c) (fun i => tclean (ve c i)) (fun i hi => by unfold F118; rw [chk_nat hi, Option.bind_some, vget_eq, F119_eq]; rfl) (Vector.replicate 24 zTern) 24 0 rfl
  rw [upto_zero] at this
  rw [show ((24 : Int)).toNat = 24 from rfl, this]
  rfl
theorem F83_l1_eq (c : Cube) : ∀ (m i : Nat), i ≤ 24 → 24 < i + m → F83_l1 m (upto (fun i => tclean (ve c i)) c i) (i : Int) = some (cclean c)
  | 0, i, h1, h2 => by omega
  | m + 1, i, h1, h2 => by
    rw [F83_l1]
    by_cases h : i < 24
    · have e : IntKind.i64.wrap ((i : Int) + 1) = ((i + 1 : Nat) : Int) := by rw [wrap_i64 (by omega) (by omega)]; omega
      rw [decide_eq_true (by omega), cond_true, chk_nat h, Option.bind_some, F128_eq, Option.bind_some, Option.bind_some, vget_eq, ve_upto _ _ _ _ h, if_neg (by omega), e]
      show F83_l1 m (Vector.set (upto (fun i => tclean (ve c i)) c i) i (tclean (ve c i)) _) _ = _
      rw [upto_set (fun i => tclean (ve c i)) c i h, F83_l1_eq c m (i + 1) (by omega) (by omega)]
    · have : i = 24 := by omega
      subst this
      rw [decide_eq_false (by omega), cond_false, upto_all]; rfl
theorem F83_eq (c : Cube) : F83 c = some (cclean c) := by
  unfold F83
  have := F83_l1_eq c (((24 : Int) - 0).toNat + 1) 0 (by omega) (by decide)
  rw [upto_zero] at this
  exact this

/-! ### unlike -/
def bad2 (x y : Tern) : Bool := !wzero (wand (wand x.Mask y.Mask) (wxor x.Value y.Value))
def apart (a b : Atom) : Bool := !(a.Group == b.Group) || decide (a.Port ≠ b.Port) || decide (a.Max ≠ b.Max) || (List.range' 0 24).any fun f => bad2 (ve a.Rewrite f) (ve b.Rewrite f)
theorem F90_l1_eq (a b : Atom) : ∀ (m i : Nat), i + m = 24 → F90_l1 a b m i = some ((List.range' i m).any fun f => bad2 (ve a.Rewrite f) (ve b.Rewrite f))
  | 0, i, h => by rw [F90_l1]; rfl
  | m + 1, i, h => by
    rw [F90_l1, chk_nat (by omega), Option.bind_some, Option.bind_some, vget_eq, vget_eq]
    show ((F135 _ _).bind _) = _
    unfold F135
    rw [F124_eq, Option.bind_some, F121_eq, Option.bind_some, F124_eq, Option.bind_some, Option.bind_some, F122_eq, Option.bind_some, List.range'_succ, List.any_cons]
    show (bif bad2 _ _ then _ else _) = _
    cases bad2 (ve a.Rewrite i) (ve b.Rewrite i)
    · rw [cond_false, F90_l1_eq a b m (i + 1) (by omega), Bool.false_or]
    · rw [cond_true, Bool.true_or]
theorem F90_eq (a b : Atom) : F90 a b = some (apart a b) := by
  unfold F90 apart
  rw [show ((24 : Int)).toNat = 24 from rfl, F90_l1_eq a b 24 0 rfl]
  cases (!(a.Group == b.Group) || decide (a.Port ≠ b.Port) || decide (a.Max ≠ b.Max)) <;> rfl
def likeL (a b : List Atom) : Bool := (a.zip b).all fun p => !apart p.1 p.2
def unl (a b : List Atom) : Bool := !(decide (a.length = b.length) && likeL a b)
theorem F88_l1_eq (t : List Atom) : ∀ (s : List Atom) (i : Nat), i + s.length = t.length → F88_l1 t F89 s i = some (likeL s (t.drop i))
  | [], i, h => by rw [F88_l1]; rfl
  | x :: s, i, h => by
    simp only [List.length_cons] at h
    have hi : i < t.length := by omega
    rw [F88_l1, lget_lt hi, Option.bind_some, List.drop_eq_getElem_cons hi]
    unfold F89
    rw [F90_eq, Option.bind_some, Option.bind_some, Bool.not_not]
    unfold likeL
    rw [List.zip_cons_cons, List.all_cons]
    have ih := F88_l1_eq t s (i + 1) (by omega)
    unfold likeL F89 at ih
    cases apart x t[i]
    · rw [cond_false, ih]; rfl
    · rw [cond_true]; rfl
theorem F39_eq (a b : List Atom) : F39 a b = some (unl a b) := by
  unfold F39 F88 unl
  by_cases hl : a.length = b.length
  · rw [decide_eq_false (by omega), cond_false, F88_l1_eq b a 0 (by omega), Option.bind_some, decide_eq_true hl, Bool.true_and]
    rfl
  · rw [decide_eq_true (by omega), cond_true, Option.bind_some, decide_eq_false hl]; rfl
theorem F91_2 (x y : Tern) : ∃ t, F91 x y = some (t, !bad2 x y) := by
  unfold F91 bad2
  have hc : wand (wxor x.Value y.Value) (wand x.Mask y.Mask) = wand (wand x.Mask y.Mask) (wxor x.Value y.Value) := wt_ext fun i hi => by
    simp only [wt_and]; rw [Bool.and_comm]
  rw [F130_eq, Option.bind_some, F136_eq, Option.bind_some, F130_eq, Option.bind_some, F129_eq, Option.bind_some, hc]
  cases wzero (wand (wand x.Mask y.Mask) (wxor x.Value y.Value))
  · exact ⟨_, rfl⟩
  · rw [Bool.not_true, cond_false, F128_eq, Option.bind_some, F128_eq, Option.bind_some, F132_eq, Option.bind_some, F132_eq, Option.bind_some]
    exact ⟨_, rfl⟩
theorem F40_l2_eq (a b : List Atom) (i : Nat) (ha : i < a.length) (hb : i < b.length) (hs : a.length ≤ 12) (go : Int → Option Bool) : ∀ (m f : Nat), f ≤ 24 → 24 < f + m →
    F40_l2 a (i : Int) b go m (f : Int) = bif (List.range' f (24 - f)).any (fun f => bad2 (ve a[i].Rewrite f) (ve b[i].Rewrite f)) then some true else go ((i + 1 : Nat) : Int)
  | 0, f, h1, h2 => by omega
  | m + 1, f, h1, h2 => by
    rw [F40_l2]
    by_cases h : f < 24
    · have e : IntKind.i64.wrap ((f : Int) + 1) = ((f + 1 : Nat) : Int) := by rw [wrap_i64 (by omega) (by omega)]; omega
      obtain ⟨t, ht⟩ := F91_2 (ve a[i].Rewrite f) (ve b[i].Rewrite f)
      have : 24 - f = (24 - (f + 1)) + 1 := by omega
      rw [decide_eq_true (by omega), cond_true, lget_lt ha, Option.bind_some, chk_nat h, Option.bind_some, lget_lt hb, Option.bind_some, Option.bind_some, vget_eq, vget_eq, ht, Option.bind_some, Bool.not_not, e, this, List.range'_succ, List.any_cons]
      cases bad2 (ve a[i].Rewrite f) (ve b[i].Rewrite f)
      · rw [cond_false, F40_l2_eq a b i ha hb hs go m (f + 1) (by omega) (by omega), Bool.false_or]
      · rw [cond_true, Bool.true_or, cond_true]
    · have : 24 - f = 0 := by omega
      have e : IntKind.i64.wrap ((i : Int) + 1) = ((i + 1 : Nat) : Int) := by rw [wrap_i64 (by omega) (by omega)]; omega
      rw [decide_eq_false (by omega), cond_false, this, e]; rfl
theorem F40_l1_eq (a b : List Atom) (hl : a.length = b.length) (hs : a.length ≤ 12) : ∀ (m i : Nat), i ≤ a.length → a.length < i + m → F40_l1 a b m (i : Int) = some (!likeL (a.drop i) (b.drop i))
  | 0, i, h1, h2 => by omega
  | m + 1, i, h1, h2 => by
    rw [F40_l1]
    by_cases h : i < a.length
    · have hb : i < b.length := by omega
      rw [decide_eq_true (by omega), cond_true, lget_lt h, Option.bind_some, lget_lt hb, Option.bind_some]
      have hx : ∀ (c : Bool) (x : Atom), ∃ y : Atom, opt c (some x) = some y ∧ (c = true → y = x) := fun c x => by
        cases c
        · exact ⟨_, rfl, fun h => by cases h⟩
        · exact ⟨_, rfl, fun _ => rfl⟩
      obtain ⟨y1, hy1, hc1⟩ := hx (!(!(a[i].Group == b[i].Group))) a[i]
      obtain ⟨y2, hy2, hc2⟩ := hx (!(!(a[i].Group == b[i].Group))) b[i]
      rw [hy1, Option.bind_some, hy2, Option.bind_some]
      obtain ⟨y3, hy3, hc3⟩ := hx (!((!(a[i].Group == b[i].Group)) || (decide (y1.Port ≠ y2.Port)))) a[i]
      obtain ⟨y4, hy4, hc4⟩ := hx (!((!(a[i].Group == b[i].Group)) || (decide (y1.Port ≠ y2.Port)))) b[i]
      rw [hy3, Option.bind_some, hy4, Option.bind_some]
      have hcond : (((!(a[i].Group == b[i].Group)) || (decide (y1.Port ≠ y2.Port))) || (decide (y3.Max ≠ y4.Max))) = (!(a[i].Group == b[i].Group) || decide (a[i].Port ≠ b[i].Port) || decide (a[i].Max ≠ b[i].Max)) := by
        cases hg : (a[i].Group == b[i].Group)
        · rfl
        · rw [hg] at hc1 hc2 hc3 hc4
          rw [hc1 rfl, hc2 rfl] at hc3 hc4 ⊢
          cases hp : decide (a[i].Port ≠ b[i].Port)
          · rw [hp] at hc3 hc4
            rw [hc3 rfl, hc4 rfl]
          · rfl
      rw [hcond, List.drop_eq_getElem_cons h, List.drop_eq_getElem_cons hb]
      have h2 := F40_l2_eq a b i h hb hs (F40_l1 a b m) (((24 : Int) - 0).toNat + 1) 0 (by omega) (by decide)
      rw [show ((0 : Nat) : Int) = 0 from rfl] at h2
      rw [h2, F40_l1_eq a b hl hs m (i + 1) (by omega) (by omega)]
      unfold likeL
      rw [List.zip_cons_cons, List.all_cons]
      show _ = some (!(!apart a[i] b[i] && _))
      have hap : apart a[i] b[i] = ((!(a[i].Group == b[i].Group) || decide (a[i].Port ≠ b[i].Port) || decide (a[i].Max ≠ b[i].Max)) || (List.range' 0 24).any fun f => bad2 (ve a[i].Rewrite f) (ve b[i].Rewrite f)) := rfl
      rw [hap]
      cases (!(a[i].Group == b[i].Group) || decide (a[i].Port ≠ b[i].Port) || decide (a[i].Max ≠ b[i].Max))
      · rw [cond_false, Bool.false_or]
        show (bif (List.range' 0 24).any _ then _ else _) = _
        cases (List.range' 0 24).any fun f => bad2 (ve a[i].Rewrite f) (ve b[i].Rewrite f) <;> rfl
      · rfl
    · have : i = a.length := by omega
      rw [decide_eq_false (by omega), cond_false, List.drop_of_length_le (by omega)]
      rfl
theorem F40_eq (a b : List Atom) (hs : a.length ≤ 12) : F40 a b = some (unl a b) := by
  unfold F40 unl
  by_cases hl : a.length = b.length
  · have := F40_l1_eq a b hl hs ((((a.length : Int) : Int) - 0).toNat + 1) 0 (by omega) (by omega)
    rw [decide_eq_false (by omega), cond_false, decide_eq_true hl, Bool.true_and]
    simpa using this
  · rw [decide_eq_true (by omega), cond_true, decide_eq_false hl]; rfl

/-! ### single bits -/
def oneOf (x y : Tern) : Wide := wxor x.Mask y.Mask
def valOf (x y : Tern) : Wide := wor (wand x.Value x.Mask) (wand y.Value y.Mask)
def singlesAt (a b : Atom) (f : Nat) : List differ_single := (bitsDn (oneOf (ve a.Rewrite f) (ve b.Rewrite f)) 128).map fun bit => ⟨(f : Int), bit, wt (valOf (ve a.Rewrite f) (ve b.Rewrite f)) bit.toNat⟩
def singlesOf (p : Atom × Atom) : List differ_single := (List.range' 0 24).flatMap (singlesAt p.1 p.2)
def singles (a b : List Atom) : List differ_single := (a.zip b).flatMap singlesOf
theorem F120_l3_eq {σ : Type} (go : Nat → Lp σ → Option (Lp σ)) (f : Nat) (v : Wide) (y : σ → differ_single → Option (Lp σ)) : ∀ (l : List Int) (i : Nat) (s : σ), (∀ x ∈ l, ∃ k : Nat, x = (k : Int) ∧ k < 128) →
    F120_l3 σ go f v y l i (.go s) = (yf y (l.map fun bit => (⟨(f : Int), bit, wt v bit.toNat⟩ : differ_single)) s).bind fun r => yb r fun s' => go (f + 1) (.go s')
  | [], i, s, _ => by rw [F120_l3]; rfl
  | x :: l, i, s, h => by
    obtain ⟨k, rfl, hk⟩ := h x (by simp)
    rw [F120_l3, F81_eq v k hk, Option.bind_some]
    show ((y s _).bind _) = _
    rw [List.map_cons, yf]
    show ((y s ⟨(f : Int), (k : Int), wt v k⟩).bind _) = (((y s ⟨(f : Int), (k : Int), wt v ((k : Int)).toNat⟩).bind _).bind _)
    rw [show ((k : Int)).toNat = k from Int.toNat_natCast k]
    cases y s ⟨(f : Int), (k : Int), wt v k⟩ with
    | none => rfl
    | some r =>
      cases r with
      | go s' => exact F120_l3_eq go f v y l (i + 1) s' fun x hx => h x (by simp [hx])
      | out c s' => rfl
theorem F120_l2_eq {σ : Type} (go : Nat → Lp σ → Option (Lp σ)) (a b : List Atom) (i : Nat) (ha : i < a.length) (hb : i < b.length) (y : σ → differ_single → Option (Lp σ)) : ∀ (m f : Nat) (s : σ), f + m = 24 →
    F120_l2 σ go i a b y m f (.go s) = (yf y ((List.range' f m).flatMap (singlesAt a[i] b[i])) s).bind fun r => yb r fun s' => go (i + 1) (.go s')
  | 0, f, s, h => by rw [F120_l2]; rfl
  | m + 1, f, s, h => by
    rw [F120_l2, lget_lt ha, Option.bind_some, chk_nat (by omega), Option.bind_some, lget_lt hb, Option.bind_some, Option.bind_some, vget_eq, vget_eq, F121_eq, Option.bind_some, F122_eq, Option.bind_some, List.range'_succ, List.flatMap_cons, yf_append]
    have ih := fun s => F120_l2_eq go a b i ha hb y m (f + 1) s (by omega)
    cases hz : wzero (wxor (ve a[i].Rewrite f).Mask (ve b[i].Rewrite f).Mask)
    · rw [cond_false, F124_eq, Option.bind_some, F124_eq, Option.bind_some, F123_eq, Option.bind_some, F125_eq, Option.bind_some, F120_l3_eq]
      · show ((yf y (singlesAt a[i] b[i] f) s).bind _) = _
        cases yf y (singlesAt a[i] b[i] f) s with
        | none => rfl
        | some r =>
          cases r with
          | go s' => exact ih s'
          | out c s' => rfl
      · intro x hx
        obtain ⟨k, h1, h2, _⟩ := (bitsDn_mem _ _ _).1 hx
        exact ⟨k, h1, h2⟩
    · have : singlesAt a[i] b[i] f = [] := by
        unfold singlesAt
        rw [List.map_eq_nil_iff]
        apply List.eq_nil_iff_forall_not_mem.2
        intro x hx
        obtain ⟨k, _, h2, h3⟩ := (bitsDn_mem _ _ _).1 hx
        have := (wzero_iff _).1 hz k h2
        rw [show oneOf (ve a[i].Rewrite f) (ve b[i].Rewrite f) = wxor (ve a[i].Rewrite f).Mask (ve b[i].Rewrite f).Mask from rfl, this] at h3
        cases h3
      rw [cond_true, this]
      exact ih s
theorem F120_l1_eq {σ : Type} (a b : List Atom) (hl : a.length = b.length) (y : σ → differ_single → Option (Lp σ)) : ∀ (m i : Nat) (s : σ), i + m = a.length →
    F120_l1 σ a b y m i (.go s) = yf y (singles (a.drop i) (b.drop i)) s
  | 0, i, s, h => by
    rw [F120_l1, List.drop_of_length_le (by omega)]; rfl
  | m + 1, i, s, h => by
    have ha : i < a.length := by omega
    have hb : i < b.length := by omega
    rw [F120_l1, show ((24 : Int)).toNat = 24 from rfl, F120_l2_eq _ a b i ha hb y 24 0 s rfl, List.drop_eq_getElem_cons ha, List.drop_eq_getElem_cons hb]
    unfold singles
    rw [List.zip_cons_cons, List.flatMap_cons, yf_append]
    show ((yf y (singlesOf (a[i], b[i])) s).bind _) = _
    cases yf y (singlesOf (a[i], b[i])) s with
    | none => rfl
    | some r =>
      cases r with
      | go s' => exact F120_l1_eq a b hl y m (i + 1) s' (by omega)
      | out c s' => rfl
theorem F120_eq {σ : Type} (a b : List Atom) (hl : a.length = b.length) (y : σ → differ_single → Option (Lp σ)) (s : σ) : F120 σ y (.go s) a b = yf y (singles a b) s := by
  unfold F120
  rw [show ((a.length : Int)).toNat = a.length by omega, F120_l1_eq a b hl y a.length 0 s (by omega)]
  rfl

/-! ### the parts -/
def fixT (t : Tern) (i : Nat) (on : Bool) : Tern := bif on then ⟨wor (wless (tclean t).Value (wbit i)) (wbit i), wor (tclean t).Mask (wbit i)⟩ else ⟨wless (tclean t).Value (wbit i), wor (tclean t).Mask (wbit i)⟩
theorem F82_eq (t : Tern) (i : Nat) (h : i < 128) (on : Bool) : F82 t (i : Int) on = some (fixT t i on) := by
  unfold F82
  rw [F126_eq i h, Option.bind_some, F119_eq, Option.bind_some, F123_eq, Option.bind_some, F127_eq, Option.bind_some]
  cases on
  · rfl
  · rw [cond_true, F123_eq]; rfl
theorem F86_eq (t : Tern) (i : Nat) (h : i < 128) (on : Bool) : F86 t (i : Int) on = some (fixT t i on) := by
  unfold F86
  rw [F128_eq, Option.bind_some, F131_eq i h, Option.bind_some, F132_eq, Option.bind_some, F133_eq, Option.bind_some]
  cases on
  · rfl
  · rw [cond_true, F132_eq]; rfl
/-- the part of a bit, if it is one -/
def partOf (c : Cube) (f bit : Nat) (on : Bool) : Option Cube :=
  bif wt (ve c f).Mask bit && (wt (ve c f).Value bit == on) then none else some (Vector.ofFn fun k => if f = k.1 then fixT (ve c f) bit (!on) else ve c k.1)
def partS (c : Cube) (x : differ_single) : Option Cube := partOf c x.field.toNat x.bit.toNat x.on
theorem set_part (c : Cube) (f : Nat) (hf : f < 24) (t : Tern) : Vector.set c f t hf = Vector.ofFn fun k => if f = k.1 then t else ve c k.1 := ve_ext fun j hj => by
  rw [ve_set _ _ _ _ _ hj, ve_ofFn (fun k => if f = k then t else ve c k) j hj]
def okS (x : differ_single) : Prop := ∃ f k : Nat, x.field = (f : Int) ∧ f < 24 ∧ x.bit = (k : Int) ∧ k < 128
theorem singles_ok (a b : List Atom) : ∀ x ∈ singles a b, okS x := by
  intro x hx
  unfold singles singlesOf singlesAt at hx
  simp only [List.mem_flatMap, List.mem_map] at hx
  obtain ⟨p, _, f, hf, bit, hbit, rfl⟩ := hx
  obtain ⟨k, rfl, h2, _⟩ := (bitsDn_mem _ _ _).1 hbit
  have : f < 24 := by
    have := (List.mem_range'_1.1 hf).2
    omega
  exact ⟨f, k, rfl, this, rfl, h2⟩
theorem F78_b1_eq {σ : Type} (c : Cube) (y : σ → Cube → Option (Lp σ)) (s : σ) (x : differ_single) (hx : okS x) : F78_b1 σ c y (.go s) x = passM y s (partS c x) := by
  obtain ⟨f, k, h1, hf, h2, hk⟩ := hx
  obtain ⟨xf, xb, on⟩ := x
  simp only at h1 h2
  subst h1; subst h2
  unfold F78_b1 partS partOf
  rw [chk_nat hf, Option.bind_some, vget_eq, F81_eq _ k hk, Option.bind_some]
  simp only [Int.toNat_natCast]
  have hset : ∀ t, Vector.set c f t hf = Vector.ofFn fun k => if f = k.1 then t else ve c k.1 := fun t => set_part c f hf t
  have key : ∀ z : Cube, ((y s z).bind fun s23 => bif (!(Lp.isGo s23)) then some (Lp.out .ret s23) else some (Lp.go s23)) = (y s z).bind fun r => some (bif r.isGo then (Lp.go r : Lp (Lp σ)) else Lp.out .ret r) := fun z => by
    cases y s z with
    | none => rfl
    | some r => cases r <;> rfl
  cases h5 : wt (ve c f).Mask k
  · rw [opt_false, Option.bind_some, Bool.false_and, Bool.false_and, cond_false, cond_false, F82_eq _ k hk, Option.bind_some, Option.bind_some]
    show ((y s (Vector.set c f _ hf)).bind _) = _
    rw [hset]
    exact key _
  · rw [opt_true, F81_eq _ k hk, Option.bind_some, Bool.true_and]
    cases wt (ve c f).Value k == on
    · rw [cond_false, cond_false, F82_eq _ k hk, Option.bind_some, Option.bind_some]
      show ((y s (Vector.set c f _ hf)).bind _) = _
      rw [hset]
      exact key _
    · rfl
def parts (c : Cube) (a b : List Atom) : List Cube := bif unl a b then [cclean c] else (singles a b).filterMap (partS (cclean c))
theorem F78_eq {σ : Type} (c : Cube) (a b : List Atom) (y : σ → Cube → Option (Lp σ)) (s : σ) : F78 σ y (.go s) c a b = yf y (parts c a b) s := by
  unfold F78 parts
  rw [F79_eq, Option.bind_some, F39_eq, Option.bind_some]
  cases hu : unl a b
  · have hl : a.length = b.length := by
      unfold unl at hu
      simp at hu
      exact hu.1
    rw [cond_false, cond_false]
    show ((F80 a b).bind _) = _
    unfold F80
    rw [Option.bind_some]
    show ((F120 (Lp σ) (F78_b1 σ (cclean c) y) (.go (.go s)) a b).bind _) = _
    rw [F120_eq a b hl]
    exact yf_pass y (partS (cclean c)) _ (singles a b) s fun s x hx => F78_b1_eq (cclean c) y s x (singles_ok a b x hx)
  · rw [cond_true, cond_true, yf]
    show ((y s (cclean c)).bind fun s10 => some s10) = _
    cases y s (cclean c) with
    | none => rfl
    | some r => cases r <;> rfl
theorem bitsDn_le (a : Wide) : ∀ n, (bitsDn a n).length ≤ n
  | 0 => Nat.le_refl _
  | n + 1 => by
    have := bitsDn_le a n
    rw [bitsDn]
    cases wt a n
    · rw [cond_false]; omega
    · rw [cond_true, List.length_cons]; omega
theorem flatMap_le {α β : Type} (f : α → List β) (k : Nat) : ∀ l : List α, (∀ x ∈ l, (f x).length ≤ k) → (l.flatMap f).length ≤ l.length * k
  | [], _ => by simp
  | x :: l, h => by
    rw [List.flatMap_cons, List.length_append, List.length_cons, Nat.succ_mul]
    have h1 := h x (by simp)
    have h2 := flatMap_le f k l fun y hy => h y (by simp [hy])
    omega
theorem singles_le (a b : List Atom) (ha : a.length ≤ 12) : (singles a b).length ≤ 36864 := by
  unfold singles
  have h := flatMap_le singlesOf (24 * 128) (a.zip b) fun p _ => by
    unfold singlesOf
    have h2 := flatMap_le (singlesAt p.1 p.2) 128 (List.range' 0 24) fun f _ => by
      unfold singlesAt
      rw [List.length_map]
      exact bitsDn_le _ _
    simpa using h2
  have hz : (a.zip b).length ≤ 12 := by rw [List.length_zip]; omega
  have : (a.zip b).length * (24 * 128) ≤ 12 * (24 * 128) := Nat.mul_le_mul_right _ hz
  omega
theorem parts_le (c : Cube) (a b : List Atom) (ha : a.length ≤ 12) : (parts c a b).length ≤ 36864 := by
  unfold parts
  cases unl a b
  · exact Nat.le_trans (List.length_filterMap_le ..) (singles_le a b ha)
  · simp
theorem F37_eq (c : Cube) (a b : List Atom) (ha : a.length ≤ 12) : F37 c a b = some (parts c a b) := by
  have hlim : lim = 4294967296 := rfl
  have hp := parts_le c a b ha
  unfold F37 F34
  rw [Option.bind_some]
  unfold F87 F134
  rw [collect_yf (parts c a b) _ (fun y s => F78_eq c a b y s) (by omega)]
  rfl
theorem F38_eq (c : Cube) (a b : List Atom) (ha : a.length ≤ 12) : F38 c a b = some (parts c a b) := by
  have hlim : lim = 4294967296 := rfl
  have hp := parts_le c a b ha
  unfold F38 F34
  rw [Option.bind_some]
  have hb : F38_b1 = collectF := by funext l x; rfl
  show (((F78 (List Cube) F38_b1 (.go []) c a b).bind lpGo).bind fun l => some l) = _
  rw [F78_eq, hb, yf_collect _ _ (by simp; omega)]
  simp [lpGo]

/-! ### the reference's parts -/
def sgl (x y : Tern) (k : Nat) : Bool × Bool := bif wt x.Mask k == wt y.Mask k then (false, false) else (true, bif wt x.Mask k then wt x.Value k else wt y.Value k)
theorem F84_eq (x y : Tern) (k : Nat) (h : k < 128) : F84 x y (k : Int) = some (sgl x y k) := by
  unfold F84 sgl
  rw [F85_eq _ k h, Option.bind_some, F85_eq _ k h, Option.bind_some]
  cases wt x.Mask k == wt y.Mask k
  · rw [cond_false, cond_false]
    cases wt x.Mask k
    · rw [cond_false, cond_false, F85_eq _ k h]; rfl
    · rw [cond_true, cond_true, F85_eq _ k h]; rfl
  · rfl
def rp (c : Cube) (x y : Tern) (f k : Nat) : Option Cube := bif (sgl x y k).1 then partOf c f k (sgl x y k).2 else none
def rb (c : Cube) (x y : Tern) (f : Nat) : Nat → List Cube
  | 0 => []
  | n + 1 => match rp c x y f n with
    | none => rb c x y f n
    | some z => z :: rb c x y f n
theorem rb_len (c : Cube) (x y : Tern) (f : Nat) : ∀ n, (rb c x y f n).length ≤ n
  | 0 => Nat.le_refl _
  | n + 1 => by
    have := rb_len c x y f n
    rw [rb]
    cases rp c x y f n with
    | none => show (rb c x y f n).length ≤ _; omega
    | some z => show (z :: rb c x y f n).length ≤ _; rw [List.length_cons]; omega
theorem rb_eq (c : Cube) (x y : Tern) (f : Nat) : ∀ n, n ≤ 128 → rb c x y f n = ((bitsDn (oneOf x y) n).map fun bit => (⟨(f : Int), bit, wt (valOf x y) bit.toNat⟩ : differ_single)).filterMap (partS c)
  | 0, _ => rfl
  | n + 1, hn => by
    have ih := rb_eq c x y f n (by omega)
    rw [rb, bitsDn]
    have h1 : wt (oneOf x y) n = (wt x.Mask n != wt y.Mask n) := wt_xor _ _ _
    cases ho : wt (oneOf x y) n
    · have : rp c x y f n = none := by
        unfold rp sgl
        rw [ho] at h1
        have : (wt x.Mask n == wt y.Mask n) = true := by
          revert h1
          cases wt x.Mask n <;> cases wt y.Mask n <;> decide
        rw [this]; rfl
      rw [this, cond_false]
      exact ih
    · rw [ho] at h1
      have h2 : (wt x.Mask n == wt y.Mask n) = false := by
        revert h1
        cases wt x.Mask n <;> cases wt y.Mask n <;> decide
      have h3 : wt (valOf x y) n = bif wt x.Mask n then wt x.Value n else wt y.Value n := by
        unfold valOf
        rw [wt_or, wt_and, wt_and]
        revert h2
        cases wt x.Mask n <;> cases wt y.Mask n <;> cases wt x.Value n <;> cases wt y.Value n <;> decide
      have h4 : rp c x y f n = partS c ⟨(f : Int), (n : Int), wt (valOf x y) n⟩ := by
        unfold rp sgl partS
        rw [h2, h3]
        simp only [cond_false, cond_true, Int.toNat_natCast]
      rw [cond_true, List.map_cons, List.filterMap_cons, h4]
      simp only [Int.toNat_natCast]
      cases partS c ⟨(f : Int), (n : Int), wt (valOf x y) n⟩ with
      | none => exact ih
      | some z => exact congrArg (z :: ·) ih
theorem F35_l3_eq (a b : List Atom) (i : Nat) (ha : i < a.length) (hb : i < b.length) (f : Nat) (hf : f < 24) (c : Cube) (go : List Cube → Int → Option (List Cube)) : ∀ (n m : Nat) (acc : List Cube), n ≤ 128 → n < m → acc.length + n ≤ lim →
    F35_l3 a (i : Int) (f : Int) b c go m acc ((n : Int) - 1) = go (acc ++ rb c (ve a[i].Rewrite f) (ve b[i].Rewrite f) f n) ((f + 1 : Nat) : Int) := by
  intro n
  have ef : IntKind.i64.wrap ((f : Int) + 1) = ((f + 1 : Nat) : Int) := by rw [wrap_i64 (by omega) (by omega)]; omega
  induction n with
  | zero =>
    intro m acc h1 h2 h3
    obtain ⟨m, rfl⟩ : ∃ k, m = k + 1 := ⟨m - 1, by omega⟩
    rw [F35_l3, decide_eq_false (by omega), cond_false, ef]
    simp [rb]
  | succ n ih =>
    intro m acc h1 h2 h3
    obtain ⟨m, rfl⟩ : ∃ k, m = k + 1 := ⟨m - 1, by omega⟩
    have e : ((n + 1 : Nat) : Int) - 1 = (n : Int) := by omega
    have e2 : IntKind.i64.wrap ((n : Int) - 1) = (n : Int) - 1 := wrap_i64 (by omega) (by omega)
    rw [e, F35_l3, decide_eq_true (by omega), cond_true, lget_lt ha, Option.bind_some, chk_nat hf, Option.bind_some, lget_lt hb, Option.bind_some, Option.bind_some, vget_eq, vget_eq, F84_eq _ _ n (by omega), Option.bind_some, Option.bind_some, vget_eq, F85_eq _ n (by omega), Option.bind_some, e2, rb]
    have hset : ∀ t, Vector.set c f t hf = Vector.ofFn fun k => if f = k.1 then t else ve c k.1 := fun t => set_part c f hf t
    have skip : rp c (ve a[i].Rewrite f) (ve b[i].Rewrite f) f n = none → F35_l3 a (i : Int) (f : Int) b c go m acc ((n : Int) - 1) = go (acc ++ match rp c (ve a[i].Rewrite f) (ve b[i].Rewrite f) f n with
        | none => rb c (ve a[i].Rewrite f) (ve b[i].Rewrite f) f n
        | some z => z :: rb c (ve a[i].Rewrite f) (ve b[i].Rewrite f) f n) ((f + 1 : Nat) : Int) := fun h => by
      rw [h]; exact ih m acc (by omega) (by omega) (by omega)
    cases hs : (sgl (ve a[i].Rewrite f) (ve b[i].Rewrite f) n).1
    · simp only [Bool.not_false, show ((true == false) = false) from rfl, Bool.false_and, opt_false, Option.bind_some, Bool.true_or, cond_true]
      exact skip (by unfold rp; rw [hs]; rfl)
    · simp only [Bool.not_true, show ((false == false) = true) from rfl, Bool.true_and, Bool.false_or]
      cases hc : wt (ve c f).Mask n
      · simp only [show ((false == true) = false) from rfl, opt_false, Option.bind_some, Bool.false_and, cond_false]
        rw [F86_eq _ n (by omega), Option.bind_some, hset, vget_eq, appd_ok (by simp; omega), Option.bind_some, ih m _ (by omega) (by omega) (by simp; omega)]
        have : rp c (ve a[i].Rewrite f) (ve b[i].Rewrite f) f n = some (Vector.ofFn fun k => if f = k.1 then fixT (ve c f) n (!(sgl (ve a[i].Rewrite f) (ve b[i].Rewrite f) n).2) else ve c k.1) := by
          unfold rp partOf
          rw [hs, hc]; rfl
        rw [this]
        simp
      · simp only [show ((true == true) = true) from rfl, opt_true, Option.bind_some, Bool.true_and, vget_eq]
        rw [F85_eq _ n (by omega), Option.bind_some]
        cases hv : wt (ve c f).Value n == (sgl (ve a[i].Rewrite f) (ve b[i].Rewrite f) n).2
        · rw [cond_false, F86_eq _ n (by omega), Option.bind_some, hset, appd_ok (by simp; omega), Option.bind_some, ih m _ (by omega) (by omega) (by simp; omega)]
          have : rp c (ve a[i].Rewrite f) (ve b[i].Rewrite f) f n = some (Vector.ofFn fun k => if f = k.1 then fixT (ve c f) n (!(sgl (ve a[i].Rewrite f) (ve b[i].Rewrite f) n).2) else ve c k.1) := by
            unfold rp partOf
            rw [hs, hc, hv]; rfl
          rw [this]
          simp
        · rw [cond_true]
          exact skip (by unfold rp partOf; rw [hs, hc, hv]; rfl)
def refAt (c : Cube) (p : Atom × Atom) (f : Nat) : List Cube := rb c (ve p.1.Rewrite f) (ve p.2.Rewrite f) f 128
theorem F35_l2_eq (a b : List Atom) (i : Nat) (ha : i < a.length) (hb : i < b.length) (hs : a.length ≤ 12) (c : Cube) (go : List Cube → Int → Option (List Cube)) : ∀ (m f : Nat) (acc : List Cube), f ≤ 24 → 24 < f + m → acc.length + (24 - f) * 128 ≤ lim →
    F35_l2 a (i : Int) b c go m acc (f : Int) = go (acc ++ (List.range' f (24 - f)).flatMap (refAt c (a[i], b[i]))) ((i + 1 : Nat) : Int)
  | 0, f, acc, h1, h2, h3 => by omega
  | m + 1, f, acc, h1, h2, h3 => by
    rw [F35_l2]
    by_cases h : f < 24
    · have hx := F35_l3_eq a b i ha hb f h c (F35_l2 a (i : Int) b c go m) 128 (((127 : Int) - 0).toNat + 2) acc (by omega) (by decide) (by omega)
      have hlen := rb_len c (ve a[i].Rewrite f) (ve b[i].Rewrite f) f 128
      rw [show (((128 : Nat) : Int) - 1) = 127 from rfl] at hx
      have : 24 - f = (24 - (f + 1)) + 1 := by omega
      rw [decide_eq_true (by omega), cond_true, hx, F35_l2_eq a b i ha hb hs c go m (f + 1) _ (by omega) (by omega) (by rw [List.length_append]; omega), this, List.range'_succ, List.flatMap_cons]
      simp [refAt]
    · have : 24 - f = 0 := by omega
      have e : IntKind.i64.wrap ((i : Int) + 1) = ((i + 1 : Nat) : Int) := by rw [wrap_i64 (by omega) (by omega)]; omega
      rw [decide_eq_false (by omega), cond_false, this, e]
      simp
def refOf (c : Cube) (p : Atom × Atom) : List Cube := (List.range' 0 24).flatMap (refAt c p)
theorem refOf_le (c : Cube) (p : Atom × Atom) : (refOf c p).length ≤ 3072 := by
  unfold refOf
  have := flatMap_le (refAt c p) 128 (List.range' 0 24) fun f _ => rb_len _ _ _ _ _
  simpa using this
theorem F35_l1_eq (a b : List Atom) (hl : a.length = b.length) (hs : a.length ≤ 12) (c : Cube) : ∀ (m i : Nat) (acc : List Cube), i ≤ a.length → a.length < i + m → acc.length + (a.length - i) * 3072 ≤ lim →
    F35_l1 a b c m acc (i : Int) = some (acc ++ ((a.drop i).zip (b.drop i)).flatMap (refOf c))
  | 0, i, acc, h1, h2, h3 => by omega
  | m + 1, i, acc, h1, h2, h3 => by
    rw [F35_l1]
    by_cases h : i < a.length
    · have hb : i < b.length := by omega
      have hx := F35_l2_eq a b i h hb hs c (F35_l1 a b c m) (((24 : Int) - 0).toNat + 1) 0 acc (by omega) (by decide) (by omega)
      rw [show ((0 : Nat) : Int) = 0 from rfl] at hx
      have hlen := refOf_le c (a[i], b[i])
      have e : (List.range' 0 (24 - 0)).flatMap (refAt c (a[i], b[i])) = refOf c (a[i], b[i]) := rfl
      rw [e] at hx
      rw [decide_eq_true (by omega), cond_true, hx, F35_l1_eq a b hl hs c m (i + 1) _ (by omega) (by omega) (by rw [List.length_append]; omega), List.drop_eq_getElem_cons h, List.drop_eq_getElem_cons hb, List.zip_cons_cons, List.flatMap_cons]
      simp
    · rw [decide_eq_false (by omega), cond_false, List.drop_of_length_le (by omega)]
      simp
theorem F35_eq (c : Cube) (a b : List Atom) (ha : a.length ≤ 12) : F35 c a b = some (parts c a b) := by
  have hlim : lim = 4294967296 := rfl
  unfold F35 parts
  rw [F83_eq, Option.bind_some, F40_eq a b ha, Option.bind_some]
  cases hu : unl a b
  · have hl : a.length = b.length := by
      unfold unl at hu
      simp at hu
      exact hu.1
    have := F35_l1_eq a b hl ha (cclean c) ((((a.length : Int) : Int) - 0).toNat + 1) 0 [] (by omega) (by omega) (by simp; omega)
    rw [show ((0 : Nat) : Int) = 0 from rfl] at this
    rw [cond_false, cond_false, this]
    congr 1
    rw [List.nil_append, List.drop_zero, List.drop_zero]
    unfold singles
    rw [List.filterMap_flatMap]
    congr 1
    funext p
    unfold refOf singlesOf
    rw [List.filterMap_flatMap]
    congr 1
    funext f
    exact rb_eq _ _ _ _ 128 (Nat.le_refl _)
  · rfl

/-! ### where they do otherwise -/
def offS (h : Header) (x : differ_single) : Bool := !(wt (ve h x.field.toNat) x.bit.toNat == x.on)
def atL (a b : List Atom) (h : Header) : Bool := unl a b || (singles a b).any (offS h)
theorem F41_b1_eq (h : Header) (s : Bool) (x : differ_single) (hx : okS x) : F41_b1 h s x = bif offS h x then some (.out .ret true) else some (.go s) := by
  obtain ⟨f, k, h1, hf, h2, hk⟩ := hx
  obtain ⟨xf, xb, on⟩ := x
  simp only at h1 h2
  subst h1; subst h2
  unfold F41_b1 offS
  simp only [Int.toNat_natCast]
  rw [chk_nat hf, Option.bind_some, vget_eq, F81_eq _ k hk, Option.bind_some]
theorem yf_any {α : Type} (y : Bool → α → Option (Lp Bool)) (p : α → Bool) : ∀ (l : List α) (s : Bool), (∀ s, ∀ x ∈ l, y s x = bif p x then some (.out .ret true) else some (.go s)) → yf y l s = bif l.any p then some (.out .ret true) else some (.go s)
  | [], s, _ => rfl
  | x :: l, s, h => by
    rw [yf, h s x (by simp), List.any_cons]
    cases p x
    · exact yf_any y p l s fun s y hy => h s y (by simp [hy])
    · rfl
theorem F41_eq (a b : List Atom) (h : Header) : F41 a b h = some (atL a b h) := by
  unfold F41 atL
  rw [F39_eq, Option.bind_some]
  cases hu : unl a b
  · have hl : a.length = b.length := by
      unfold unl at hu
      simp at hu
      exact hu.1
    rw [cond_false, Bool.false_or]
    unfold F80
    rw [Option.bind_some]
    show ((F120 Bool (F41_b1 h) (.go false) a b).bind _) = _
    rw [F120_eq a b hl, yf_any (F41_b1 h) (offS h) _ _ fun s x hx => F41_b1_eq h s x (singles_ok a b x hx)]
    cases (singles a b).any (offS h) <;> rfl
  · rfl
def capply (r : Cube) (h : Header) : Header := Vector.ofFn fun f => wor (wless (ve h f.1) (ve r f.1).Mask) (wand (ve r f.1).Value (ve r f.1).Mask)
theorem ve_capply (r : Cube) (h : Header) (f : Nat) (hf : f < 24) : ve (capply r h) f = wor (wless (ve h f) (ve r f).Mask) (wand (ve r f).Value (ve r f).Mask) := ve_ofFn (fun f => wor (wless (ve h f) (ve r f).Mask) (wand (ve r f).Value (ve r f).Mask)) f hf
theorem F92_l1_eq (r : Cube) (h : Header) : ∀ (m i : Nat), i ≤ 24 → 24 < i + m → F92_l1 r m (upto (fun f => wor (wless (ve h f) (ve r f).Mask) (wand (ve r f).Value (ve r f).Mask)) h i) (i : Int) = some (capply r h)
  | 0, i, h1, h2 => by omega
  | m + 1, i, h1, h2 => by
    rw [F92_l1]
    by_cases hi : i < 24
    · have e : IntKind.i64.wrap ((i : Int) + 1) = ((i + 1 : Nat) : Int) := by rw [wrap_i64 (by omega) (by omega)]; omega
      simp only [decide_eq_true (show ((i : Int) < 24) by omega), cond_true, chk_nat hi, Option.bind_some, vget_eq, F133_eq, F130_eq, F132_eq, e]
      rw [ve_upto _ _ _ _ hi, if_neg (by omega)]
      have := upto_set (fun f => wor (wless (ve h f) (ve r f).Mask) (wand (ve r f).Value (ve r f).Mask)) h i hi
      rw [this]
      exact F92_l1_eq r h m (i + 1) (by omega) (by omega)
    · have : i = 24 := by omega
      subst this
      rw [decide_eq_false (by omega), cond_false, upto_all]; rfl
theorem F92_eq (r : Cube) (h : Header) : F92 r h = some (capply r h) := by
  unfold F92
  have := F92_l1_eq r h (((24 : Int) - 0).toNat + 1) 0 (by omega) (by decide)
  rw [upto_zero] at this
  exact this
def difA (h : Header) (p : Atom × Atom) : Bool := decide (capply p.1.Rewrite h ≠ capply p.2.Rewrite h)
theorem F42_l1_eq (a b : List Atom) (h : Header) (hl : a.length = b.length) (hs : a.length ≤ 12) : ∀ (m i : Nat), i ≤ a.length → a.length < i + m → F42_l1 a h b m (i : Int) = some (((a.drop i).zip (b.drop i)).any (difA h))
  | 0, i, h1, h2 => by omega
  | m + 1, i, h1, h2 => by
    rw [F42_l1]
    by_cases hi : i < a.length
    · have hb : i < b.length := by omega
      have e : IntKind.i64.wrap ((i : Int) + 1) = ((i + 1 : Nat) : Int) := by rw [wrap_i64 (by omega) (by omega)]; omega
      rw [decide_eq_true (by omega), cond_true, lget_lt hi, Option.bind_some, F92_eq, Option.bind_some, lget_lt hb, Option.bind_some, F92_eq, Option.bind_some, e, F42_l1_eq a b h hl hs m (i + 1) (by omega) (by omega), List.drop_eq_getElem_cons hi, List.drop_eq_getElem_cons hb, List.zip_cons_cons, List.any_cons]
      show (bif difA h (a[i], b[i]) then _ else _) = _
      cases difA h (a[i], b[i]) <;> rfl
    · rw [decide_eq_false (by omega), cond_false, List.drop_of_length_le (by omega)]
      rfl
theorem bad2_false {x y : Tern} (h : bad2 x y = false) : ∀ k, k < 128 → wt x.Mask k = true → wt y.Mask k = true → wt x.Value k = wt y.Value k := by
  intro k hk h1 h2
  unfold bad2 at h
  have h3 : wzero (wand (wand x.Mask y.Mask) (wxor x.Value y.Value)) = true := by simpa using h
  have h4 := (wzero_iff _).1 h3 k hk
  rw [wt_and, wt_and, wt_xor, h1, h2] at h4
  revert h4
  cases wt x.Value k <;> cases wt y.Value k <;> decide
theorem pair_same (p : Atom × Atom) (h : Header) (hp : apart p.1 p.2 = false) : (singlesOf p).any (offS h) = difA h p := by
  have hb : ∀ f, f < 24 → bad2 (ve p.1.Rewrite f) (ve p.2.Rewrite f) = false := fun f hf => by
    unfold apart at hp
    have h1 : ((List.range' 0 24).any fun f => bad2 (ve p.1.Rewrite f) (ve p.2.Rewrite f)) = false := by
      revert hp
      generalize (List.range' 0 24).any (fun f => bad2 (ve p.1.Rewrite f) (ve p.2.Rewrite f)) = q
      cases q
      · intro _; rfl
      · simp
    rw [List.any_eq_false] at h1
    have := h1 f (by rw [List.mem_range'_1]; omega)
    simpa using this
  -- bit by bit
  have bits : ∀ f, f < 24 → ∀ k, k < 128 → (wt (ve (capply p.1.Rewrite h) f) k = wt (ve (capply p.2.Rewrite h) f) k ↔ ¬ (wt (oneOf (ve p.1.Rewrite f) (ve p.2.Rewrite f)) k = true ∧ (wt (ve h f) k == wt (valOf (ve p.1.Rewrite f) (ve p.2.Rewrite f)) k) = false)) := fun f hf k hk => by
    have h2 := bad2_false (hb f hf) k hk
    rw [ve_capply _ _ _ hf, ve_capply _ _ _ hf]
    unfold oneOf valOf
    simp only [wt_or, wt_and, wt_xor, wt_less _ _ _ hk]
    revert h2
    cases wt (ve p.1.Rewrite f).Mask k <;> cases wt (ve p.2.Rewrite f).Mask k <;> cases wt (ve p.1.Rewrite f).Value k <;> cases wt (ve p.2.Rewrite f).Value k <;> cases wt (ve h f) k <;> decide
  rw [Bool.eq_iff_iff, List.any_eq_true]
  unfold difA
  rw [decide_eq_true_eq]
  constructor
  · rintro ⟨x, hx, ho⟩ he
    unfold singlesOf singlesAt at hx
    simp only [List.mem_flatMap, List.mem_map] at hx
    obtain ⟨f, hf, bit, hbit, rfl⟩ := hx
    obtain ⟨k, rfl, hk, hw⟩ := (bitsDn_mem _ _ _).1 hbit
    have hf24 : f < 24 := by
      have := (List.mem_range'_1.1 hf).2
      omega
    have := (bits f hf24 k hk).1 (by rw [he])
    apply this
    refine ⟨hw, ?_⟩
    unfold offS at ho
    simpa using ho
  · intro hne
    apply Classical.byContradiction
    intro hno
    apply hne
    refine ve_ext fun f hf => wt_ext fun k hk => (bits f hf k hk).2 ?_
    rintro ⟨h1, h2⟩
    apply hno
    refine ⟨⟨(f : Int), (k : Int), wt (valOf (ve p.1.Rewrite f) (ve p.2.Rewrite f)) k⟩, ?_, ?_⟩
    · unfold singlesOf singlesAt
      simp only [List.mem_flatMap, List.mem_map]
      exact ⟨f, by rw [List.mem_range'_1]; omega, (k : Int), (bitsDn_mem _ _ _).2 ⟨k, rfl, hk, h1⟩, by simp⟩
    · unfold offS
      simpa using h2
theorem likeL_mem {a b : List Atom} (h : likeL a b = true) : ∀ p ∈ a.zip b, apart p.1 p.2 = false := fun p hp => by
  unfold likeL at h
  have := List.all_eq_true.1 h p hp
  simpa using this
theorem any_flat (h : Header) : ∀ l : List (Atom × Atom), (∀ p ∈ l, apart p.1 p.2 = false) → (l.flatMap singlesOf).any (offS h) = l.any (difA h)
  | [], _ => rfl
  | p :: l, hl => by
    rw [List.flatMap_cons, List.any_append, List.any_cons, pair_same p h (hl p (by simp)), any_flat h l fun q hq => hl q (by simp [hq])]
theorem F42_eq (a b : List Atom) (h : Header) (ha : a.length ≤ 12) : F42 a b h = some (atL a b h) := by
  unfold F42 atL
  rw [F40_eq a b ha, Option.bind_some]
  cases hu : unl a b
  · have hl : a.length = b.length ∧ likeL a b = true := by
      unfold unl at hu
      simp at hu
      exact hu
    have := F42_l1_eq a b h hl.1 ha ((((a.length : Int) : Int) - 0).toNat + 1) 0 (by omega) (by omega)
    rw [show ((0 : Nat) : Int) = 0 from rfl] at this
    rw [cond_false, Bool.false_or, this, List.drop_zero, List.drop_zero]
    unfold singles
    rw [any_flat h _ (likeL_mem hl.2)]
  · rfl
theorem F36_l1_eq (s t : List Cube) (hl : s.length = t.length) : ∀ (m i : Nat), i + m = s.length → F36_l1 s t m i = some (decide (s.drop i = t.drop i))
  | 0, i, h => by rw [F36_l1, List.drop_of_length_le (by omega), List.drop_of_length_le (by omega)]; simp
  | m + 1, i, h => by
    have h1 : i < s.length := by omega
    have h2 : i < t.length := by omega
    rw [F36_l1, lget_lt h1, Option.bind_some, lget_lt h2, Option.bind_some, List.drop_eq_getElem_cons h1, List.drop_eq_getElem_cons h2]
    by_cases he : s[i] = t[i]
    · rw [decide_eq_false (by simpa using he), cond_false, F36_l1_eq s t hl m (i + 1) (by omega)]
      simp only [List.cons.injEq, he, true_and]
    · rw [decide_eq_true (by simpa using he), cond_true]
      simp only [List.cons.injEq, he, false_and, decide_false]
theorem F36_eq (s t : List Cube) : F36 s t = some (decide (s = t)) := by
  unfold F36
  by_cases hl : s.length = t.length
  · rw [decide_eq_false (by omega), cond_false, show ((s.length : Int)).toNat = s.length by omega, F36_l1_eq s t hl _ 0 (by omega)]
    simp
  · rw [decide_eq_true (by omega), cond_true]
    have : s ≠ t := fun e => hl (e ▸ rfl)
    simp [this]
theorem F32_eq : F32 = some true := by decide +kernel
theorem differ_tells (c : Cube) (a b : List Atom) (h : Header) : F5 c a b h = some true := by
  have h33 : ∀ l, F33 l = some (decide ((l.length : Int) ≤ 12)) := fun _ => rfl
  have h34 : ∃ q, F34 c a b = some q := ⟨_, rfl⟩
  obtain ⟨q, hq⟩ := h34
  unfold F5
  rw [F32_eq, Option.bind_some, h33, h33, hq]
  by_cases ha : (a.length : Int) ≤ 12
  · by_cases hb : (b.length : Int) ≤ 12
    · rw [decide_eq_true ha, decide_eq_true hb]
      simp only [Bool.not_true, Bool.not_false, Bool.or_self, opt_true, Option.bind_some, cond_false]
      rw [F35_eq c a b (by omega), Option.bind_some, F37_eq c a b (by omega), Option.bind_some, F36_eq, Option.bind_some, F38_eq c a b (by omega), F39_eq, F40_eq a b (by omega), F41_eq, F42_eq a b h (by omega)]
      simp [opt, F36_eq]
    · rw [decide_eq_true ha, decide_eq_false hb]
      simp [opt]
  · rw [decide_eq_false ha]
    simp [opt]

/-! ### headers in parts -/
def thas (t : Tern) (v : Wide) : Bool := wzero (wand (wxor t.Value v) t.Mask)
theorem thas_iff (t : Tern) (v : Wide) : thas t v = true ↔ ∀ k, k < 128 → wt t.Mask k = true → wt t.Value k = wt v k := by
  unfold thas
  rw [wzero_iff]
  constructor
  · intro h k hk hm
    have := h k hk
    rw [wt_and, wt_xor, hm] at this
    revert this
    cases wt t.Value k <;> cases wt v k <;> decide
  · intro h k hk
    rw [wt_and, wt_xor]
    cases hm : wt t.Mask k
    · simp
    · rw [h k hk hm]; simp
theorem F94_eq (t : Tern) (v : Wide) : F94 t v = some (thas t v) := rfl
def chas (c : Cube) (h : Header) : Bool := (List.range' 0 24).all fun f => thas (ve c f) (ve h f)
theorem F45_l1_eq (c : Cube) (h : Header) : ∀ (l : List Tern) (i : Nat), i + l.length = 24 → l = (Vector.toList c).drop i → F45_l1 h l i = some ((List.range' i l.length).all fun f => thas (ve c f) (ve h f))
  | [], i, h1, h2 => by rw [F45_l1]; rfl
  | x :: l, i, h1, h2 => by
    simp only [List.length_cons] at h1
    have hi : i < (Vector.toList c).length := by simp; omega
    rw [List.drop_eq_getElem_cons hi] at h2
    obtain ⟨rfl, h3⟩ := List.cons.inj h2
    have hx : (Vector.toList c)[i] = ve c i := by rw [Vector.getElem_toList, ve_lt _ _ (by omega)]
    rw [F45_l1, chk_nat (by omega), Option.bind_some, vget_eq, F94_eq, Option.bind_some, F45_l1_eq c h l (i + 1) (by omega) h3, List.length_cons, List.range'_succ, List.all_cons, hx]
    cases thas (ve c i) (ve h i) <;> rfl
theorem F45_eq (c : Cube) (h : Header) : F45 c h = some (chas c h) := by
  unfold F45 chas
  have := F45_l1_eq c h (Vector.toList c) 0 (by simp) rfl
  rw [this]
  simp
theorem chas_iff (c : Cube) (h : Header) : chas c h = true ↔ ∀ f, f < 24 → thas (ve c f) (ve h f) = true := by
  unfold chas
  rw [List.all_eq_true]
  constructor
  · intro hh f hf
    exact hh f (by rw [List.mem_range'_1]; omega)
  · intro hh f hf
    exact hh f (by have := (List.mem_range'_1.1 hf).2; omega)
theorem thas_clean (t : Tern) (v : Wide) : thas (tclean t) v = thas t v := by
  rw [Bool.eq_iff_iff, thas_iff, thas_iff]
  unfold tclean
  constructor
  · intro h k hk hm
    have := h k hk hm
    rw [wt_and, hm, Bool.and_true] at this
    exact this
  · intro h k hk hm
    have hm' : wt t.Mask k = true := hm
    rw [wt_and, hm', Bool.and_true]
    exact h k hk hm'
theorem chas_clean (c : Cube) (h : Header) : chas (cclean c) h = chas c h := by
  rw [Bool.eq_iff_iff, chas_iff, chas_iff]
  constructor
  · intro hh f hf
    have := hh f hf
    rwa [ve_cclean _ _ hf, thas_clean] at this
  · intro hh f hf
    rw [ve_cclean _ _ hf, thas_clean]
    exact hh f hf
theorem thas_fix (t : Tern) (i : Nat) (hi : i < 128) (on : Bool) (v : Wide) : thas (fixT t i on) v = true ↔ (∀ k, k < 128 → k ≠ i → wt t.Mask k = true → wt t.Value k = wt v k) ∧ wt v i = on := by
  have hm : ∀ k, k < 128 → wt (fixT t i on).Mask k = (wt t.Mask k || decide (i = k)) := fun k hk => by
    unfold fixT tclean
    cases on <;> simp only [cond_true, cond_false, wt_or, wt_bit i k hi hk]
  have hv : ∀ k, k < 128 → wt (fixT t i on).Value k = if i = k then on else (wt t.Value k && wt t.Mask k) := fun k hk => by
    unfold fixT tclean
    by_cases e : i = k
    · subst e
      cases on <;> simp [cond_true, cond_false, wt_or, wt_less _ _ _ hk, wt_and, wt_bit i i hi hi]
    · cases on <;> simp [cond_true, cond_false, wt_or, wt_less _ _ _ hk, wt_and, wt_bit i k hi hk, e]
  rw [thas_iff]
  constructor
  · intro h
    refine ⟨fun k hk hne hmk => ?_, ?_⟩
    · have := h k hk (by rw [hm k hk, hmk]; rfl)
      rw [hv k hk, if_neg (fun e => hne e.symm), hmk, Bool.and_true] at this
      exact this
    · have := h i hi (by rw [hm i hi]; simp)
      rw [hv i hi, if_pos rfl] at this
      exact this.symm
  · rintro ⟨h1, h2⟩ k hk hmk
    rw [hv k hk]
    by_cases e : i = k
    · subst e; rw [if_pos rfl, h2]
    · rw [if_neg e]
      rw [hm k hk] at hmk
      have hmk' : wt t.Mask k = true := by simpa [e] using hmk
      rw [hmk', Bool.and_true]
      exact h1 k hk (fun e' => e e'.symm) hmk'
theorem part_has (c : Cube) (f k : Nat) (hf : f < 24) (hk : k < 128) (on : Bool) (h : Header) : ((partOf c f k on).any fun z => chas z h) = (chas c h && !(wt (ve h f) k == on)) := by
  have hz : ∀ t : Tern, chas (Vector.ofFn fun j => if f = j.1 then t else ve c j.1) h = true ↔ (∀ g, g < 24 → g ≠ f → thas (ve c g) (ve h g) = true) ∧ thas t (ve h f) = true := fun t => by
    rw [chas_iff]
    have he : ∀ g, g < 24 → ve (Vector.ofFn fun j : _root_.Fin 24 => if f = j.1 then t else ve c j.1) g = if f = g then t else ve c g := fun g hg => ve_ofFn (fun j => if f = j then t else ve c j) g hg
    constructor
    · intro hh
      refine ⟨fun g hg hne => ?_, ?_⟩
      · have := hh g hg
        rwa [he g hg, if_neg (fun e => hne e.symm)] at this
      · have := hh f hf
        rwa [he f hf, if_pos rfl] at this
    · rintro ⟨h1, h2⟩ g hg
      rw [he g hg]
      by_cases e : f = g
      · subst e; rw [if_pos rfl]; exact h2
      · rw [if_neg e]; exact h1 g hg (fun e' => e e'.symm)
  rw [Bool.eq_iff_iff]
  unfold partOf
  cases hs : wt (ve c f).Mask k && (wt (ve c f).Value k == on)
  · rw [cond_false]
    show chas _ h = true ↔ _
    rw [hz, thas_fix _ _ hk, Bool.and_eq_true, chas_iff]
    constructor
    · rintro ⟨h1, h2, h3⟩
      refine ⟨fun g hg => ?_, by rw [h3]; cases on <;> rfl⟩
      by_cases e : g = f
      · subst e
        rw [thas_iff]
        intro j hj hm
        by_cases e2 : j = k
        · subst e2
          rw [hm, Bool.true_and] at hs
          rw [h3]
          revert hs
          cases wt (ve c g).Value j <;> cases on <;> decide
        · exact h2 j hj e2 hm
      · exact h1 g hg e
    · rintro ⟨h1, h2⟩
      refine ⟨fun g hg _ => h1 g hg, fun j hj _ hm => (thas_iff _ _).1 (h1 f hf) j hj hm, ?_⟩
      revert h2
      cases wt (ve h f) k <;> cases on <;> decide
  · rw [cond_true]
    constructor
    · intro h; cases h
    · intro hh
      rw [Bool.and_eq_true, chas_iff] at hh
      rw [Bool.and_eq_true] at hs
      have h1 := (thas_iff _ _).1 (hh.1 f hf) k hk hs.1
      have h2 := hh.2
      rw [← h1, hs.2] at h2
      cases h2
theorem F93_eq (s : List Cube) (f : Cube → Option Bool) (p : Cube → Bool) (hf : ∀ x ∈ s, f x = some (p x)) : F93 s f = some (fidx p s) := by
  unfold F93
  rw [show ((s.length : Int)).toNat = s.length by omega]
  exact idx_spec p (fun i => by rw [F93_l1]) (fun m i => by rw [F93_l1]) hf
theorem F43_eq (s : List Cube) (f : Cube → Option Bool) (p : Cube → Bool) (hf : ∀ x ∈ s, f x = some (p x)) : F43 s f = some (s.any p) := by
  unfold F43; rw [F93_eq s f p hf, Option.bind_some, fidx_any]
theorem any_filterMap {α β : Type} (g : α → Option β) (p : β → Bool) : ∀ l : List α, (l.filterMap g).any p = l.any fun x => (g x).any p
  | [] => rfl
  | x :: l => by
    rw [List.filterMap_cons, List.any_cons, ← any_filterMap g p l]
    cases g x <;> rfl
theorem parts_any (c : Cube) (a b : List Atom) (h : Header) : ((parts c a b).any fun z => chas z h) = (chas c h && atL a b h) := by
  unfold parts atL
  cases unl a b
  · rw [cond_false, any_filterMap, Bool.false_or]
    have : ∀ l : List differ_single, (∀ x ∈ l, okS x) → (l.any fun x => (partS (cclean c) x).any fun z => chas z h) = (chas c h && l.any (offS h)) := by
      intro l
      induction l with
      | nil => intro _; simp
      | cons x l ih =>
        intro hl
        obtain ⟨f, k, h1, hf, h2, hk⟩ := hl x (by simp)
        have e1 : x.field.toNat = f := by omega
        have e2 : x.bit.toNat = k := by omega
        have hp := part_has (cclean c) f k hf hk x.on h
        rw [chas_clean] at hp
        rw [List.any_cons, List.any_cons, ih fun y hy => hl y (by simp [hy])]
        unfold partS offS
        rw [e1, e2, hp]
        cases chas c h <;> simp
    exact this _ (singles_ok a b)
  · rw [cond_true, Bool.true_or, Bool.and_true]
    simp [chas_clean]
theorem differ_parts (c : Cube) (a b : List Atom) (h : Header) : F6 c a b h = some true := by
  have h33 : ∀ l, F33 l = some (decide ((l.length : Int) ≤ 12)) := fun _ => rfl
  unfold F6
  rw [h33, h33, Option.bind_some]
  by_cases ha : (a.length : Int) ≤ 12
  · by_cases hb : (b.length : Int) ≤ 12
    · rw [decide_eq_true ha, decide_eq_true hb]
      simp only [Bool.not_true, Bool.not_false, Bool.or_self, opt_true, Option.bind_some, cond_false]
      rw [F37_eq c a b (by omega), Option.bind_some, F43_eq _ (fun x => F44 x h) (fun z => chas z h) (fun z _ => by unfold F44; rw [F45_eq]; rfl), Option.bind_some, F45_eq, Option.bind_some, F41_eq, parts_any]
      cases chas c h <;> simp [opt, F32_eq]
    · rw [decide_eq_true ha, decide_eq_false hb]
      simp [opt, F32_eq]
  · rw [decide_eq_false ha]
    simp [opt, F32_eq]
end Go.Proofs.Ytokmmcflinnfiaa.W
